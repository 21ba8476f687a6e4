/- Rules: a region in whatever order, walked as a graph of states, each state once. Conditions: none. -/
import Derived.Test.YthidohmobbomfaaGreatGxZm
set_option linter.unusedVariables false
set_option linter.unusedSimpArgs false
namespace Go.Gx
open Nat renaming eq_of_beq_eq_true→qb
open Bool renaming and_eq_true→qc
open Go.RowKit
section
variable {P:Program} {n:Nat} {l:Env} {w:World} {K:Env→World→Prop} {ops:Array Oper}
def Edg (P:Program) (n:Nat) (ops:Array Oper) (Is:List (Env→World→Prop)):List (Nat × Nat × Nat)→Prop
 | []=>True
 | (k,i,c)::es=>(∃Ik Ic,Is[k]?=some Ik∧Is[c]?=some Ic∧∀l w,Ik l w→∃o,ops[i]?=some o∧WL P n ops Ic [o] l w)∧Edg P n ops Is es
theorem edg_mem {Is:List (Env→World→Prop)}:∀{E:List (Nat × Nat × Nat)},Edg P n ops Is E→∀{k i c:Nat},(k,i,c)∈E→∃Ik Ic,Is[k]?=some Ik∧Is[c]?=some Ic∧∀l w,Ik l w→∃o,ops[i]?=some o∧WL P n ops Ic [o] l w
 | [],_,_,_,_,h=>by cases h
 | (k',i',c')::es,⟨h1,h2⟩,k,i,c,h=>by
  rcases List.mem_cons.1 h with h | h
  ·cases h; exact h1
  ·exact edg_mem h2 h
def chkD (ops:Array Oper) (N:Nat) (T:List (Nat × Nat)) (E:List (Nat × Nat × Nat)) (kf:Nat):Bool :=
 Nat.beq ops.size N&&(List.range T.length).all fun k=>match T[k]? with
  | none=>false
  | some (m,0)=>Nat.beq k kf
  | some (m,d+1) =>
   let rs:=(List.range N).filter fun i=>rdM ops N m i
   !rs.isEmpty&&rs.all fun i=>E.any fun (a,b,c)=>Nat.beq a k&&(Nat.beq b i&&match T[c]? with
    | some (m',d')=>Nat.beq m' (m ||| 2 ^ i)&&Nat.beq d' d
    | none=>false)
theorem WA_dag {f:Nat} {listed:Array Bool} (N:Nat) (Is:List (Env→World→Prop)) (T:List (Nat × Nat)) (E:List (Nat × Nat × Nat)) (k0 kf ff m0 d0 mf:Nat) (hg:ff+d0=f) (h0:T[k0]?=some (m0,d0)) (hf:T[kf]?=some (mf,0))
  {I0 If:Env→World→Prop} (hI0:Is[k0]?=some I0) (hIf:Is[kf]?=some If) (hI:I0 l w) (hE:Edg P n ops Is E) (hfin:∀l w,If l w→WA P n ops K ff (arr N mf) l w)
  (hl:listed=arr N m0:=by kernel_rfl) (hT:chkD ops N T E kf=true:=by kernel_rfl):WA P n ops K f listed l w:=by
 subst hg hl
 unfold chkD at hT
 rw [qc,List.all_eq_true] at hT
 have hn:=qb hT.1
 have key:∀(d k m:Nat),T[k]?=some (m,d)→∀Ik,Is[k]?=some Ik→∀l w,Ik l w→WA P n ops K (ff+d) (arr N m) l w:=by
  intro d
  induction d with
  | zero =>
   intro k m hk Ik hIk l w hi
   have hlt:k<T.length:=(List.getElem?_eq_some_iff.1 hk).1
   have h1:=hT.2 k (List.mem_range.2 hlt)
   rw [hk] at h1
   have:k=kf:=qb h1
   subst this
   rw [hf] at hk
   cases hk
   rw [hIf] at hIk
   cases hIk
   exact hfin l w hi
  | succ d ih =>
   intro k m hk Ik hIk l w hi
   have hlt:k<T.length:=(List.getElem?_eq_some_iff.1 hk).1
   have h1:=hT.2 k (List.mem_range.2 hlt)
   rw [hk] at h1
   simp only [qc,Bool.not_eq_true',List.isEmpty_eq_false_iff,List.all_eq_true,List.any_eq_true] at h1
   obtain ⟨hne,hall⟩:=h1
   intro a ha
   refine wpAny_all (ready_eq hn) hne fun i hir=>?_
   obtain ⟨⟨a',b,c⟩,hE1,hE2⟩:=hall i hir
   simp only [qc] at hE2
   obtain ⟨e1,e2,e3⟩:=hE2
   have e1':=qb e1
   have e2':=qb e2
   subst e1' e2'
   cases hc:T[c]? with
   | none=>rw [hc] at e3; cases e3
   | some x =>
    obtain ⟨m',d'⟩:=x
    rw [hc] at e3
    simp only [qc] at e3
    have e4:=qb e3.1
    have e5:=qb e3.2
    subst e4 e5
    obtain ⟨Jk,Jc,g1,g2,g3⟩:=edg_mem hE hE1
    rw [hIk] at g1
    cases g1
    obtain ⟨o,ho,hw⟩:=g3 l w hi
    have hnext:=wpOp_of_WL' (Q:=fun e a w=>e=.normal∧∃l',Agr n l' a∧K l' w) ho ha hw
    refine wpOp_mono (fun a' w' ⟨l',h1,h2⟩=>?_) hnext
    rw [arr_set]
    exact ih c _ hc Jc g2 l' w' h2 a' h1
 exact key d0 k0 m0 h0 I0 hI0 l w hI
end
end Go.Gx
