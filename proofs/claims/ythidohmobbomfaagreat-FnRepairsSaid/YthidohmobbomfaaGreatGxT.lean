/- Some operations of a region that draws, in whatever order, each with its post; what is done already is left out. Conditions: none. -/
import Derived.Test.YthidohmobbomfaaGreatGxS
set_option linter.unusedVariables false
set_option linter.unusedSimpArgs false
namespace Go.Gx
open Bool renaming and_eq_true→qb
open List renaming mem_cons_of_mem→qc
open Go.RowKit

def lookX:List (Nat × PV)→Nat→Option PV
 | [],_=>none
 | (i,p)::X,j=>bif Nat.beq i j then some p else lookX X j
def setX (listed:Array Bool):List Nat→Array Bool
 | []=>listed
 | i::is=>setX (listed.setIfInBounds i true) is

def mem (i:Nat):List Nat→Bool
 | []=>false
 | j::js=>Nat.beq i j || mem i js
theorem mem_iff {i:Nat}:∀{l:List Nat},mem i l=true↔i∈l
 | []=>by simp [mem]
 | j::js=>by simp [mem,mem_iff (l:=js)]
def xDsts (os:List Oper) (l:Env):List Nat→List Nat→Bool
 | [],_=>true
 | i::is,seen=>match dstOf os i with
  | some d=>(look l d).isNone&&!mem d seen&&xDsts os l is (d::seen)
  | none=>false
def xDeps (os:List Oper) (listed:Array Bool) (ids:List Nat):List Nat→Bool
 | []=>true
 | i::is=>(match os[i]? with
  | some o=>o.after.toList.all fun e=>!Region.binds .any e || listed.getD e.on false || mem e.on ids
  | none=>false)&&xDeps os listed ids is
def xOut (os:List Oper) (ms:List Nat) (listed:Array Bool) (ids:List Nat):Nat→Nat→Bool
 | _,0=>true
 | k,f+1=>(listed.getD k false || mem k ids || ids.all fun i=>(ms.getD k 0).testBit i)&&xOut os ms listed ids (k+1) f
def xClosed (listed:Array Bool):Nat→List Oper→Bool
 | _,[]=>true
 | k,o::os=>(!listed.getD k false || o.after.toList.all fun e=>!Region.binds .any e || listed.getD e.on false)&&xClosed listed (k+1) os
def xFree (listed:Array Bool):List Nat→List Nat→Bool
 | [],_=>true
 | i::is,seen=>!listed.getD i true&&!mem i seen&&xFree listed is (i::seen)
theorem xFree_spec (listed:Array Bool):∀(is seen:List Nat),xFree listed is seen=true→is.Nodup∧(∀i∈is,i ∉ seen)∧∀i∈is,i<listed.size∧¬lst listed i
 | [],_,_=>by simp
 | i::is,seen,h=>by
  simp only [xFree,qb,Bool.not_eq_true'] at h
  obtain ⟨⟨h1,h2⟩,h3⟩:=h
  obtain ⟨g1,g2,g3⟩:=xFree_spec listed is (i::seen) h3
  have h2':i ∉ seen:=fun hm=>by rw [mem_iff.2 hm] at h2; cases h2
  refine ⟨List.nodup_cons.2 ⟨fun hm=>g2 i hm (List.mem_cons_self ..),g1⟩,fun j hj=>?_,fun j hj=>?_⟩
  ·rcases List.mem_cons.1 hj with rfl | hj
   ·exact h2'
   ·exact fun hs=>g2 j hj (qc _ hs)
  ·rcases List.mem_cons.1 hj with rfl | hj
   ·exact unlisted_getD h1
   ·exact g3 j hj
theorem xDsts_spec (os:List Oper) (l:Env):∀(is seen:List Nat),xDsts os l is seen=true→∀i∈is,∃o d,os[i]?=some o∧o.dst=some d∧look l d=none∧d ∉ seen∧(is.Nodup→∀j∈is,j≠i→dstOf os j≠some d)
 | [],_,_,i,hi=>by cases hi
 | k::is,seen,h,i,hi=>by
  simp only [xDsts] at h
  cases hd:dstOf os k with
  | none=>rw [hd] at h; cases h
  | some d0 =>
   rw [hd] at h
   simp only [qb,Option.isNone_iff_eq_none,Bool.not_eq_true'] at h
   obtain ⟨⟨h1,h2⟩,h3⟩:=h
   have h2':d0 ∉ seen:=fun hm=>by rw [mem_iff.2 hm] at h2; cases h2
   rcases List.mem_cons.1 hi with rfl | hi
   ·have hd':=hd
    simp only [dstOf] at hd
    cases ho:os[i]? with
    | none=>rw [ho] at hd; cases hd
    | some o =>
     rw [ho] at hd
     refine ⟨o,d0,rfl,by simpa using hd,h1,h2',fun hn j hj hji=>?_⟩
     rcases List.mem_cons.1 hj with rfl | hj
     ·exact absurd rfl hji
     ·obtain ⟨o2,d2,g1,g2,g3,g4,_⟩:=xDsts_spec os l is (d0::seen) h3 j hj
      intro he
      simp only [dstOf,g1,Option.bind_some,g2,Option.some.injEq] at he
      subst he; simp at g4
   ·obtain ⟨o,d,g1,g2,g3,g4,g5⟩:=xDsts_spec os l is (d0::seen) h3 i hi
    refine ⟨o,d,g1,g2,g3,fun hm=>g4 (qc _ hm),fun hn j hj hji=>?_⟩
    rcases List.mem_cons.1 hj with rfl | hj
    ·rw [hd]; intro he; simp at he; subst he; simp at g4
    ·exact g5 (List.nodup_cons.1 hn).2 j hj hji
theorem xDeps_spec (os:List Oper) (listed:Array Bool) (ids:List Nat):∀(is:List Nat),xDeps os listed ids is=true→∀i∈is,∀o,os[i]?=some o→∀e∈o.after,Region.binds .any e=true→lst listed e.on∨e.on∈ids
 | [],_,i,hi=>by cases hi
 | k::is,h,i,hi=>by
  simp only [xDeps,qb] at h
  rcases List.mem_cons.1 hi with rfl | hi
  ·intro o ho e he hb
   rw [ho] at h
   have h1:=List.all_eq_true.1 h.1 e (by simpa using he)
   simp only [hb,Bool.not_true,Bool.false_or,Bool.or_eq_true] at h1
   exact h1.imp id mem_iff.1
  ·exact xDeps_spec os listed ids is h.2 i hi
theorem xOut_spec (os:List Oper) (ms:List Nat) (listed:Array Bool) (ids:List Nat):∀(f k:Nat),xOut os ms listed ids k f=true→∀j,k≤j→j<k+f→lst listed j∨j∈ids∨∀i∈ids,(ms.getD j 0).testBit i=true
 | 0,k,_,j,h1,h2=>by omega
 | f+1,k,h,j,h1,h2=>by
  simp only [xOut,qb,Bool.or_eq_true] at h
  by_cases e:j=k
  ·subst e
   rcases h.1 with (h3 | h3) | h3
   ·exact .inl h3
   ·exact .inr (.inl (mem_iff.1 h3))
   ·exact .inr (.inr (List.all_eq_true.1 h3))
  ·exact xOut_spec os ms listed ids f (k+1) h.2 j (by omega) (by omega)
theorem xClosed_spec (listed:Array Bool):∀(os:List Oper) (k:Nat),xClosed listed k os=true→∀(i:Nat) o,os[i]?=some o→lst listed (k+i)→∀e∈o.after,Region.binds .any e=true→lst listed e.on
 | [],_,_,i,o,ho=>by simp at ho
 | o'::os,k,h,i,o,ho=>by
  simp only [xClosed,qb,Bool.or_eq_true] at h
  cases i with
  | zero =>
   simp at ho; subst ho
   intro hl e he hb
   rcases h.1 with h1 | h1
   ·simp only [Nat.add_zero] at hl; rw [show listed.getD k false=true from hl] at h1; simp at h1
   ·have:=List.all_eq_true.1 h1 e (by simpa using he)
    simp only [hb,Bool.not_true,Bool.false_or] at this
    exact this
  | succ i =>
   intro hl
   exact xClosed_spec listed os (k+1) h.2 i o (by simpa using ho) (by rw [show k+1+i=k+(i+1) by omega]; exact hl)

theorem lst_setX:∀(is:List Nat) (listed:Array Bool),(∀i∈is,i<listed.size)→(setX listed is).size=listed.size∧∀j,lst (setX listed is) j↔j∈is∨lst listed j
 | [],listed,_=>⟨rfl,fun j=>by simp [setX]⟩
 | i::is,listed,h=>by
  obtain ⟨h1,h2⟩:=lst_setX is (listed.setIfInBounds i true) (fun j hj=>by simpa using h j (qc _ hj))
  refine ⟨by simpa [setX] using h1,fun j=>?_⟩
  simp only [setX]
  rw [h2,lst_set (h i (List.mem_cons_self ..)),List.mem_cons]
  constructor
  ·rintro (h | h | h)
   ·exact .inl (.inr h)
   ·exact .inl (.inl h)
   ·exact .inr h
  ·rintro ((h | h) | h)
   ·exact .inr (.inl h)
   ·exact .inl h
   ·exact .inr (.inr h)
theorem listed_ext {a b:Array Bool} (hs:a.size=b.size) (h:∀i,lst a i↔lst b i):a=b:=by
 apply Array.ext hs
 intro i h1 h2
 have:=h i
 simp only [lst,Array.getD_eq_getD_getElem?,h1,h2,Array.getElem?_eq_getElem,Option.getD_some] at this
 cases ha:a[i] <;> cases hb:b[i] <;> simp_all

section
variable {P:Program} {n:Nat}
structure MidX (n:Nat) (os:List Oper) (X:List (Nat × PV)) (w0:World) (l:Env) (G:Nat→List Nat) (S:Nat→Prop) (a:Act) (w:World):Prop where
 below:Below w0.heap.size w0 w
 agr:Agr n l a
 posts:∀i p,S i→lookX X i=some p→∃o d,os[i]?=some o∧o.dst=some d∧p.p (a.tmps.getD d undef) w (G i)∧(G i).Nodup∧∀b∈G i,w0.heap.size≤b∧b<w.heap.size
 apart:∀i j p q,S i→S j→lookX X i=some p→lookX X j=some q→i≠j→∀b∈G i,b ∉ G j

theorem MidX.next {os:List Oper} {X:List (Nat × PV)} {w0:World} {l:Env} {G:Nat→List Nat} {listed:Array Bool} {a:Act} {w:World} (hM:MidX n os X w0 l G (lst listed) a w)
  {i:Nat} {o:Oper} {p:PV} {a':Act} {w':World} {l':Env} {v:Value} (hsz:i<listed.size) (hi:¬lst listed i) (ho:os[i]?=some o) (hp:lookX X i=some p)
  (hds:∃d,o.dst=some d∧look l d=none∧∀j q,lookX X j=some q→j≠i→dstOf os j≠some d)
  (hv:a'=a.put o.dst v) (ha:Agr n l' a') (hf:Fin1 o p w l' w'):∃G',MidX n os X w0 l G' (lst (listed.setIfInBounds i true)) a' w':=by
 obtain ⟨d,hd,hln,hne⟩:=hds
 obtain ⟨hB,d',v',F,hd',hlk,hpv,hnd,hF⟩:=hf
 obtain rfl:d=d':=by rw [hd] at hd'; simpa using hd'
 have hkeep:∀t,t≠d→a'.tmps.getD t undef=a.tmps.getD t undef:=fun t ht=>by
  rw [hv,hd]; simp [Act.put,Array.getElem?_setIfInBounds_ne (Ne.symm ht)]
 have other:∀k,lst (listed.setIfInBounds i true) k→k≠i→lst listed k:=fun k hk e=>by
  rcases (lst_set hsz).1 hk with h | h
  ·exact absurd h e
  ·exact h
 refine ⟨fun k=>if k=i then F else G k,⟨hM.below.trans (hB.mono hM.below.size),⟨ha.defers,ha.size,fun t u hu=>?_⟩,fun k q hk hq=>?_,fun k j q r hk hj hq hr hkj b hb=>?_⟩⟩
 ·have ht:t≠d:=fun e=>by subst e; rw [hln] at hu; cases hu
  rw [hkeep t ht]; exact hM.agr.look t u hu
 ·by_cases e:k=i
  ·subst e
   obtain rfl:p=q:=by rw [hp] at hq; simpa using hq
   refine ⟨o,d,ho,hd,?_,?_,?_⟩ <;> simp only [if_true]
   ·rw [ha.look d v' hlk]; exact hpv
   ·exact hnd
   ·exact fun b hb=>⟨Nat.le_trans hM.below.size (hF b hb).1,(hF b hb).2⟩
  ·obtain ⟨ok,dk,h1,h3,h4,h5,h6⟩:=hM.posts k q (other k hk e) hq
   have hdk:dk≠d:=fun e'=>by
    subst e'
    exact hne k q hq e (by simp [dstOf,h1,h3])
   refine ⟨ok,dk,h1,h3,?_,?_,?_⟩ <;> simp only [if_neg e]
   ·rw [hkeep dk hdk]; exact q.st _ _ _ _ h4 hB
   ·exact h5
   ·exact fun b hb=>⟨(h6 b hb).1,Nat.lt_of_lt_of_le (h6 b hb).2 hB.size⟩
 ·by_cases e1:k=i
  ·have e2:j≠i:=fun e=>hkj (e1.trans e.symm)
   simp only [if_pos e1] at hb
   simp only [if_neg e2]
   obtain ⟨_,_,_,_,_,_,h6⟩:=hM.posts j r (other j hj e2) hr
   intro hb'
   have:=(h6 b hb').2
   have:=(hF b hb).1
   omega
  ·simp only [if_neg e1] at hb
   by_cases e2:j=i
   ·simp only [if_pos e2]
    obtain ⟨_,_,_,_,_,_,h6⟩:=hM.posts k q (other k hk e1) hq
    intro hb'
    have:=(h6 b hb).2
    have:=(hF b hb').1
    omega
   ·simp only [if_neg e2]
    exact hM.apart k j q r (other k hk e1) (other j hj e2) hq hr hkj b hb

theorem WA_all2 {ops:Array Oper} {K:Env→World→Prop} {f:Nat} {listed:Array Bool} {l:Env} {w:World} {i j:Nat} (hr:Region.ready .any ops listed=[i,j]) {o o':Oper} (ho:ops[i]?=some o) (ho':ops[j]?=some o')
  (h:WL P n ops (fun l' w'=>WA P n ops K f (listed.setIfInBounds i true) l' w') [o] l w) (h':WL P n ops (fun l' w'=>WA P n ops K f (listed.setIfInBounds j true) l' w') [o'] l w):WA P n ops K (f+1) listed l w :=
 fun a ha=>wpAny_all hr (by simp) fun k hk=>by
  simp only [List.mem_cons,List.not_mem_nil,or_false] at hk
  rcases hk with rfl | rfl
  ·exact wpOp_mono (fun a' w' ⟨l',h1,h2⟩=>h2 a' h1) (wpOp_of_WL' ho ha h)
  ·exact wpOp_mono (fun a' w' ⟨l',h1,h2⟩=>h2 a' h1) (wpOp_of_WL' ho' ha h')
theorem WA_all3 {ops:Array Oper} {K:Env→World→Prop} {f:Nat} {listed:Array Bool} {l:Env} {w:World} {i j m:Nat} (hr:Region.ready .any ops listed=[i,j,m]) {o o' o'':Oper} (ho:ops[i]?=some o) (ho':ops[j]?=some o') (ho'':ops[m]?=some o'')
  (h:WL P n ops (fun l' w'=>WA P n ops K f (listed.setIfInBounds i true) l' w') [o] l w) (h':WL P n ops (fun l' w'=>WA P n ops K f (listed.setIfInBounds j true) l' w') [o'] l w)
  (h'':WL P n ops (fun l' w'=>WA P n ops K f (listed.setIfInBounds m true) l' w') [o''] l w):WA P n ops K (f+1) listed l w :=
 fun a ha=>wpAny_all hr (by simp) fun k hk=>by
  simp only [List.mem_cons,List.not_mem_nil,or_false] at hk
  rcases hk with rfl | rfl | rfl
  ·exact wpOp_mono (fun a' w' ⟨l',h1,h2⟩=>h2 a' h1) (wpOp_of_WL' ho ha h)
  ·exact wpOp_mono (fun a' w' ⟨l',h1,h2⟩=>h2 a' h1) (wpOp_of_WL' ho' ha h')
  ·exact wpOp_mono (fun a' w' ⟨l',h1,h2⟩=>h2 a' h1) (wpOp_of_WL' ho'' ha h'')
end
end Go.Gx
