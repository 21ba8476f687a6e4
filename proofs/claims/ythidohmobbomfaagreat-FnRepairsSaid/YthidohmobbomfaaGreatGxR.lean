/- A region that draws its order: what each operation leaves, whatever the order. Conditions: none. -/
import Derived.Test.YthidohmobbomfaaGreatGxA
set_option linter.unusedVariables false
set_option linter.unusedSimpArgs false
namespace Go.Gx
open Bool renaming and_eq_true→qb
open Go.RowKit

structure PV where
 p:Value→World→List Nat→Prop
 st:∀v w w' F,p v w F→Below w.heap.size w w'→p v w' F

def dstOf (os:List Oper) (j:Nat):Option Nat:=(os[j]?).bind (·.dst)

def DepsK (os:List Oper) (ps:List PV):List Nat→Env→World→(Env→Prop)→Prop
 | [],l,_,K=>K l
 | j::js,l,w,K=>match ps[j]?,dstOf os j with
  | some p,some d=>∀v F,p.p v w F→DepsK os ps js ((d,v)::l) w K
  | _,_=>DepsK os ps js l w K

def Fin1 (o:Oper) (p:PV) (w:World) (l:Env) (w':World):Prop :=
 Below w.heap.size w w'∧∃d v F,o.dst=some d∧look l d=some v∧p.p v w' F∧F.Nodup∧∀b∈F,w.heap.size≤b∧b<w'.heap.size

def StepOK (P:Program) (n:Nat) (os:List Oper) (ps:List PV) (w0:World) (l:Env) (o:Oper) (p:PV) (use:List Nat):Prop :=
 ∀w,Below w0.heap.size w0 w→DepsK os ps use l w (fun l'=>WL P n os.toArray (Fin1 o p w) [o] l' w)

def Steps (P:Program) (n:Nat) (os:List Oper) (ps:List PV) (w0:World) (l:Env):List Oper→List PV→List (List Nat)→Prop
 | o::os',p::ps',u::us'=>StepOK P n os ps w0 l o p u∧Steps P n os ps w0 l os' ps' us'
 | _,[],_=>True
 | _,_,_=>False

def maskOf (acc:List Nat) (es:List Edge):Nat:=es.foldl (fun s e=>if Region.binds .any e then s ||| 2 ^ e.on ||| acc.getD e.on 0 else s) 0
def masks:List Oper→List Nat→List Nat
 | [],acc=>acc
 | o::os,acc=>masks os (acc++[maskOf acc o.after.toList])
def allBits (mask:Nat):Nat→Bool
 | 0=>true
 | k+1=>mask.testBit k&&allBits mask k
def depsOk:List Oper→Nat→Bool
 | [],_=>true
 | o::os,i=>o.after.toList.all (fun e=>!Region.binds .any e || Nat.blt e.on i)&&depsOk os (i+1)
def tailOk (ms:List Nat) (m k:Nat):Nat→Bool
 | 0=>true
 | f+1=>(Nat.blt k m || allBits (ms.getD k 0) k)&&tailOk ms m (k+1) f
section
variable {P:Program} {n:Nat}

theorem Oper.wp_puts {o:Oper} {a:Act} {w:World} {K:Act→World→Prop} {Q:Exit→Act→World→Prop} (h:o.wp P a w K Q) :
  o.wp P a w (fun a' w'=>K a' w'∧((∃v,a'=a.put o.dst v)∨∃d,∃D,a'=({ a with defers:=D::a.defers }:Act).put o.dst d)) Q:=by
 unfold Oper.wp at *
 generalize (execOp a.eval o).run P w=r at *
 cases r with
 | ok nx w' =>
  cases nx <;> simp only [Oper.upon] at h ⊢ <;> first
   | exact ⟨h,.inl ⟨_,rfl⟩⟩
   | exact ⟨h,.inr ⟨_,_,rfl⟩⟩
   | exact Calls.mono h (fun e w'' he=>by cases e <;> first | exact ⟨he,.inl ⟨_,rfl⟩⟩ | exact he)
   | exact Rows.mono h (fun _ _ he=>⟨he,.inl ⟨_,rfl⟩⟩)
   | exact h
 | halt x w'=>cases x <;> simp only [Oper.upon] at h ⊢ <;> exact h

theorem Oper.wp_post {o:Oper} {a:Act} {w:World} {K K':Act→World→Prop} {Q Q':Exit→Act→World→Prop} (h:o.wp P a w K Q) (hk:∀a w,K a w→K' a w) (hq:∀e a w,e≠.normal→Q e a w→Q' e a w) :
  o.wp P a w K' Q':=by
 unfold Oper.wp at *
 generalize (execOp a.eval o).run P w=r at *
 cases r with
 | ok nx w' =>
  cases nx <;> simp only [Oper.upon] at h ⊢ <;> first
   | exact hk _ _ h
   | exact Calls.mono h (fun e w'' he=>by
     cases e with
     | returned v=>exact hk _ _ he
     | panicked c=>exact hq _ _ _ (by simp) he
     | outgrown=>obtain ⟨a0,w0,he⟩:=he; exact ⟨a0,w0,hq _ _ _ (by simp) he⟩)
   | exact Rows.mono h (fun _ _ he=>hk _ _ he)
   | exact h
 | halt x w' =>
  cases x <;> simp only [Oper.upon] at h ⊢ <;> first
   | exact hq _ _ _ (by simp) h
   | exact h

theorem wpOp_of_WL {os:List Oper} {i:Nat} {o:Oper} {l:Env} {w:World} {a:Act} {K:Env→World→Prop} {Q:Exit→Act→World→Prop} (ho:os.toArray[i]?=some o) (ha:Agr n l a)
  (h:WL P n os.toArray K [o] l w):wpOp P os.toArray Q i (fun a' w'=>(∃v,a'=a.put o.dst v)∧∃l',Agr n l' a'∧K l' w') a w:=by
 have h1:=h a ha
 unfold wpOp
 simp only [ho]
 simp only [wpList] at h1
 split
 ·rename_i hw
  rw [if_pos hw] at h1
  rcases h1 with h1 | ⟨_,a0,w0,hq⟩
  ·refine .inl (Oper.wp_post (Oper.wp_puts h1) ?_ ?_)
   ·rintro a' w' ⟨⟨_,l',h2,h3⟩,⟨v,hv⟩ | ⟨d,D,hv⟩⟩
    ·exact ⟨⟨v,hv⟩,l',h2,h3⟩
    ·exfalso
     have hd:=h2.defers
     rw [hv] at hd
     cases hdst:o.dst <;> simp [Act.put,hdst] at hd
   ·rintro e a' w' hne ⟨he,_⟩; exact absurd he hne
  ·exact absurd hq.1 (by simp)
 ·rename_i hw
  rw [if_neg hw] at h1
  obtain ⟨_,l',h2,h3⟩:=h1
  exact ⟨⟨_,rfl⟩,l',h2,h3⟩

theorem getD_app_l {α:Type} (x y:List α) (d:α) (i:Nat) (h:i<x.length):(x++y).getD i d=x.getD i d:=by
 simp [List.getD_eq_getElem?_getD,List.getElem?_append_left h]
theorem getD_app_r {α:Type} (x y:List α) (d:α) (i:Nat) (h:x.length≤i):(x++y).getD i d=y.getD (i-x.length) d:=by
 simp [List.getD_eq_getElem?_getD,List.getElem?_append_right h]

theorem maskOf_spec (S:Nat→Prop) (acc:List Nat) (hacc:∀i,S i→∀j,(acc.getD i 0).testBit j=true→S j) :
  ∀(es:List Edge) (s:Nat),(∀j,s.testBit j=true→S j)→(∀e∈es,Region.binds .any e=true→S e.on) →
   ∀j,(es.foldl (fun s e=>if Region.binds .any e then s ||| 2 ^ e.on ||| acc.getD e.on 0 else s) s).testBit j=true→S j:=by
 intro es
 induction es with
 | nil=>intro s hs _ j hj; exact hs j hj
 | cons e es ih =>
  intro s hs he j hj
  simp only [List.foldl_cons] at hj
  refine ih _ ?_ (fun e' h'=>he e' (List.mem_cons_of_mem _ h')) j hj
  intro k hk
  by_cases hb:Region.binds .any e=true
  ·simp only [hb,if_true,Nat.testBit_or,Bool.or_eq_true] at hk
   have hS:=he e (List.mem_cons_self ..) hb
   rcases hk with (hk | hk) | hk
   ·exact hs k hk
   ·rw [Nat.testBit_two_pow] at hk
    simp at hk
    subst hk; exact hS
   ·exact hacc _ hS k hk
  ·simp only [hb] at hk
   exact hs k hk

theorem masks_spec (S:Nat→Prop):∀(os:List Oper) (acc:List Nat),
  (∀i,S i→∀j,(acc.getD i 0).testBit j=true→S j) →
  (∀(i:Nat) (o:Oper),os[i]?=some o→(S (acc.length+i)→∀e∈o.after,Region.binds .any e=true→S e.on)) →
  (∀k,k<acc.length∨S k∨True) →
  ∀i,(acc.length≤i→i<acc.length+os.length→∀o,os[i-acc.length]?=some o→(∀e∈o.after,Region.binds .any e=true→S e.on)→∀j,((masks os acc).getD i 0).testBit j=true→S j) ∧
   (i<acc.length→(masks os acc).getD i 0=acc.getD i 0):=by
 intro os
 induction os with
 | nil=>intro acc _ _ _ i; exact ⟨fun h1 h2=>by simp at h2; omega,fun h=>rfl⟩
 | cons o os ih =>
  intro acc hacc hcl _ i
  have hnew:∀i,S i→∀j,((acc++[maskOf acc o.after.toList]).getD i 0).testBit j=true→S j:=by
   intro i hi j hj
   by_cases h1:i<acc.length
   ·rw [getD_app_l _ _ _ _ h1] at hj; exact hacc i hi j hj
   ·rw [getD_app_r _ _ _ _ (by omega)] at hj
    by_cases h2:i=acc.length
    ·subst h2
     simp only [Nat.sub_self,List.getD_cons_zero] at hj
     exact maskOf_spec S acc hacc o.after.toList 0 (by simp) (fun e he hb=>hcl 0 o rfl (by simpa using hi) e (by simpa using he) hb) j hj
    ·have:i-acc.length=(i-acc.length-1)+1:=by omega
     rw [this] at hj
     simp at hj
  obtain ⟨h1,h2⟩:=ih (acc++[maskOf acc o.after.toList]) hnew (fun i o' ho' hS=>by
   simp only [List.length_append,List.length_cons,List.length_nil] at hS
   exact hcl (i+1) o' (by simpa using ho') (by rwa [show acc.length+(i+1)=acc.length+(0+1)+i from by omega])) (fun _=>.inr (.inr trivial)) i
  simp only [List.length_append,List.length_cons,List.length_nil] at h1 h2
  refine ⟨fun ha hb o' ho' hd j hj=>?_,fun ha=>?_⟩
  ·simp only [masks] at hj
   by_cases he:i=acc.length
   ·subst he
    simp only [Nat.sub_self,List.getElem?_cons_zero,Option.some.injEq] at ho'
    subst ho'
    rw [h2 (by omega),getD_app_r _ _ _ _ (by omega)] at hj
    simp only [Nat.sub_self,List.getD_cons_zero] at hj
    exact maskOf_spec S acc hacc o.after.toList 0 (by simp) (fun e he hb=>hd e (by simpa using he) hb) j hj
   ·refine h1 (by omega) (by simp at hb; omega) o' ?_ hd j hj
    rw [←ho',show i-acc.length=(i-(acc.length+(0+1)))+1 from by omega,List.getElem?_cons_succ]
  ·simp only [masks]
   rw [h2 (by omega),getD_app_l _ _ _ _ ha]

theorem depsOk_spec:∀(os:List Oper) (k:Nat),depsOk os k=true→∀i o,os[i]?=some o→∀e∈o.after,Region.binds .any e=true→e.on<k+i
 | [],_,_,i,o,ho=>by simp at ho
 | o'::os,k,h,i,o,ho=>by
  simp only [depsOk,qb,List.all_eq_true,Bool.or_eq_true,Bool.not_eq_true'] at h
  cases i with
  | zero =>
   simp at ho; subst ho
   intro e he hb
   have:=h.1 e (by simpa using he)
   rcases this with h' | h'
   ·rw [hb] at h'; cases h'
   ·simpa [Nat.blt_eq] using h'
  | succ i =>
   intro e he hb
   have:=depsOk_spec os (k+1) h.2 i o (by simpa using ho) e he hb
   omega

theorem allBits_spec (mask:Nat):∀k,allBits mask k=true→∀j,j<k→mask.testBit j=true
 | 0,_,j,hj=>by omega
 | k+1,h,j,hj=>by
  simp only [allBits,qb] at h
  by_cases e:j=k
  ·subst e; exact h.1
  ·exact allBits_spec mask k h.2 j (by omega)

theorem tailOk_spec (ms:List Nat) (m:Nat):∀f k,tailOk ms m k f=true→∀i,k≤i→i<k+f→m≤i→allBits (ms.getD i 0) i=true
 | 0,k,_,i,h1,h2,_=>by omega
 | f+1,k,h,i,h1,h2,h3=>by
  simp only [tailOk,qb,Bool.or_eq_true,Nat.blt_eq] at h
  by_cases e:i=k
  ·subst e
   rcases h.1 with h' | h'
   ·omega
   ·exact h'
  ·exact tailOk_spec ms m f (k+1) h.2 i (by omega) (by omega) h3

theorem forced {os:List Oper} {m:Nat} (ht:tailOk (masks os []) m 0 os.length=true) (S:Nat→Prop)
  (hcl:∀i o,os[i]?=some o→S i→∀e∈o.after,Region.binds .any e=true→S e.on)
  {i:Nat} {o:Oper} (ho:os[i]?=some o) (hi:m≤i) (hd:∀e∈o.after,Region.binds .any e=true→S e.on):∀j,j<i→S j:=by
 intro j hj
 have hlt:i<os.length:=(List.getElem?_eq_some_iff.1 ho).1
 have hb:=allBits_spec _ _ (tailOk_spec _ m _ 0 ht i (by omega) (by omega) hi) j hj
 exact (masks_spec S os [] (fun i _ j hj=>by simp at hj) (fun i o h hS e he hb=>hcl i o h (by simpa using hS) e he hb) (fun _=>.inr (.inr trivial)) i).1 (by simp) (by simpa using hlt) o (by simpa using ho) hd j hb

abbrev lst (listed:Array Bool) (i:Nat):Prop:=listed.getD i false=true

theorem lst_set {listed:Array Bool} {i j:Nat} (hi:i<listed.size):lst (listed.setIfInBounds i true) j↔j=i∨lst listed j:=by
 unfold lst
 by_cases h:i=j
 ·subst h; simp [hi]
 ·rw [Array.getD_eq_getD_getElem?,Array.getElem?_setIfInBounds_ne h,←Array.getD_eq_getD_getElem?]
  simp [Ne.symm h]

theorem unlisted_getD {listed:Array Bool} {i:Nat} (h:listed.getD i true=false):i<listed.size∧¬lst listed i:=by
 rcases Nat.lt_or_ge i listed.size with h' | h'
 ·exact ⟨h',by simp [lst,h'] at h ⊢; exact h⟩
 ·simp [Array.getElem?_eq_none h'] at h

theorem getD_unlisted {listed:Array Bool} {i:Nat} (h:i<listed.size) (h':¬lst listed i):listed.getD i true=false:=by
 simp [lst,h] at h' ⊢; exact h'

def left (listed:Array Bool):Nat:=listed.toList.countP (fun b=>!b)
structure Mid (n:Nat) (os:List Oper) (ps:List PV) (m:Nat) (w0:World) (l:Env) (G:Nat→List Nat) (S:Nat→Prop) (a:Act) (w:World):Prop where
 below:Below w0.heap.size w0 w
 agr:Agr n l a
 posts:∀i,S i→i<m→∃o p d,os[i]?=some o∧ps[i]?=some p∧o.dst=some d∧p.p (a.tmps.getD d undef) w (G i)∧(G i).Nodup∧∀b∈G i,w0.heap.size≤b∧b<w.heap.size
 apart:∀i j,S i→S j→i<m→j<m→i≠j→∀b∈G i,b ∉ G j

theorem Mid.next {os:List Oper} {ps:List PV} {m:Nat} {w0:World} {l:Env} {G:Nat→List Nat} {listed:Array Bool} {a:Act} {w:World} (hM:Mid n os ps m w0 l G (lst listed) a w)
  {i:Nat} {o:Oper} {p:PV} {a':Act} {w':World} {l':Env} {v:Value} (hsz:i<listed.size) (hi:¬lst listed i) (ho:os[i]?=some o) (hp:ps[i]?=some p)
  (hds:∃d,o.dst=some d∧look l d=none∧∀(j:Nat) (o':Oper),os[j]?=some o'→j<m→j≠i→o'.dst≠some d)
  (hv:a'=a.put o.dst v) (ha:Agr n l' a') (hf:Fin1 o p w l' w'):∃G',Mid n os ps m w0 l G' (lst (listed.setIfInBounds i true)) a' w':=by
 obtain ⟨d,hd,hln,hne⟩:=hds
 obtain ⟨hB,d',v',F,hd',hlk,hpv,hnd,hF⟩:=hf
 obtain rfl:d=d':=by rw [hd] at hd'; simpa using hd'
 have hkeep:∀t,t≠d→a'.tmps.getD t undef=a.tmps.getD t undef:=fun t ht=>by
  rw [hv,hd]; simp [Act.put,Array.getElem?_setIfInBounds_ne (Ne.symm ht)]
 refine ⟨fun k=>if k=i then F else G k,⟨hM.below.trans (hB.mono hM.below.size),⟨ha.defers,ha.size,fun t u hu=>?_⟩,fun k hk hkm=>?_,fun k j hk hj hkm hjm hkj b hb=>?_⟩⟩
 ·have ht:t≠d:=fun e=>by subst e; rw [hln] at hu; cases hu
  rw [hkeep t ht]; exact hM.agr.look t u hu
 ·by_cases e:k=i
  ·subst e
   refine ⟨o,p,d,ho,hp,hd,?_,?_,?_⟩ <;> simp only [if_true]
   ·rw [ha.look d v' hlk]; exact hpv
   ·exact hnd
   ·exact fun b hb=>⟨Nat.le_trans hM.below.size (hF b hb).1,(hF b hb).2⟩
  ·have hk':lst listed k:=by
    rcases (lst_set hsz).1 hk with h | h
    ·exact absurd h e
    ·exact h
   obtain ⟨ok,pk,dk,h1,h2,h3,h4,h5,h6⟩:=hM.posts k hk' hkm
   have hdk:dk≠d:=fun e'=>by subst e'; exact hne k ok h1 hkm e h3
   refine ⟨ok,pk,dk,h1,h2,h3,?_,?_,?_⟩ <;> simp only [if_neg e]
   ·rw [hkeep dk hdk]; exact pk.st _ _ _ _ h4 hB
   ·exact h5
   ·exact fun b hb=>⟨(h6 b hb).1,Nat.lt_of_lt_of_le (h6 b hb).2 hB.size⟩
 ·have other:∀k,lst (listed.setIfInBounds i true) k→k≠i→lst listed k:=fun k hk e=>by
   rcases (lst_set hsz).1 hk with h | h
   ·exact absurd h e
   ·exact h
  by_cases e1:k=i
  ·have e2:j≠i:=fun e=>hkj (e1.trans e.symm)
   simp only [if_pos e1] at hb
   simp only [if_neg e2]
   obtain ⟨_,_,_,_,_,_,_,_,h6⟩:=hM.posts j (other j hj e2) hjm
   intro hb'
   have:=(h6 b hb').2
   have:=(hF b hb).1
   omega
  ·simp only [if_neg e1] at hb
   by_cases e2:j=i
   ·simp only [if_pos e2]
    obtain ⟨_,_,_,_,_,_,_,_,h6⟩:=hM.posts k (other k hk e1) hkm
    intro hb'
    have:=(h6 b hb).2
    have:=(hF b hb').1
    omega
   ·simp only [if_neg e2]
    exact hM.apart k j (other k hk e1) (other j hj e2) hkm hjm hkj b hb

theorem Steps.mono {os:List Oper} {ps:List PV} {w w0:World} {l:Env} (hB:Below w.heap.size w w0):∀{os':List Oper} {ps':List PV} {us:List (List Nat)},Steps P n os ps w l os' ps' us→Steps P n os ps w0 l os' ps' us
 | os',[],us,h=>by cases os' <;> simp [Steps]
 | [],p'::ps',us,h=>by simp [Steps] at h
 | o::os',p'::ps',[],h=>by simp [Steps] at h
 | o::os',p'::ps',u::us,h=>by
  simp only [Steps] at h ⊢
  exact ⟨fun w' hw'=>h.1 w' (hB.trans (hw'.mono hB.size)),Steps.mono hB h.2⟩

end

section
variable {P:Program} {n:Nat}
def PV.val (u:Value):PV:=⟨fun v _ F=>u=v∧F=[],fun _ _ _ _ h _=>h⟩
def PV.any:PV:=⟨fun _ _ F=>F=[],fun _ _ _ _ h _=>h⟩
theorem WL.mono {ops:Array Oper} {K K':Env→World→Prop} {os:List Oper} {l:Env} {w:World} (h:WL P n ops K' os l w) (hk:∀l w,K' l w→K l w):WL P n ops K os l w:=by
 intro a ha
 have key:∀(os:List Oper) (a:Act) (w:World),wpList P ops (fun e a' w'=>e=.normal∧∃l',Agr n l' a'∧K' l' w') os a w→wpList P ops (fun e a' w'=>e=.normal∧∃l',Agr n l' a'∧K l' w') os a w:=by
  intro os
  induction os with
  | nil=>rintro a w ⟨h1,l',h2,h3⟩; exact ⟨h1,l',h2,hk _ _ h3⟩
  | cons o os ih =>
   intro a w h
   simp only [wpList] at h ⊢
   split
   ·rename_i hw
    rw [if_pos hw] at h
    rcases h with h | ⟨_,a0,w0,hq⟩
    ·exact .inl (Oper.wp_post h (fun a w=>ih a w) (fun e a w hne hh=>absurd hh.1 hne))
    ·exact absurd hq.1 (by simp)
   ·rename_i hw
    rw [if_neg hw] at h
    exact ih _ _ h
 exact key os a w (h a ha)
theorem WL_fork {ops:Array Oper} {K:Env→World→Prop} {os:List Oper} {l:Env} {w:World} {d:Nat} {b:Bool} (ht:b=true→WL P n ops K os ((d,.bool true)::l) w) (hf:b=false→WL P n ops K os ((d,.bool false)::l) w):WL P n ops K os ((d,.bool b)::l) w:=by
 cases b
 ·exact hf rfl
 ·exact ht rfl
end
theorem btf (b:Bool):b=true∨b=false:=by cases b <;> simp
section
variable {P:Program} {n:Nat} {os:List Oper} {ps:List PV} {w0:World} {l:Env}
end
theorem ite_t {α:Type} {b:Bool} {x y:Option α} {r:α} (h:(if b then x else y)=some r) (hb:b=true):x=some r:=by subst hb; simpa using h
theorem ite_f {α:Type} {b:Bool} {x y:Option α} {r:α} (h:(if b then x else y)=some r) (hb:b=false):y=some r:=by subst hb; simpa using h
end Go.Gx
