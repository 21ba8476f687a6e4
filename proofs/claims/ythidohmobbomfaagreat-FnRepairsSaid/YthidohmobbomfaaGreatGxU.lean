/- Operations of a region that draws, in whatever order: posts that hang on the values of others, owned values that are used up. Conditions: none. -/
import Derived.Test.YthidohmobbomfaaGreatGxT
set_option linter.unusedVariables false
set_option linter.unusedSimpArgs false
namespace Go.Gx
open List renaming mem_cons_of_mem→qb,mem_cons_self→qd,flatten_cons→qe,map_cons→qf,nodup_append→qg
open Bool renaming and_eq_true→qc
open Option renaming bind_some→qh
open Go.RowKit

structure PW where
 p:Value→World→List Nat→Prop
 st:∀v w w' F,p v w F→w.heap.size≤w'.heap.size→(∀b∈F,w'.heap[b]?=w.heap[b]?)→p v w' F
structure XE where
 i:Nat
 rs:List Nat
 p:List Value→PW
 cs:List Nat

def lookE:List XE→Nat→Option XE
 | [],_=>none
 | e::X,j=>bif Nat.beq e.i j then some e else lookE X j
def idsE (X:List XE):List Nat:=X.map (·.i)
def looks (l:Env):List Nat→Option (List Value)
 | []=>some []
 | t::ts=>match look l t,looks l ts with
  | some v,some vs=>some (v::vs)
  | _,_=>none
def consE (X:List XE):List Nat:=X.flatMap (·.cs)
def okF (w0 w:World) (F:List Nat):Prop:=F.Nodup∧∀b∈F,w0.heap.size≤b∧b<w.heap.size
def DepsE (os:List Oper) (X:List XE) (w0:World):List Nat→Env→World→(Env→Prop)→Prop
 | [],l,_,K=>K l
 | j::js,l,w,K=>match lookE X j,dstOf os j with
  | some e,some d=>match looks l e.rs with
   | some vs=>∀v F,(e.p vs).p v w F→okF w0 w F→DepsE os X w0 js ((d,v)::l) w K
   | none=>False
  | _,_=>False
def FinE (o:Oper) (p:PW) (w:World) (Fc:List Nat) (l:Env) (w':World):Prop :=
 Keep Fc w w'∧∃d v F,o.dst=some d∧look l d=some v∧p.p v w' F∧F.Nodup∧(∀b∈F,b∈Fc∨w.heap.size≤b)∧∀b∈F,b<w'.heap.size
def StepE (P:Program) (n:Nat) (os:List Oper) (X:List XE) (w0:World) (l:Env) (e:XE) (use:List Nat):Prop :=
 ∀w,Below w0.heap.size w0 w→DepsE os X w0 use l w (fun l'=>∃o vs,os[e.i]?=some o∧looks l' e.rs=some vs ∧
  match e.cs with
  | []=>WL P n os.toArray (FinE o (e.p vs) w []) [o] l' w
  | c::_=>match lookE X c,dstOf os c with
   | some ec,some dc=>match looks l' ec.rs with
    | some vc=>∀v F,(ec.p vc).p v w F→okF w0 w F→WL P n os.toArray (FinE o (e.p vs) w F) [o] ((dc,v)::l') w
    | none=>False
   | _,_=>False)
def StepsE (P:Program) (n:Nat) (os:List Oper) (X:List XE) (w0:World) (l:Env):List XE→List (List Nat)→Prop
 | e::X',u::us=>StepE P n os X w0 l e u∧StepsE P n os X w0 l X' us
 | [],_=>True
 | _,_=>False
def AllE (os:List Oper) (w0 w':World) (cons:List Nat):List XE→Env→List (List Nat)→(Env→List (List Nat)→Prop)→Prop
 | e::X,l,Fs,K=>if mem e.i cons then AllE os w0 w' cons X l Fs K else match dstOf os e.i with
  | some d=>match looks l e.rs with
   | some vs=>∀v F,(e.p vs).p v w' F→AllE os w0 w' cons X ((d,v)::l) (F::Fs) K
   | none=>False
  | none=>False
 | [],l,Fs,K=>K l Fs

def eReads (os:List Oper) (ms:List Nat) (ids:List Nat):List XE→Bool
 | []=>true
 | e::X=>e.rs.all (fun t=>ids.any fun j=>(ms.getD e.i 0).testBit j&&(dstOf os j == some t))&&eReads os ms ids X
def eUses (ms:List Nat) (ids:List Nat):List XE→List (List Nat)→Bool
 | e::X,u::us=>u.all (fun j=>(ms.getD e.i 0).testBit j&&mem j ids)&&eUses ms ids X us
 | [],_=>true
 | _,[]=>true
def eCons (ms:List Nat) (ids cons:List Nat):List XE→List (List Nat)→Bool
 | e::X,u::us=>(match e.cs with
   | []=>true
   | c::r=>r.isEmpty&&(ms.getD e.i 0).testBit c&&mem c ids&&!Nat.beq c e.i)&&u.all (fun j=>!mem j cons)&&eCons ms ids cons X us
 | [],_=>true
 | _,[]=>false
def nodupB:List Nat→Bool
 | []=>true
 | x::l=>!mem x l&&nodupB l
def eOk (os:List Oper) (l:Env) (listed:Array Bool) (X:List XE) (uses:List (List Nat)):Bool :=
 xFree listed (idsE X) []&&xDsts os l (idsE X) []&&xDeps os listed (idsE X) (idsE X)&&xOut os (masks os []) listed (idsE X) 0 os.length&&xClosed listed 0 os&&depsOk os 0 &&
 eReads os (masks os []) (idsE X) X&&eUses (masks os []) (idsE X) X uses&&eCons (masks os []) (idsE X) (consE X) X uses&&nodupB (consE X)

theorem nodupB_spec:∀{l:List Nat},nodupB l=true→l.Nodup
 | [],_=>List.nodup_nil
 | x::l,h=>by
  simp only [nodupB,qc,Bool.not_eq_true'] at h
  exact List.nodup_cons.2 ⟨fun hm=>(by have h1:=h.1; rw [mem_iff.2 hm] at h1; cases h1),nodupB_spec h.2⟩
theorem lookE_mem {X:List XE} {j:Nat} {e:XE} (h:lookE X j=some e):e∈X∧e.i=j:=by
 induction X with
 | nil=>simp [lookE] at h
 | cons x X ih =>
  simp only [lookE] at h
  cases hb:Nat.beq x.i j with
  | true=>rw [hb] at h; simp at h; subst h; exact ⟨qd ..,Nat.eq_of_beq_eq_true hb⟩
  | false=>rw [hb] at h; simp at h; exact ⟨qb _ (ih h).1,(ih h).2⟩
theorem lookE_some {X:List XE} {j:Nat} (h:j∈idsE X):∃e,lookE X j=some e:=by
 induction X with
 | nil=>simp [idsE] at h
 | cons x X ih =>
  simp only [lookE]
  cases hb:Nat.beq x.i j with
  | true=>exact ⟨x,rfl⟩
  | false =>
   simp only [cond_false]
   refine ih ?_
   simp only [idsE,qf,List.mem_cons] at h
   rcases h with h | h
   ·subst h; simp at hb
   ·exact h
theorem lookE_uniq {X:List XE} (hn:(idsE X).Nodup) {e:XE} (h:e∈X):lookE X e.i=some e:=by
 induction X with
 | nil=>cases h
 | cons x X ih =>
  simp only [idsE,qf,List.nodup_cons] at hn
  simp only [lookE]
  rcases List.mem_cons.1 h with h | h
  ·subst h; simp
  ·have hne:Nat.beq x.i e.i=false:=by
    cases hb:Nat.beq x.i e.i with
    | false=>rfl
    | true=>exact absurd (List.mem_map.2 ⟨e,h,(Nat.eq_of_beq_eq_true hb).symm⟩) hn.1
   rw [hne]; exact ih hn.2 h
theorem looks_agr {n:Nat} {l:Env} {a:Act} (ha:Agr n l a):∀{ts:List Nat} {vs:List Value},looks l ts=some vs→ts.map (fun t=>a.tmps.getD t undef)=vs
 | [],vs,h=>by simpa [looks] using h
 | t::ts,vs,h=>by
  simp only [looks] at h
  cases h1:look l t with
  | none=>rw [h1] at h; cases h
  | some v =>
   cases h2:looks l ts with
   | none=>rw [h1,h2] at h; cases h
   | some vs' =>
    rw [h1,h2] at h
    simp at h; subst h
    rw [qf,ha.look t v h1,looks_agr ha h2]
theorem eReads_spec {os:List Oper} {ms ids:List Nat}:∀{X:List XE},eReads os ms ids X=true→∀e∈X,∀t∈e.rs,∃j∈ids,(ms.getD e.i 0).testBit j=true∧dstOf os j=some t
 | [],_,e,he=>by cases he
 | x::X,h,e,he=>by
  simp only [eReads,qc] at h
  rcases List.mem_cons.1 he with rfl | he
  ·intro t ht
   have:=List.all_eq_true.1 h.1 t ht
   obtain ⟨j,hj,hb⟩:=List.any_eq_true.1 this
   simp only [qc,beq_iff_eq] at hb
   exact ⟨j,hj,hb⟩
  ·exact eReads_spec h.2 e he
theorem eUses_spec {ms ids:List Nat}:∀{X:List XE} {us:List (List Nat)},eUses ms ids X us=true→∀(k:Nat) e u,X[k]?=some e→us[k]?=some u→∀j∈u,(ms.getD e.i 0).testBit j=true∧j∈ids
 | [],_,_,k,e,u,h,_=>by simp at h
 | _::_,[],_,k,e,u,_,h=>by simp at h
 | x::X,u'::us,h,k,e,u,he,hu=>by
  simp only [eUses,qc] at h
  cases k with
  | zero =>
   simp at he hu; subst he; subst hu
   intro j hj
   have:=List.all_eq_true.1 h.1 j hj
   simp only [qc] at this
   exact ⟨this.1,mem_iff.1 this.2⟩
  | succ k=>exact eUses_spec h.2 k e u (by simpa using he) (by simpa using hu)
theorem eCons_spec {ms ids cons:List Nat}:∀{X:List XE} {us:List (List Nat)},eCons ms ids cons X us=true→∀(k:Nat) e u,X[k]?=some e→us[k]?=some u →
  (∀j∈u,j ∉ cons)∧(e.cs=[]∨∃c,e.cs=[c]∧(ms.getD e.i 0).testBit c=true∧c∈ids∧c≠e.i)
 | [],_,_,k,e,u,h,_=>by simp at h
 | _::_,[],_,k,e,u,_,h=>by simp at h
 | x::X,u'::us,h,k,e,u,he,hu=>by
  simp only [eCons,qc] at h
  cases k with
  | zero =>
   simp at he hu; subst he; subst hu
   refine ⟨fun j hj hm=>?_,?_⟩
   ·have:=List.all_eq_true.1 h.1.2 j hj
    rw [mem_iff.2 hm] at this; cases this
   ·cases hc:x.cs with
    | nil=>exact .inl rfl
    | cons c r =>
     have h1:=h.1.1
     rw [hc] at h1
     simp only [qc,List.isEmpty_iff,Bool.not_eq_true'] at h1
     refine .inr ⟨c,by rw [h1.1.1.1],h1.1.1.2,mem_iff.1 h1.1.2,fun e=>?_⟩
     have:=h1.2; subst e; simp at this
  | succ k=>exact eCons_spec h.2 k e u (by simpa using he) (by simpa using hu)

section
variable {P:Program} {n:Nat}
def liveE (X:List XE) (S:Nat→Prop) (i:Nat):Prop:=S i∧∀e∈X,i∈e.cs→¬S e.i
abbrev valOf (a:Act) (t:Nat):Value:=a.tmps.getD t undef
structure MidE (n:Nat) (os:List Oper) (X:List XE) (w0:World) (l:Env) (G:Nat→List Nat) (S:Nat→Prop) (a:Act) (w:World):Prop where
 below:Below w0.heap.size w0 w
 agr:Agr n l a
 posts:∀e∈X,liveE X S e.i→∃o d,os[e.i]?=some o∧o.dst=some d∧(e.p (e.rs.map (valOf a))).p (valOf a d) w (G e.i)∧okF w0 w (G e.i)
 apart:∀i j,i∈idsE X→j∈idsE X→liveE X S i→liveE X S j→i≠j→∀b∈G i,b ∉ G j

theorem stepsE_get {os:List Oper} {X:List XE} {w0:World} {l:Env}:∀(X':List XE) (us:List (List Nat)),StepsE P n os X w0 l X' us→∀{e:XE},e∈X'→∃(k:Nat) (u:List Nat),X'[k]?=some e∧us[k]?=some u∧StepE P n os X w0 l e u
 | [],_,_,e,h=>by cases h
 | e'::X',[],h,e,_=>by simp [StepsE] at h
 | e'::X',u::us,h,e,hm=>by
  simp only [StepsE] at h
  rcases List.mem_cons.1 hm with rfl | hm
  ·exact ⟨0,u,rfl,rfl,h.1⟩
  ·obtain ⟨k,u',h1,h2,h3⟩:=stepsE_get X' us h.2 hm
   exact ⟨k+1,u',by simpa using h1,by simpa using h2,h3⟩

theorem agr_cons {l:Env} {a:Act} (ha:Agr n l a) {d:Nat} {v:Value} (hv:valOf a d=v):Agr n ((d,v)::l) a :=
 ⟨ha.defers,ha.size,fun t u hu=>by
  rw [look_cons] at hu
  by_cases e:d=t
  ·subst e; simp only [if_true,Option.some.injEq] at hu; subst hu; exact hv
  ·simp [e] at hu; exact ha.look t u hu⟩

theorem depsE_elim {os:List Oper} {X:List XE} {w0:World} {l:Env} {G:Nat→List Nat} {S:Nat→Prop} {a:Act} {w:World} (hM:MidE n os X w0 l G S a w) {K:Env→Prop} :
  ∀(js:List Nat) (l':Env),Agr n l' a→(∀j∈js,liveE X S j)→DepsE os X w0 js l' w K→∃l'',Agr n l'' a∧K l''
 | [],l',ha,_,h=>⟨l',ha,h⟩
 | j::js,l',ha,hj,h=>by
  have hS:=hj j (qd ..)
  simp only [DepsE] at h
  cases hp:lookE X j with
  | none=>rw [hp] at h; exact h.elim
  | some e =>
   obtain ⟨hm,rfl⟩:=lookE_mem hp
   obtain ⟨o,d,h1,h3,h4,h5⟩:=hM.posts e hm hS
   rw [hp] at h
   simp only [dstOf,h1,qh,h3] at h
   cases hl:looks l' e.rs with
   | none=>rw [hl] at h; exact h.elim
   | some vs =>
    rw [hl] at h
    have:=looks_agr ha hl
    rw [this] at h4
    exact depsE_elim hM js _ (agr_cons ha rfl) (fun j' h'=>hj j' (qb _ h')) (h _ _ h4 h5)

theorem allE_elim {os:List Oper} {X:List XE} {w0:World} {l:Env} {G:Nat→List Nat} {S:Nat→Prop} {a:Act} {w:World} (hM:MidE n os X w0 l G S a w) (hn:(idsE X).Nodup) (hall:∀i∈idsE X,S i) {K:Env→List (List Nat)→Prop} :
  ∀(X':List XE) (l':Env) (Fs:List (List Nat)) (done:List Nat),(∀x∈X',x∈X)→(idsE X').Nodup→(∀i∈idsE X',i ∉ done)→(∀i∈done,i∈idsE X∧liveE X S i)→Agr n l' a →
   (Fs.flatten).Nodup→(∀b∈Fs.flatten,w0.heap.size≤b∧b<w.heap.size)→(∀b∈Fs.flatten,∃i∈done,b∈G i) →
   AllE os w0 w (consE X) X' l' Fs K→∃l'' Fs',Agr n l'' a∧(Fs'.flatten).Nodup∧(∀b∈Fs'.flatten,w0.heap.size≤b∧b<w.heap.size)∧K l'' Fs'
 | [],l',Fs,done,_,_,_,_,ha,h1,h2,_,h=>⟨l',Fs,ha,h1,h2,h⟩
 | e::X',l',Fs,done,hsub,hnd,hdis,hdone,ha,h1,h2,h3,h=>by
  have hmem:=hsub e (qd ..)
  have hi:e.i∈idsE X:=List.mem_map.2 ⟨e,hmem,rfl⟩
  simp only [idsE,qf,List.nodup_cons] at hnd
  have hidone:e.i ∉ done:=hdis e.i (by simp [idsE])
  simp only [AllE] at h
  by_cases hc:mem e.i (consE X)=true
  ·rw [if_pos hc] at h
   exact allE_elim hM hn hall X' l' Fs done (fun x hx=>hsub x (qb _ hx)) hnd.2 (fun i hi'=>hdis i (by simp only [idsE,qf]; exact qb _ hi')) hdone ha h1 h2 h3 h
  ·rw [if_neg hc] at h
   have hlive:liveE X S e.i:=⟨hall _ hi,fun e' he' hcs=>absurd (mem_iff.2 (List.mem_flatMap.2 ⟨e',he',hcs⟩)) hc⟩
   obtain ⟨o,d,g1,g2,g3,g4,g5⟩:=hM.posts e hmem hlive
   simp only [dstOf,g1,qh,g2] at h
   cases hl:looks l' e.rs with
   | none=>rw [hl] at h; exact h.elim
   | some vs =>
    rw [hl] at h
    have:=looks_agr ha hl
    rw [this] at g3
    refine allE_elim hM hn hall X' _ (G e.i::Fs) (e.i::done) (fun x hx=>hsub x (qb _ hx)) hnd.2 (fun j hj hjd=>?_) (fun j hj=>?_) (agr_cons ha rfl) ?_ ?_ ?_ (h _ _ g3)
    ·rcases List.mem_cons.1 hjd with rfl | hjd
     ·exact hnd.1 hj
     ·exact hdis j (by simp only [idsE,qf]; exact qb _ hj) hjd
    ·rcases List.mem_cons.1 hj with rfl | hj
     ·exact ⟨hi,hlive⟩
     ·exact hdone j hj
    ·rw [qe,qg]
     refine ⟨g4,h1,fun b hb c hc e=>?_⟩
     subst e
     obtain ⟨k,hk,hbk⟩:=h3 b hc
     exact hM.apart _ k hi (hdone k hk).1 hlive (hdone k hk).2 (fun e=>hidone (e ▸ hk)) b hb hbk
    ·intro b hb
     rw [qe,List.mem_append] at hb
     rcases hb with hb | hb
     ·exact g5 b hb
     ·exact h2 b hb
    ·intro b hb
     rw [qe,List.mem_append] at hb
     rcases hb with hb | hb
     ·exact ⟨_,qd ..,hb⟩
     ·obtain ⟨k,hk,hbk⟩:=h3 b hb
      exact ⟨k,qb _ hk,hbk⟩

theorem MidE.next {os:List Oper} {X:List XE} {w0:World} {l:Env} {G:Nat→List Nat} {listed:Array Bool} {a:Act} {w:World} (hM:MidE n os X w0 l G (lst listed) a w) (hnd:(idsE X).Nodup)
  {o:Oper} {e:XE} {a':Act} {w':World} {l':Env} {v:Value} {Fc:List Nat} (hsz:e.i<listed.size) (hi:¬lst listed e.i) (ho:os[e.i]?=some o) (he:e∈X)
  (hds:∃d,o.dst=some d∧look l d=none∧∀j∈idsE X,j≠e.i→dstOf os j≠some d)
  (hrd:∀q∈X,lst listed q.i∨q.i=e.i→∀t∈q.rs,∃j∈idsE X,j≠e.i∧dstOf os j=some t)
  (hFc:(∀b∈Fc,w0.heap.size≤b∧b<w.heap.size)∧∀j∈idsE X,liveE X (lst listed) j→j ∉ e.cs→∀b∈Fc,b ∉ G j)
  (hv:a'=a.put o.dst v) (ha:Agr n l' a') (hf:FinE o (e.p (e.rs.map (valOf a))) w Fc l' w'):∃G',MidE n os X w0 l G' (lst (listed.setIfInBounds e.i true)) a' w':=by
 obtain ⟨d,hd,hln,hne⟩:=hds
 obtain ⟨hB,d',v',F,hd',hlk,hpv,hFn,hF,hFi⟩:=hf
 obtain rfl:d=d':=by rw [hd] at hd'; simpa using hd'
 have hkeep:∀t,t≠d→valOf a' t=valOf a t:=fun t ht=>by
  show a'.tmps.getD t undef=a.tmps.getD t undef
  rw [hv,hd]; simp [Act.put,Array.getElem?_setIfInBounds_ne (Ne.symm ht)]
 have other:∀k,lst (listed.setIfInBounds e.i true) k→k≠e.i→lst listed k:=fun k hk h=>by
  rcases (lst_set hsz).1 hk with h' | h'
  ·exact absurd h' h
  ·exact h'
 have hrs:∀q∈X,lst listed q.i∨q.i=e.i→q.rs.map (valOf a')=q.rs.map (valOf a):=fun q hq hS=>by
  apply List.map_congr_left
  intro t ht
  obtain ⟨j,hj,hji,hjt⟩:=hrd q hq hS t ht
  exact hkeep t fun h=>by subst h; exact hne j hj hji hjt
 have wasLive:∀k,k∈idsE X→liveE X (lst (listed.setIfInBounds e.i true)) k→k≠e.i→liveE X (lst listed) k∧k ∉ e.cs:=fun k hk hl hki =>
  ⟨⟨other k hl.1 hki,fun q hq hkq hS=>hl.2 q hq hkq ((lst_set hsz).2 (.inr hS))⟩,fun hc=>hl.2 e he hc ((lst_set hsz).2 (.inl rfl))⟩
 have hbelow:Below w0.heap.size w0 w':=by
  have hb:=hM.below
  refine ⟨hB.os.trans hb.os,hB.tape.trans hb.tape,hB.output.trans hb.output,Nat.le_trans hb.size hB.size,fun k hk=>(hB.block k (Nat.lt_of_lt_of_le hk hb.size) fun h=>?_).trans (hb.block k hk)⟩
  have:=(hFc.1 k h).1; omega
 refine ⟨fun k=>if k=e.i then F else G k,⟨hbelow,⟨ha.defers,ha.size,fun t u hu=>?_⟩,fun q hq hlive=>?_,fun k j hk hj hlk' hlj hkj b hb=>?_⟩⟩
 ·have ht:t≠d:=fun h=>by subst h; rw [hln] at hu; cases hu
  have:=hkeep t ht
  simp only [valOf] at this
  rw [this]; exact hM.agr.look t u hu
 ·by_cases h:q.i=e.i
  ·obtain rfl:q=e:=by
    have h1:=lookE_uniq hnd hq
    have h2:=lookE_uniq hnd he
    rw [h] at h1; rw [h1] at h2; simpa using h2
   refine ⟨o,d,ho,hd,?_,?_⟩ <;> simp only [if_true]
   ·rw [hrs q he (.inr rfl),show valOf a' d=v' from ha.look d v' hlk]; exact hpv
   ·exact ⟨hFn,fun b hb=>⟨by rcases hF b hb with h' | h'; exact (hFc.1 b h').1; exact Nat.le_trans hM.below.size h',hFi b hb⟩⟩
  ·have hqX:q.i∈idsE X:=List.mem_map.2 ⟨q,hq,rfl⟩
   obtain ⟨hl1,hl2⟩:=wasLive q.i hqX hlive h
   obtain ⟨ok,dk,h1,h3,h4,h5⟩:=hM.posts q hq hl1
   have hdk:dk≠d:=fun e'=>by
    subst e'
    exact hne q.i hqX h (by simp [dstOf,h1,h3])
   have hap:=hFc.2 q.i hqX hl1 hl2
   refine ⟨ok,dk,h1,h3,?_,?_⟩ <;> simp only [if_neg h]
   ·rw [hrs q hq (.inl hl1.1),hkeep dk hdk]
    exact (q.p _).st _ _ _ _ h4 hB.size fun b hb=>hB.block b (h5.2 b hb).2 fun hb'=>hap b hb' hb
   ·exact ⟨h5.1,fun b hb=>⟨(h5.2 b hb).1,Nat.lt_of_lt_of_le (h5.2 b hb).2 hB.size⟩⟩
 ·have new_old:∀j,j∈idsE X→liveE X (lst (listed.setIfInBounds e.i true)) j→j≠e.i→∀b∈F,b ∉ G j:=fun j hj hl hji b hb hbj=>by
   obtain ⟨hl1,hl2⟩:=wasLive j hj hl hji
   obtain ⟨q,hq,rfl⟩:=List.mem_map.1 hj
   obtain ⟨_,_,_,_,_,h5⟩:=hM.posts q hq hl1
   rcases hF b hb with h' | h'
   ·exact hFc.2 q.i hj hl1 hl2 b h' hbj
   ·have:=(h5.2 b hbj).2; omega
  by_cases e1:k=e.i
  ·have e2:j≠e.i:=fun h=>hkj (e1.trans h.symm)
   simp only [if_pos e1] at hb
   simp only [if_neg e2]
   exact new_old j hj hlj e2 b hb
  ·simp only [if_neg e1] at hb
   by_cases e2:j=e.i
   ·simp only [if_pos e2]
    exact fun hb'=>new_old k hk hlk' e1 b hb' hb
   ·simp only [if_neg e2]
    exact hM.apart k j hk hj (wasLive k hk hlk' e1).1 (wasLive j hj hlj e2).1 hkj b hb

theorem consE_uniq:∀{X:List XE},(consE X).Nodup→∀{q e:XE} {c:Nat},q∈X→e∈X→c∈q.cs→c∈e.cs→q=e
 | [],_,_,_,_,h,_,_,_=>by cases h
 | x::X,h,q,e,c,hq,he,h1,h2=>by
  simp only [consE,List.flatMap_cons,qg] at h
  rcases List.mem_cons.1 hq with e1 | hq' <;> rcases List.mem_cons.1 he with e2 | he'
  ·rw [e1,e2]
  ·exact absurd rfl (h.2.2 c (e1 ▸ h1) c (List.mem_flatMap.2 ⟨e,he',h2⟩))
  ·exact absurd rfl (h.2.2 c (e2 ▸ h2) c (List.mem_flatMap.2 ⟨q,hq',h1⟩))
  ·exact consE_uniq h.2.1 hq' he' h1 h2

theorem WA_postsE {os:List Oper} {K:Env→World→Prop} {g:Nat} {listed listed':Array Bool} {l:Env} {w:World} (X:List XE) (uses:List (List Nat)) (f:Nat) (hg:X.length+f=g) (hsz:listed.size=os.length) (hchk:eOk os l listed X uses=true) (hL:setX listed (idsE X)=listed')
  (steps:StepsE P n os X w l X uses)
  (rest:∀w',Below w.heap.size w w'→AllE os w w' (consE X) X l [] (fun l' Fs=>(Fs.flatten).Nodup→(∀b∈Fs.flatten,w.heap.size≤b∧b<w'.heap.size)→WA P n os.toArray K f listed' l' w')) :
  WA P n os.toArray K g listed l w:=by
 subst hg
 intro a ha
 simp only [eOk,qc] at hchk
 obtain ⟨⟨⟨⟨⟨⟨⟨⟨⟨c1,c2⟩,c3⟩,c5⟩,c6⟩,c7⟩,c8⟩,c9⟩,c10⟩,c11⟩:=hchk
 obtain ⟨hnd,_,hun⟩:=xFree_spec listed _ _ c1
 have hclL:=xClosed_spec listed os 0 c6
 have hcn:=nodupB_spec c11
 have key:∀(rem:List Nat) (lis:Array Bool) (a:Act) (w1:World) (G:Nat→List Nat),rem.Nodup→(∀i∈rem,i∈idsE X)→lis.size=os.length→(∀i,lst lis i↔lst listed i∨i∈idsE X∧i ∉ rem) →
   (∀(i:Nat) (o:Oper),os[i]?=some o→lst lis i→∀e∈o.after,Region.binds .any e=true→lst lis e.on) →
   MidE n os X w l G (lst lis) a w1→wpAny P .any os.toArray (fun e a w=>e=.normal∧∃l',Agr n l' a∧K l' w) (rem.length+f) lis a w1:=by
  intro rem
  generalize hk:rem.length=k
  induction k generalizing rem with
  | zero =>
   intro lis a w1 G hr hsub hs hl hcl hM
   have hnil:rem=[]:=List.eq_nil_of_length_eq_zero hk
   subst hnil
   obtain ⟨l'',Fs',h1,h2,h3,h4⟩:=allE_elim hM hnd (fun i hi=>(hl i).2 (.inr ⟨hi,by simp⟩)) X l [] [] (fun _ h=>h) hnd (by simp) (by simp) hM.agr (by simp) (by simp) (by simp) (rest w1 hM.below)
   have hset:=lst_setX (idsE X) listed (fun i hi=>(hun i hi).1)
   have e:lis=listed':=by
    rw [←hL]
    refine listed_ext (by rw [hset.1,hs,hsz]) fun i=>?_
    rw [hl,hset.2]
    simp [or_comm]
   subst e
   simpa using h4 h2 h3 a h1
  | succ k ih =>
   intro lis a w1 G hr hsub hs hl hcl hM
   have unl:∀i∈rem,¬lst lis i:=fun i hi h=>by
    rcases (hl i).1 h with h | h
    ·exact (hun i (hsub i hi)).2 h
    ·exact h.2 hi
   have hbits:∀(i:Nat) (o:Oper),os[i]?=some o→(∀e∈o.after,Region.binds .any e=true→lst lis e.on)→∀j,((masks os []).getD i 0).testBit j=true→lst lis j:=fun i o ho hd j hj =>
    (masks_spec (lst lis) os [] (fun i _ j hj=>by simp at hj) (fun i o h hS e he hb=>hcl i o h (by simpa using hS) e he hb) (fun _=>.inr (.inr trivial)) i).1 (by simp) (by simpa using (List.getElem?_eq_some_iff.1 ho).1) o (by simpa using ho) hd j hj
   have hex:∃r,r∈rem:=by
    cases rem with
    | nil=>simp at hk
    | cons r rem'=>exact ⟨r,qd ..⟩
   obtain ⟨r,hrr⟩:=hex
   have hready:∃j,j∈Region.ready .any os.toArray lis:=by
    have go:∀j,j∈rem→∃j,j∈Region.ready .any os.toArray lis:=by
     intro j
     induction j using Nat.strongRecOn with
     | _ j ihj =>
      intro hj
      obtain ⟨o,d,ho,_⟩:=xDsts_spec os l _ _ c2 j (hsub j hj)
      by_cases hd:∀e∈o.after,Region.binds .any e=true→lst lis e.on
      ·exact ⟨j,mem_ready.2 ⟨getD_unlisted (by rw [hs]; exact (List.getElem?_eq_some_iff.1 ho).1) (unl j hj),o,by simpa using ho,hd⟩⟩
      ·have:∃e∈o.after,Region.binds .any e=true∧¬lst lis e.on:=by
        apply Classical.byContradiction
        intro h
        exact hd fun e he hb=>Classical.byContradiction fun h'=>h ⟨e,he,hb,h'⟩
       obtain ⟨e,he,hb,hn'⟩:=this
       have hlt:=depsOk_spec os 0 c7 j o ho e he hb
       rcases xDeps_spec os listed _ _ c3 j (hsub j hj) o ho e he hb with h | h
       ·exact absurd ((hl _).2 (.inl h)) hn'
       ·refine ihj e.on (by omega) ?_
        exact Classical.byContradiction fun hrem=>hn' ((hl _).2 (.inr ⟨h,hrem⟩))
    exact go r hrr
   rw [show k+1+f=(k+f)+1 by omega]
   refine ⟨fun h0=>(by obtain ⟨j,hj⟩:=hready; rw [h0] at hj; cases hj),fun i hi=>?_⟩
   obtain ⟨h1,o,ho,hd⟩:=mem_ready.1 hi
   have hu:=unlisted_getD h1
   have ho':os[i]?=some o:=by simpa using ho
   have hlt:i<os.length:=(List.getElem?_eq_some_iff.1 ho').1
   have hirem:i∈rem:=by
    rcases xOut_spec os _ listed _ _ 0 c5 i (by omega) (by omega) with h | h | h
    ·exact absurd ((hl i).2 (.inl h)) hu.2
    ·exact Classical.byContradiction fun hr'=>hu.2 ((hl i).2 (.inr ⟨h,hr'⟩))
    ·exact absurd (hbits i o ho' hd r (h r (hsub r hrr))) (unl r hrr)
   have hiX:=hsub i hirem
   obtain ⟨e,hp⟩:=lookE_some hiX
   obtain ⟨heX,rfl⟩:=lookE_mem hp
   obtain ⟨q,u,hq,hu',hstep⟩:=stepsE_get X uses steps heX
   have huse:=eUses_spec c9 q e u hq hu'
   obtain ⟨hucons,hcs⟩:=eCons_spec c10 q e u hq hu'
   obtain ⟨l'',h4,o2,vs,ho2,hvs,h5⟩:=depsE_elim hM u l hM.agr (fun j hj=>⟨hbits _ o ho' hd j (huse j hj).1,fun q' hq' hc=>absurd (List.mem_flatMap.2 ⟨q',hq',hc⟩) (hucons j hj)⟩) (hstep w1 hM.below)
   obtain rfl:o=o2:=by rw [ho'] at ho2; simpa using ho2
   have hvs':=looks_agr h4 hvs
   obtain ⟨o3,d,g0,h8,h9,_,h10⟩:=xDsts_spec os l _ _ c2 e.i hiX
   obtain rfl:o=o3:=by rw [ho'] at g0; simpa using g0
   have hrd:∀q∈X,lst lis q.i∨q.i=e.i→∀t∈q.rs,∃j∈idsE X,j≠e.i∧dstOf os j=some t:=fun q' hq' hS t ht=>by
    obtain ⟨j,hj,hb,hjt⟩:=eReads_spec c8 q' hq' t ht
    have hjl:lst lis j:=by
     rcases hS with hS | hS
     ·obtain ⟨oq,_,hoq,_⟩:=xDsts_spec os l _ _ c2 q'.i (List.mem_map.2 ⟨q',hq',rfl⟩)
      exact hbits _ oq hoq (fun e he hb=>hcl _ oq hoq hS e he hb) j hb
     ·rw [hS] at hb
      exact hbits _ o ho' hd j hb
    exact ⟨j,hj,fun h=>hu.2 (h ▸ hjl),hjt⟩
   have done:∀(Fc:List Nat),((∀b∈Fc,w.heap.size≤b∧b<w1.heap.size)∧∀j∈idsE X,liveE X (lst lis) j→j ∉ e.cs→∀b∈Fc,b ∉ G j)→∀l3,Agr n l3 a→WL P n os.toArray (FinE o (e.p vs) w1 Fc) [o] l3 w1 →
     wpOp P os.toArray (fun e a w=>e=.normal∧∃l',Agr n l' a∧K l' w) e.i (wpAny P .any os.toArray (fun e a w=>e=.normal∧∃l',Agr n l' a∧K l' w) (k+f) (lis.setIfInBounds e.i true)) a w1:=by
    intro Fc hFc l3 hl3 h6
    refine wpOp_mono ?_ (wpOp_of_WL ho hl3 h6)
    rintro a' w' ⟨⟨v,hv⟩,l4,h7,h8'⟩
    rw [←hvs'] at h8'
    obtain ⟨G',hM'⟩:=hM.next hnd hu.1 hu.2 ho' heX ⟨d,h8,h9,fun j hj hji=>h10 hnd j hj hji⟩ hrd hFc hv ⟨h7.defers,h7.size,h7.look⟩ h8'
    have hlen:(rem.erase e.i).length=k:=by rw [List.length_erase_of_mem hirem,hk]; rfl
    refine ih (rem.erase e.i) hlen _ a' w' G' (hr.erase _) (fun j hj=>hsub j (List.mem_of_mem_erase hj)) (by simp [hs]) (fun j=>?_) (fun j oj hoj hl' e' he hb=>?_) hM'
    ·rw [lst_set hu.1,hl,hr.mem_erase_iff]
     by_cases e':j=e.i
     ·subst e'; simp [hiX]
     ·simp [e']
    ·rw [lst_set hu.1]
     rcases (lst_set hu.1).1 hl' with h | h
     ·subst h
      rw [ho'] at hoj; simp at hoj; subst hoj
      exact .inr (hd e' he hb)
     ·exact .inr (hcl j oj hoj h e' he hb)
   rcases hcs with hcs | ⟨c,hcs,hcm,hcX,hce⟩
   ·rw [hcs] at h5
    exact done [] ⟨by simp,by simp⟩ l'' h4 h5
   ·rw [hcs] at h5
    simp only at h5
    obtain ⟨ec,hec⟩:=lookE_some hcX
    obtain ⟨hecX,rfl⟩:=lookE_mem hec
    have hlive:liveE X (lst lis) ec.i:=⟨hbits _ o ho' hd _ hcm,fun q' hq' hc hS=>by
     have:=consE_uniq hcn hq' heX hc (by rw [hcs]; simp)
     subst this
     exact hu.2 hS⟩
    obtain ⟨oc,dc,k1,k2,k3,k4⟩:=hM.posts ec hecX hlive
    rw [hec] at h5
    simp only [dstOf,k1,qh,k2] at h5
    cases hl2:looks l'' ec.rs with
    | none=>rw [hl2] at h5; exact h5.elim
    | some vc =>
     rw [hl2] at h5
     rw [looks_agr h4 hl2] at k3
     refine done (G ec.i) ⟨k4.2,fun j hj hlj hjc b hb=>hM.apart _ j hcX hj hlive hlj (fun h=>hjc (by rw [hcs,←h]; simp)) b hb⟩ _ (agr_cons h4 rfl) (h5 _ _ k3 k4)
 have hlenX:X.length=(idsE X).length:=by simp [idsE]
 rw [hlenX]
 exact key (idsE X) listed a w (fun _=>[]) hnd (fun _ h=>h) hsz (fun i=>by simp) (fun i o ho hi e he hb=>hclL i o ho (by simpa using hi) e he hb)
  ⟨Below.refl _ _,ha,fun e he hS=>absurd hS.1 (hun e.i (List.mem_map.2 ⟨e,he,rfl⟩)).2,fun i j hi hj hS=>absurd hS.1 (hun i hi).2⟩

def PW.of (p:PV) (h:∀v w w' F,p.p v w F→p.p v w' F):PW:=⟨p.p,fun v w w' F hp _ _=>h v w w' F hp⟩
def PW.val (u:Value):PW:=⟨fun v _ F=>u=v∧F=[],fun _ _ _ _ h _ _=>h⟩
def PW.ro {α:Type} [Rep α] (D:List Nat) (w0:World) (a:α):PW:=⟨fun v _ F=>F=[]∧RO D w0 v a,fun _ _ _ _ h _ _=>h⟩
def PW.at {α:Type} [Rep α] (D:List Nat) (w0:World) (a:α):PW:=⟨fun v _ F=>F=[]∧∃b off,v=ptr b off∧ROAt D w0 b off a,fun _ _ _ _ h _ _=>h⟩
def PW.own {α:Type} [Rep α] (a:α):PW:=⟨fun v w F=>Val true w v a F,fun _ _ _ _ h _ hf=>h.frame hf⟩
def PW.box (cs:List Value):PW:=⟨fun v w F=>∃b,v=ptr b 0∧(Item.box b cs).p w F,fun v w w' F ⟨b,hv,h⟩ _ hf=>⟨b,hv,(Item.box b cs).loc h hf⟩⟩
def PW.own2 {α β:Type} [Rep α] [Rep β] (a:α) (b:β):PW:=⟨fun v w F=>∃v1 v2 F1 F2,v=.tuple #[v1,v2]∧F=F1++F2∧Val true w v1 a F1∧Val true w v2 b F2,
 fun v w w' F ⟨v1,v2,F1,F2,hv,hF,h1,h2⟩ _ hf=>⟨v1,v2,F1,F2,hv,hF,h1.frame fun c hc=>hf c (by simp [hF,hc]),h2.frame fun c hc=>hf c (by simp [hF,hc])⟩⟩
def PW.comp (u:Value) (k:Nat):PW:=⟨fun v _ F=>(∃cs:Array Value,u=.tuple cs∧cs[k]?=some v)∧F=[],fun _ _ _ _ h _ _=>h⟩

variable {os:List Oper} {X:List XE} {w0 w w':World} {l:Env} {K:Env→Prop}
theorem DepsE_nil (h:K l):DepsE os X w0 [] l w K:=h
theorem DepsE_cons {j:Nat} {js:List Nat} {e:XE} {d:Nat} {vs:List Value} (hp:lookE X j=some e) (hd:dstOf os j=some d) (hl:looks l e.rs=some vs)
  (h:∀v F,(e.p vs).p v w F→okF w0 w F→DepsE os X w0 js ((d,v)::l) w K):DepsE os X w0 (j::js) l w K:=by
 simp only [DepsE,hp,hd,hl]; exact h
theorem AllE_nil {cons:List Nat} {Fs:List (List Nat)} {K:Env→List (List Nat)→Prop} (h:K l Fs):AllE os w0 w' cons [] l Fs K:=h
theorem AllE_cons {cons:List Nat} {e:XE} {X:List XE} {Fs:List (List Nat)} {K:Env→List (List Nat)→Prop} {d:Nat} {vs:List Value} (hc:mem e.i cons=false) (hd:dstOf os e.i=some d) (hl:looks l e.rs=some vs)
  (h:∀v F,(e.p vs).p v w' F→AllE os w0 w' cons X ((d,v)::l) (F::Fs) K):AllE os w0 w' cons (e::X) l Fs K:=by
 simp only [AllE,hc,hd,hl]; exact h
theorem AllE_skip {cons:List Nat} {e:XE} {X:List XE} {Fs:List (List Nat)} {K:Env→List (List Nat)→Prop} (hc:mem e.i cons=true) (h:AllE os w0 w' cons X l Fs K):AllE os w0 w' cons (e::X) l Fs K:=by
 simp only [AllE,hc,if_true]; exact h
theorem StepsE_nil {us:List (List Nat)}:StepsE P n os X w0 l [] us:=by cases us <;> simp [StepsE]
theorem DepsE.mono {K K':Env→Prop} (hk:∀l,K l→K' l):∀{js:List Nat} {l:Env},DepsE os X w0 js l w K→DepsE os X w0 js l w K'
 | [],l,h=>hk l h
 | j::js,l,h=>by
  simp only [DepsE] at h ⊢
  cases h1:lookE X j with
  | none=>rw [h1] at h; exact h
  | some e =>
   cases h2:dstOf os j with
   | none=>rw [h1,h2] at h; exact h
   | some d =>
    rw [h1,h2] at h
    simp only at h ⊢
    cases h3:looks l e.rs with
    | none=>rw [h3] at h; exact h
    | some vs =>
     rw [h3] at h
     exact fun v F hv ho=>DepsE.mono hk (h v F hv ho)
theorem StepsE_cons {X':List XE} {i:Nat} {rs:List Nat} {p:List Value→PW} {u:List Nat} {us:List (List Nat)} {o:Oper} (ho:os[i]?=some o)
  (h:∀w,Below w0.heap.size w0 w→DepsE os X w0 u l w (fun l'=>∃vs,looks l' rs=some vs∧WL P n os.toArray (FinE o (p vs) w []) [o] l' w)) (h':StepsE P n os X w0 l X' us):StepsE P n os X w0 l (⟨i,rs,p,[]⟩::X') (u::us) :=
 ⟨fun w hw=>(h w hw).mono fun l' ⟨vs,h1,h2⟩=>⟨o,vs,ho,h1,h2⟩,h'⟩
theorem StepsE_use {X':List XE} {i c:Nat} {rs:List Nat} {p:List Value→PW} {u:List Nat} {us:List (List Nat)} {o:Oper} {ec:XE} {dc:Nat} (ho:os[i]?=some o) (hc:lookE X c=some ec) (hd:dstOf os c=some dc)
  (h:∀w,Below w0.heap.size w0 w→DepsE os X w0 u l w (fun l'=>∃vs vc,looks l' rs=some vs∧looks l' ec.rs=some vc∧∀v F,(ec.p vc).p v w F→okF w0 w F→WL P n os.toArray (FinE o (p vs) w F) [o] ((dc,v)::l') w)) (h':StepsE P n os X w0 l X' us):StepsE P n os X w0 l (⟨i,rs,p,[c]⟩::X') (u::us) :=
 ⟨fun w hw=>(h w hw).mono fun l' ⟨vs,vc,h1,h2,h3⟩=>⟨o,vs,ho,h1,by simp only [hc,hd,h2]; exact h3⟩,h'⟩
theorem FinE_val {o:Oper} {p:PW} {l:Env} {d:Nat} {v:Value} (hb:Below w.heap.size w w') (hd:o.dst=some d) (hl:look l d=some v) (hp:p.p v w' []):FinE o p w [] l w' :=
 ⟨Keep.of hb,d,v,[],hd,hl,hp,List.nodup_nil,by simp,by simp⟩
theorem FinE_own {o:Oper} {p:PW} {l:Env} {d:Nat} {v:Value} {F:List Nat} (hb:Below w.heap.size w w') (hd:o.dst=some d) (hl:look l d=some v) (hp:p.p v w' F) (hn:F.Nodup) (hF:∀b∈F,w.heap.size≤b) (hi:∀b∈F,b<w'.heap.size):FinE o p w [] l w' :=
 ⟨Keep.of hb,d,v,F,hd,hl,hp,hn,fun b h=>.inr (hF b h),hi⟩
theorem FinE_ctx {o:Oper} {p:PW} {l:Env} {d:Nat} {v:Value} {Fc:List Nat} {A:Item} {As:List Item} (hC:Ctx Fc w w' (A::As)) (hd:o.dst=some d) (hl:look l d=some v) (hp:∀F,A.p w' F→p.p v w' F):FinE o p w Fc l w':=by
 obtain ⟨k,_,⟨F,Fs,rfl,h1,h2⟩,h3,h4⟩:=hC
 rw [qe,qg] at h3
 exact ⟨k,d,v,F,hd,hl,hp F h1,h3.1,fun b hb=>(h4 b (by rw [qe]; exact List.mem_append_left _ hb)).symm,A.inh h1⟩
theorem Ctx.local {v:Value} {α:Type} [Rep α] {a:α} {F:List Nat} (hv:Val true w v a F) (ho:okF w0 w F):Ctx F w w [Item.own v a] :=
 ⟨Keep.refl _ _,[F],⟨F,[],rfl,hv,rfl⟩,by simpa using ho.1,fun b hb=>.inr (by simpa using hb)⟩
end
end Go.Gx
