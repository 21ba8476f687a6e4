/- Owned items, boxes, the entry into a function and its end. Conditions: none. -/
import Derived.Test.YthidohmobbomfaaGreatGxD
set_option linter.unusedVariables false
set_option linter.unusedSimpArgs false
namespace Go.Gx
open List renaming flatten_cons→qb,mem_of_getElem?→qc,nodup_append→qd,mem_append→qe,append_assoc→qf,mem_append_right→qg,mem_append_left→qh,flatten_append→qi
open Go.RowKit

structure Item where
 p:World→List Nat→Prop
 loc:∀{w w' F},p w F→(∀b∈F,w'.heap[b]?=w.heap[b]?)→p w' F
 inh:∀{w F},p w F→∀b∈F,b<w.heap.size

def Item.own {α:Type} [Rep α] (v:Value) (a:α):Item:=⟨fun w F=>Val true w v a F,Val.frame,Val.inh⟩
def Item.box (b:Nat) (cs:List Value):Item :=
 ⟨fun w F=>F=[b]∧∃T,w.heap[b]?=some (.cells cs.toArray T (0,0)),
  fun ⟨h1,T,h2⟩ hf=>⟨h1,T,by rw [hf b (by simp [h1])]; exact h2⟩,
  fun ⟨h1,T,h2⟩ c hc=>by subst h1; simp at hc; subst hc; exact (Array.getElem?_eq_some_iff.1 h2).1⟩

def Hold:List Item→World→List (List Nat)→Prop
 | [],_,Fs=>Fs=[]
 | A::As,w,Fs=>∃F Fs',Fs=F::Fs'∧A.p w F∧Hold As w Fs'

theorem Hold.loc:∀{As:List Item} {w w':World} {Fs:List (List Nat)},Hold As w Fs→(∀b∈Fs.flatten,w'.heap[b]?=w.heap[b]?)→Hold As w' Fs
 | [],_,_,_,h,_=>h
 | A::As,w,w',_,⟨F,Fs',rfl,h1,h2⟩,hf=>⟨F,Fs',rfl,A.loc h1 fun b hb=>hf b (by simp [hb]),h2.loc fun b hb=>hf b (by rw [qb]; exact qg _ hb)⟩
theorem Hold.inh:∀{As:List Item} {w:World} {Fs:List (List Nat)},Hold As w Fs→∀b∈Fs.flatten,b<w.heap.size
 | [],_,_,h,b,hb=>by rw [show _=[] from h] at hb; cases hb
 | A::As,w,_,⟨F,Fs',rfl,h1,h2⟩,b,hb=>by
  rw [qb,qe] at hb
  rcases hb with hb | hb
  ·exact A.inh h1 b hb
  ·exact h2.inh b hb

structure Ctx (D:List Nat) (w0 w:World) (As:List Item):Prop where
 keep:Keep D w0 w
 held:∃Fs,Hold As w Fs∧Fs.flatten.Nodup∧∀b∈Fs.flatten,w0.heap.size≤b∨b∈D

section
variable {D:List Nat} {w0 w w':World} {As:List Item} {A B C:Item}

theorem Ctx.start (w:World):Ctx [] w w []:=⟨Keep.refl _ _,[],rfl,by simp,by simp⟩
theorem Ctx.grow (h:Ctx D w0 w As) (hb:Below w.heap.size w w'):Ctx D w0 w' As:=by
 obtain ⟨k,Fs,h1,h2,h3⟩:=h
 exact ⟨k.then hb,Fs,h1.loc fun b hb'=>hb.block b (h1.inh b hb'),h2,h3⟩
theorem Ctx.push (h:Ctx D w0 w As) (hb:Below w.heap.size w w') {F:List Nat} (hA:A.p w' F) (hn:F.Nodup) (hF:∀b∈F,w.heap.size≤b):Ctx D w0 w' (A::As):=by
 obtain ⟨k,Fs,h1,h2,h3⟩:=h
 refine ⟨k.then hb,F::Fs,⟨F,Fs,rfl,hA,h1.loc fun b hb'=>hb.block b (h1.inh b hb')⟩,?_,?_⟩
 ·rw [qb,qd]
  refine ⟨hn,h2,fun a ha b hb' e=>?_⟩
  subst e
  have:=hF a ha
  have:=h1.inh a hb'
  omega
 ·intro b hb'
  rw [qb,qe] at hb'
  rcases hb' with hb' | hb'
  ·exact .inl (Nat.le_trans k.size (hF b hb'))
  ·exact h3 b hb'
theorem Ctx.tail (h:Ctx D w0 w (A::As)):Ctx D w0 w As:=by
 obtain ⟨k,_,⟨F,Fs,rfl,h1,h2⟩,h3,h4⟩:=h
 rw [qb,qd] at h3
 exact ⟨k,Fs,h2,h3.2.1,fun b hb=>h4 b (by rw [qb]; exact qg _ hb)⟩
theorem Hold.get:∀{As:List Item} {w:World} {Fs:List (List Nat)},Hold As w Fs→∀{i:Nat} {A:Item},As[i]?=some A→∃F,Fs[i]?=some F∧A.p w F
 | [],_,_,_,i,A,h=>by simp at h
 | B::As,w,_,⟨F,Fs',rfl,h1,h2⟩,i,A,h=>by
  cases i with
  | zero=>simp at h; subst h; exact ⟨F,rfl,h1⟩
  | succ i=>obtain ⟨F',h3,h4⟩:=h2.get (i:=i) (by simpa using h); exact ⟨F',by simpa using h3,h4⟩
theorem Ctx.get (h:Ctx D w0 w As) {i:Nat} (hi:As[i]?=some A):∃F,A.p w F:=by
 obtain ⟨k,Fs,h1,h2,h3⟩:=h
 obtain ⟨F,_,h4⟩:=h1.get hi
 exact ⟨F,h4⟩
theorem Hold.set:∀{As:List Item} {w w':World} {Fs:List (List Nat)},Hold As w Fs→∀{i:Nat} {A':Item} {F F':List Nat},Fs[i]?=some F→A'.p w' F' →
  (∀j,j≠i→∀G,Fs[j]?=some G→∀b∈G,w'.heap[b]?=w.heap[b]?)→Hold (As.set i A') w' (Fs.set i F')
 | [],_,_,_,h,i,A',F,F',hF,_,_=>by rw [show _=[] from h] at hF; simp at hF
 | B::As,w,w',_,⟨G,Fs',rfl,h1,h2⟩,i,A',F,F',hF,hA,hk=>by
  cases i with
  | zero =>
   refine ⟨F',Fs',rfl,hA,h2.loc fun b hb=>?_⟩
   obtain ⟨G',hG,hb'⟩:=List.mem_flatten.1 hb
   obtain ⟨j,hj⟩:=List.getElem?_of_mem hG
   exact hk (j+1) (by omega) G' (by simpa using hj) b hb'
  | succ i =>
   exact ⟨G,Fs'.set i F',rfl,B.loc h1 fun b hb=>hk 0 (by omega) G rfl b hb,h2.set (by simpa using hF) hA fun j hj G' hG' b hb=>hk (j+1) (by omega) G' (by simpa using hG') b hb⟩

theorem nodup_apart {Fs:List (List Nat)} (h:Fs.flatten.Nodup):∀{i j:Nat} {F G:List Nat},Fs[i]?=some F→Fs[j]?=some G→i≠j→∀b∈F,b ∉ G:=by
 induction Fs with
 | nil=>intro i j F G h1; simp at h1
 | cons H Fs ih =>
  intro i j F G h1 h2 hij b hb hb'
  rw [qb,qd] at h
  cases i with
  | zero =>
   simp at h1; subst h1
   cases j with
   | zero=>exact hij rfl
   | succ j=>exact h.2.2 b hb b (List.mem_flatten.2 ⟨G,qc (by simpa using h2),hb'⟩) rfl
  | succ i =>
   cases j with
   | zero =>
    simp at h2; subst h2
    exact h.2.2 b hb' b (List.mem_flatten.2 ⟨F,qc (by simpa using h1),hb⟩) rfl
   | succ j=>exact ih h.2.1 (by simpa using h1) (by simpa using h2) (by omega) b hb hb'
theorem nodup_set {Fs:List (List Nat)} (h:Fs.flatten.Nodup) {N:Nat} (hN:∀b∈Fs.flatten,b<N):∀{i:Nat} {F F':List Nat},Fs[i]?=some F→F'.Nodup→(∀b∈F',b∈F∨N≤b)→(Fs.set i F').flatten.Nodup∧∀b∈(Fs.set i F').flatten,b∈Fs.flatten∨b∈F':=by
 induction Fs with
 | nil=>intro i F F' h1; simp at h1
 | cons H Fs ih =>
  intro i F F' h1 h2 h3
  rw [qb,qd] at h
  have hN':∀b∈Fs.flatten,b<N:=fun b hb=>hN b (by rw [qb]; exact qg _ hb)
  cases i with
  | zero =>
   simp at h1; subst h1
   refine ⟨?_,?_⟩
   ·show (F'::Fs).flatten.Nodup
    rw [qb,qd]
    refine ⟨h2,h.2.1,fun a ha b hb e=>?_⟩
    subst e
    rcases h3 a ha with h4 | h4
    ·exact h.2.2 a h4 a hb rfl
    ·have:=hN' a hb; omega
   ·intro b hb
    rw [show (H::Fs).set 0 F'=F'::Fs from rfl,qb,qe] at hb
    rw [qb,qe]
    rcases hb with hb | hb
    ·exact .inr hb
    ·exact .inl (.inr hb)
  | succ i =>
   obtain ⟨g1,g2⟩:=ih h.2.1 hN' (by simpa using h1) h2 h3
   refine ⟨?_,?_⟩
   ·show (H::Fs.set i F').flatten.Nodup
    rw [qb,qd]
    refine ⟨h.1,g1,fun a ha b hb e=>?_⟩
    subst e
    rcases g2 a hb with h4 | h4
    ·exact h.2.2 a ha a h4 rfl
    ·rcases h3 a h4 with h5 | h5
     ·exact h.2.2 a ha a (List.mem_flatten.2 ⟨F,qc (by simpa using h1),h5⟩) rfl
     ·have:=hN a (by rw [qb]; exact qh _ ha); omega
   ·intro b hb
    rw [show (H::Fs).set (i+1) F'=H::Fs.set i F' from rfl,qb,qe] at hb
    rw [qb,qe]
    rcases hb with hb | hb
    ·exact .inl (.inl hb)
    ·rcases g2 b hb with h4 | h4
     ·exact .inl (.inr h4)
     ·exact .inr h4

theorem Ctx.focus (h:Ctx D w0 w As) {i:Nat} (hi:As[i]?=some A):∃F,A.p w F∧F.Nodup ∧
  ∀(w':World) (A':Item) (F':List Nat),Keep F w w'→A'.p w' F'→F'.Nodup→(∀b∈F',b∈F∨w.heap.size≤b)→Ctx D w0 w' (As.set i A'):=by
 obtain ⟨k,Fs,h1,h2,h3⟩:=h
 obtain ⟨F,hF,hA⟩:=h1.get hi
 have hsub:∀b∈F,b∈Fs.flatten:=fun b hb=>List.mem_flatten.2 ⟨F,qc hF,hb⟩
 have hnd:F.Nodup:=by
  have:∀{Fs:List (List Nat)},Fs.flatten.Nodup→∀G∈Fs,G.Nodup:=by
   intro Fs
   induction Fs with
   | nil=>intro _ G hG; cases hG
   | cons H Fs ih =>
    intro hn G hG
    rw [qb,qd] at hn
    rcases List.mem_cons.1 hG with rfl | hG
    ·exact hn.1
    ·exact ih hn.2.1 G hG
  exact this h2 F (qc hF)
 refine ⟨F,hA,hnd,fun w' A' F' hk hA' hn' hF'=>?_⟩
 have h4:=nodup_set h2 (N:=w.heap.size) (fun b hb=>h1.inh b hb) hF hn' hF'
 refine ⟨k.trans hk fun b hb=>h3 b (hsub b hb),Fs.set i F',h1.set hF hA' fun j hj G hG b hb=>hk.block b (h1.inh b (List.mem_flatten.2 ⟨G,qc hG,hb⟩)) (nodup_apart h2 hG hF hj b hb),h4.1,fun b hb=>?_⟩
 rcases h4.2 b hb with h5 | h5
 ·exact h3 b h5
 ·rcases hF' b h5 with h6 | h6
  ·exact h3 b (hsub b h6)
  ·exact .inl (Nat.le_trans k.size h6)
theorem Ctx.merge (hm:∀w F G,A.p w F→B.p w G→C.p w (F++G)) (h:Ctx D w0 w (A::B::As)):Ctx D w0 w (C::As):=by
 obtain ⟨k,_,⟨F,_,rfl,h1,G,Fs,rfl,h2,h3⟩,h4,h5⟩:=h
 exact ⟨k,(F++G)::Fs,⟨F++G,Fs,rfl,hm w F G h1 h2,h3⟩,by simpa using h4,fun b hb=>h5 b (by simpa using hb)⟩
theorem Ctx.turn (hm:∀w F,A.p w F→∃G,C.p w G∧G.Sublist F) (h:Ctx D w0 w (A::As)):Ctx D w0 w (C::As):=by
 obtain ⟨k,_,⟨F,Fs,rfl,h1,h2⟩,h4,h5⟩:=h
 obtain ⟨G,h6,h7⟩:=hm w F h1
 rw [qb] at h4 h5
 exact ⟨k,G::Fs,⟨G,Fs,rfl,h6,h2⟩,by rw [qb]; exact (h7.append_right _).nodup h4,fun b hb=>h5 b (by
  rw [qb] at hb
  exact (h7.append_right _).subset hb)⟩
theorem Ctx.swap (h:Ctx D w0 w (A::B::As)):Ctx D w0 w (B::A::As):=by
 obtain ⟨k,_,⟨F,_,rfl,h1,G,Fs,rfl,h2,h3⟩,h4,h5⟩:=h
 refine ⟨k,G::F::Fs,⟨G,_,rfl,h2,F,Fs,rfl,h1,h3⟩,?_,fun b hb=>h5 b ?_⟩
 ·simp only [qb] at h4 ⊢
  have:(G++(F++Fs.flatten)).Perm (F++(G++Fs.flatten)):=by
   rw [←qf,←qf]; exact List.perm_append_comm.append_right _
  exact this.nodup_iff.2 h4
 ·simp only [qb,qe] at hb ⊢
  rcases hb with hb | hb | hb
  ·exact .inr (.inl hb)
  ·exact .inl hb
  ·exact .inr (.inr hb)
theorem Ctx.front (h:Ctx D w0 w As):∀(i:Nat),As[i]?=some A→Ctx D w0 w (A::As.eraseIdx i):=by
 have key:∀(i:Nat) (As:List Item),As[i]?=some A→∀(Fs:List (List Nat)),Hold As w Fs→∃F Fs',Hold (A::As.eraseIdx i) w (F::Fs')∧(F::Fs').flatten.Perm Fs.flatten:=by
  intro i
  induction i with
  | zero =>
   intro As hA Fs h1
   cases As with
   | nil=>simp at hA
   | cons B As=>simp at hA; subst hA; obtain ⟨F,Fs',rfl,h2,h3⟩:=h1; exact ⟨F,Fs',⟨F,Fs',rfl,h2,h3⟩,List.Perm.refl _⟩
  | succ i ih =>
   intro As hA Fs h1
   cases As with
   | nil=>simp at hA
   | cons B As =>
    obtain ⟨G,Gs,rfl,h2,h3⟩:=h1
    obtain ⟨F,Fs',⟨F',Fs'',e,h4,h5⟩,hp⟩:=ih As (by simpa using hA) Gs h3
    simp only [List.cons.injEq] at e
    obtain ⟨rfl,rfl⟩:=e
    refine ⟨F,G::Fs',⟨F,_,rfl,h4,G,Fs',rfl,h2,h5⟩,?_⟩
    simp only [qb] at hp ⊢
    have:(F++(G++Fs'.flatten)).Perm (G++(F++Fs'.flatten)):=by
     rw [←qf,←qf]; exact List.perm_append_comm.append_right _
    exact this.trans (hp.append_left G)
 intro i hi
 obtain ⟨k,Fs,h1,h2,h3⟩:=h
 obtain ⟨F,Fs',h4,h5⟩:=key i As hi Fs h1
 exact ⟨k,F::Fs',h4,h5.nodup_iff.2 h2,fun b hb=>h3 b (h5.mem_iff.1 hb)⟩

theorem Hold.take:∀{As:List Item} {w:World} {Fs:List (List Nat)} (n:Nat),Hold As w Fs→Hold (As.take n) w (Fs.take n)
 | [],_,_,n,h=>by rw [show _=[] from h]; cases n <;> rfl
 | A::As,w,_,n,⟨F,Fs',rfl,h1,h2⟩=>by
  cases n with
  | zero=>rfl
  | succ n=>exact ⟨F,Fs'.take n,rfl,h1,h2.take n⟩
theorem Ctx.headN (h:Ctx D w0 w As) (n:Nat):Ctx D w0 w (As.take n):=by
 obtain ⟨k,Fs,h1,h2,h3⟩:=h
 have hs:(Fs.take n).flatten.Sublist Fs.flatten:=by
  have e:Fs.flatten=(Fs.take n).flatten++(Fs.drop n).flatten:=by rw [←qi,List.take_append_drop]
  rw [e]; exact List.sublist_append_left _ _
 exact ⟨k,Fs.take n,h1.take n,hs.nodup h2,fun b hb=>h3 b (hs.subset hb)⟩

theorem Ctx.ro {α:Type} [Rep α] {v:Value} {a:α} (h:Ctx D w0 w As) (i:Nat) (hi:As[i]?=some (Item.own v a)):RO [] w v a:=by
 obtain ⟨F,hF⟩:=h.get hi
 exact ⟨F,Val.weak hF,by simp⟩
end

def envOf:Nat→List Value→Env
 | _,[]=>[]
 | k,v::vs=>(k,v)::envOf (k+1) vs
theorem look_envOf:∀(vs:List Value) (k t:Nat),look (envOf k vs) t=if k≤t then vs[t-k]? else none
 | [],k,t=>by simp [envOf,look]
 | v::vs,k,t=>by
  simp only [envOf,look_cons,look_envOf vs (k+1) t]
  by_cases h:k=t
  ·subst h; simp
  ·by_cases h2:k≤t
   ·have e:t-k=(t-(k+1))+1:=by omega
    simp [h,h2,(show k+1≤t by omega),e]
   ·simp [h,h2,(show ¬k+1≤t by omega)]

def fnPost (P:Program) (fn:Func) (R:Ending→World→Prop):Post
 | .normal,l,w | .ret,l,w=>∃v,(∀a,Agr fn.ntmps l a→(results fn a.tmps).run P w=.ok v w)∧R (.returned v) w
 | _,_,_=>False

theorem calls_of_W {P:Program} {f:FuncId} {fn:Func} {c:Code} {vs:List Value} {w:World} {R:Ending→World→Prop} (hf:P.funcs[f]?=some fn) (hb:fn.body=some c) (hn:Nat.ble vs.length fn.ntmps=true)
  (h:W P fn.ntmps c (fnPost P fn R) (envOf 0 vs) w):Calls P f vs.toArray w R:=by
 refine calls_of_wp hf hb ?_
 have ha:Agr fn.ntmps (envOf 0 vs) { tmps:=vs.toArray++Array.replicate (fn.ntmps-vs.toArray.size) undef,defers:=[] }:=by
  have hn':vs.length≤fn.ntmps:=by simpa using hn
  refine ⟨rfl,by simp; omega,fun t v hv=>?_⟩
  rw [look_envOf] at hv
  simp only [Nat.zero_le,if_true,Nat.sub_zero] at hv
  have hlt:t<vs.length:=(List.getElem?_eq_some_iff.1 hv).1
  rw [Array.getD_eq_getD_getElem?,Array.getElem?_append_left (by simpa using hlt)]
  simp [hv]
 refine wp_mono (h _ ha) ?_
 rintro e a w' ⟨l',h1,h2⟩
 cases e with
 | normal=>obtain ⟨v,h3,h4⟩:=h2; exact ⟨h1.defers,v,h3 a h1,h4⟩
 | ret=>obtain ⟨v,h3,h4⟩:=h2; exact ⟨h1.defers,v,h3 a h1,h4⟩
 | exit id=>exact h2.elim
 | goto l=>exact h2.elim
 | panic c=>exact h2.elim
 | outgrown=>exact h2.elim

section
variable {P:Program} {fn:Func} {R:Ending→World→Prop} {l:Env} {w:World} {t t1 t2 t3:Tmp} {v v1 v2 v3:Value}
theorem fn_ret1 (hr:fn.results=#[.tmp t]) (hv:look l t=some v) (h:R (.returned v) w):fnPost P fn R .ret l w :=
 ⟨v,fun a ha=>by rw [results_tmp hr,ha.look t v hv],h⟩
theorem fn_ret2 (hr:fn.results=#[.tmp t1,.tmp t2]) (hv1:look l t1=some v1) (hv2:look l t2=some v2) (h:R (.returned (.tuple #[v1,v2])) w):fnPost P fn R .ret l w :=
 ⟨_,fun a ha=>by rw [results_tmp2 hr,ha.look t1 v1 hv1,ha.look t2 v2 hv2],h⟩
theorem fn_ret3 (hr:fn.results=#[.tmp t1,.tmp t2,.tmp t3]) (hv1:look l t1=some v1) (hv2:look l t2=some v2) (hv3:look l t3=some v3) (h:R (.returned (.tuple #[v1,v2,v3])) w):fnPost P fn R .ret l w :=
 ⟨_,fun a ha=>by simp only [results,hr]; simp [←Array.getD_eq_getD_getElem?,ha.look t1 v1 hv1,ha.look t2 v2 hv2,ha.look t3 v3 hv3],h⟩
end

section
variable {α β γ:Type} [Rep α] [Rep β] [Rep γ]
def Res (w:World) (r:α) (v:Value) (w':World):Prop:=Below w.heap.size w w'∧∃F,Val true w' v r F∧F.Nodup∧∀b∈F,w.heap.size≤b
def Res2 (w:World) (r:α) (s:β) (v:Value) (w':World):Prop:=Below w.heap.size w w'∧∃v1 v2 F1 F2,v=.tuple #[v1,v2]∧Val true w' v1 r F1∧Val true w' v2 s F2∧(F1++F2).Nodup∧∀b∈F1++F2,w.heap.size≤b
def Res3 (w:World) (r:α) (s:β) (t:γ) (v:Value) (w':World):Prop:=Below w.heap.size w w'∧∃v1 v2 v3 F1 F2 F3,v=.tuple #[v1,v2,v3]∧Val true w' v1 r F1∧Val true w' v2 s F2∧Val true w' v3 t F3∧(F1++(F2++F3)).Nodup∧∀b∈F1++(F2++F3),w.heap.size≤b
theorem val_int {m:Bool} {w:World} {v:Value} {a:Int} {F:List Nat} (h:Val m w v a F):v=.int .i64 a∧F=[]:=by obtain ⟨cs,rfl,rfl,rfl⟩:=h; exact ⟨rfl,rfl⟩
theorem val_bool {m:Bool} {w:World} {v:Value} {a:Bool} {F:List Nat} (h:Val m w v a F):v=.bool a∧F=[]:=by obtain ⟨cs,rfl,rfl,rfl⟩:=h; exact ⟨rfl,rfl⟩
theorem int_val {m:Bool} {w:World} (a:Int):Val m w (.int .i64 a) a []:=⟨[_],rfl,rfl,rfl⟩
theorem bool_val {m:Bool} {w:World} (a:Bool):Val m w (.bool a) a []:=⟨[_],rfl,rfl,rfl⟩
theorem res_int {w w':World} {v:Value} {a:Int} (h:Res w a v w'):v=.int .i64 a∧Below w.heap.size w w':=by obtain ⟨hb,F,h1,_⟩:=h; exact ⟨(val_int h1).1,hb⟩
theorem res_bool {w w':World} {v:Value} {a:Bool} (h:Res w a v w'):v=.bool a∧Below w.heap.size w w':=by obtain ⟨hb,F,h1,_⟩:=h; exact ⟨(val_bool h1).1,hb⟩
theorem int_res {w w':World} {As:List Item} (h:Ctx [] w w' As) (a:Int):Res w a (.int .i64 a) w':=⟨h.keep.below,[],int_val a,by simp,by simp⟩
theorem bool_res {w w':World} {As:List Item} (h:Ctx [] w w' As) (a:Bool):Res w a (.bool a) w':=⟨h.keep.below,[],bool_val a,by simp,by simp⟩
theorem own_res {w w':World} {As:List Item} {a:α} {v:Value} (h:Ctx [] w w' As) (i:Nat) (hi:As[i]?=some (Item.own v a)):Res w a v w':=by
 obtain ⟨F,hF,hn,_⟩:=h.focus hi
 obtain ⟨k,Fs,h1,h2,h3⟩:=h
 obtain ⟨G,hG,hA⟩:=h1.get hi
 refine ⟨k.below,G,hA,?_,fun b hb=>?_⟩
 ·have:∀{Fs:List (List Nat)},Fs.flatten.Nodup→∀G∈Fs,G.Nodup:=by
   intro Fs
   induction Fs with
   | nil=>intro _ G hG; cases hG
   | cons H Fs ih =>
    intro hn G hG
    rw [qb,qd] at hn
    rcases List.mem_cons.1 hG with rfl | hG
    ·exact hn.1
    ·exact ih hn.2.1 G hG
  exact this h2 G (qc hG)
 ·rcases h3 b (List.mem_flatten.2 ⟨G,qc hG,hb⟩) with h | h
  ·exact h
  ·cases h
theorem Ctx.triv {D:List Nat} {w w':World} {As:List Item} (h:Ctx D w w' As) {a:α} {v:Value} (hv:Val true w' v a []):Ctx D w w' (Item.own v a::As) :=
 h.push (A:=Item.own v a) (F:=[]) (Below.refl _ _) hv (by simp) (by simp)
theorem nil_val {w:World}:Val true w (.slice none 0 0) ([]:List α) []:=⟨[_],rfl,none,0,rfl,by simp,by simp [maxLen],.inl ⟨rfl,rfl,rfl,rfl⟩⟩
theorem nil_res {w w':World} {As:List Item} (h:Ctx [] w w' As):Res w ([]:List α) (.slice none 0 0) w':=⟨h.keep.below,[],nil_val,by simp,by simp⟩
theorem res2_of {w w':World} {As:List Item} {a:α} {b:β} {v1 v2:Value} (h:Ctx [] w w' (Item.own v1 a::Item.own v2 b::As)):Res2 w a b (.tuple #[v1,v2]) w':=by
 obtain ⟨k,_,⟨F1,_,rfl,h1,F2,Fs,rfl,h2,_⟩,h4,h5⟩:=h
 simp only [qb] at h4 h5
 rw [←qf] at h4 h5
 exact ⟨k.below,v1,v2,F1,F2,rfl,h1,h2,(List.nodup_append.1 h4).1,fun b hb=>(h5 b (qh _ hb)).resolve_right (by simp)⟩
theorem res3_of {w w':World} {As:List Item} {a:α} {b:β} {c:γ} {v1 v2 v3:Value} (h:Ctx [] w w' (Item.own v1 a::Item.own v2 b::Item.own v3 c::As)):Res3 w a b c (.tuple #[v1,v2,v3]) w':=by
 obtain ⟨k,_,⟨F1,_,rfl,h1,F2,_,rfl,h2,F3,Fs,rfl,h3,_⟩,h4,h5⟩:=h
 simp only [qb] at h4 h5
 rw [show F1++(F2++(F3++Fs.flatten))=(F1++(F2++F3))++Fs.flatten by simp] at h4 h5
 exact ⟨k.below,v1,v2,v3,F1,F2,F3,rfl,h1,h2,h3,(List.nodup_append.1 h4).1,fun b hb=>(h5 b (qh _ hb)).resolve_right (by simp)⟩
theorem Hold.append:∀{Bs As:List Item} {w:World} {Fs Gs:List (List Nat)},Hold Bs w Fs→Hold As w Gs→Hold (Bs++As) w (Fs++Gs)
 | [],As,w,_,Gs,h,h'=>by rw [show _=[] from h]; exact h'
 | B::Bs,As,w,_,Gs,⟨F,Fs',rfl,h1,h2⟩,h'=>⟨F,Fs'++Gs,rfl,h1,h2.append h'⟩
theorem Ctx.pushL {D:List Nat} {w0 w w':World} {As Bs:List Item} {Fs:List (List Nat)} (h:Ctx D w0 w As) (hb:Below w.heap.size w w') (hH:Hold Bs w' Fs) (hn:Fs.flatten.Nodup) (hF:∀b∈Fs.flatten,w.heap.size≤b):Ctx D w0 w' (Bs++As):=by
 obtain ⟨k,Gs,g1,g2,g3⟩:=h
 refine ⟨k.then hb,Fs++Gs,hH.append (g1.loc fun b hb'=>hb.block b (g1.inh b hb')),?_,?_⟩
 ·rw [qi,qd]
  refine ⟨hn,g2,fun a ha b hb' e=>?_⟩
  subst e
  have:=hF a ha
  have:=g1.inh a hb'
  omega
 ·intro b hb'
  rw [qi,qe] at hb'
  rcases hb' with hb' | hb'
  ·exact .inl (Nat.le_trans k.size (hF b hb'))
  ·exact g3 b hb'


def PV.ro (D:List Nat) (w0:World) (a:α):PV:=⟨fun v _ F=>F=[]∧RO D w0 v a,fun _ _ _ _ h _=>h⟩
def PV.at (D:List Nat) (w0:World) (a:α):PV:=⟨fun v _ F=>F=[]∧∃b off,v=ptr b off∧ROAt D w0 b off a,fun _ _ _ _ h _=>h⟩
def PV.own (a:α):PV:=⟨fun v w F=>Val true w v a F,fun _ _ _ _ h hb=>h.frame fun b hb'=>hb.block b (h.inh b hb')⟩
end
end Go.Gx
