/- A frame as a partial association list; one predicate over the kit's Code.wp; rules for the forms of code. Conditions: none. -/
import Derived.Tactics
import Derived.Tactics2
import Derived.WalkKit
import Derived.Still
import Derived.Laws.AppendOwn
import Derived.Below
import Derived.KernelRfl
set_option linter.unusedVariables false
set_option linter.unusedSimpArgs false
namespace Go.Gx

abbrev Env:=List (Nat × Value)

def look:Env→Nat→Option Value
 | [],_=>none
 | (t,v)::l,s=>bif Nat.beq t s then some v else look l s

def ev (l:Env):Operand→Option Value
 | .tmp t=>look l t
 | .const v=>some v
 | .global g=>some (.pointer (some ⟨g,0,none⟩))
 | .func f=>some (.func (.func f) #[] #[])

def evs (l:Env):List Operand→Option (List Value)
 | []=>some []
 | x::xs=>match ev l x,evs l xs with
  | some v,some vs=>some (v::vs)
  | _,_=>none

structure Agr (n:Nat) (l:Env) (a:Act):Prop where
 defers:a.defers=[]
 size:a.tmps.size=n
 look:∀t v,Gx.look l t=some v→a.tmps.getD t undef=v

theorem look_cons (t:Nat) (v:Value) (l:Env) (s:Nat):look ((t,v)::l) s=if t=s then some v else look l s:=by
 simp only [look]
 by_cases h:t=s
 ·subst h; simp
 ·have:Nat.beq t s=false:=by
   cases hb:Nat.beq t s with
   | false=>rfl
   | true=>exact absurd (Nat.eq_of_beq_eq_true hb) h
  simp [this,h]

theorem Agr.ev {n:Nat} {l:Env} {a:Act} (h:Agr n l a) {x:Operand} {v:Value} (hx:Gx.ev l x=some v):a.eval x=v:=by
 cases x with
 | tmp t=>exact h.look t v hx
 | const u=>simpa [Gx.ev,Act.eval] using hx
 | global g=>simpa [Gx.ev,Act.eval] using hx
 | func f=>simpa [Gx.ev,Act.eval] using hx

theorem Agr.evs {n:Nat} {l:Env} {a:Act} (h:Agr n l a):∀{xs:List Operand} {vs:List Value},Gx.evs l xs=some vs→xs.map a.eval=vs
 | [],vs,hx=>by simpa [Gx.evs] using hx
 | x::xs,vs,hx=>by
  simp only [Gx.evs] at hx
  cases h1:Gx.ev l x with
  | none=>simp [h1] at hx
  | some v =>
   cases h2:Gx.evs l xs with
   | none=>simp [h1,h2] at hx
   | some vs' =>
    simp [h1,h2] at hx
    subst hx
    simp [h.ev h1,h.evs h2]

theorem Agr.put {n:Nat} {l:Env} {a:Act} (h:Agr n l a) {d:Nat} (hd:d<n) (v:Value):Agr n ((d,v)::l) (a.put (some d) v):=by
 refine ⟨h.defers,by simp [Act.put,h.size],fun t u hu=>?_⟩
 rw [look_cons] at hu
 by_cases e:d=t
 ·subst e
  simp at hu
  subst hu
  have:d<a.tmps.size:=by rw [h.size]; exact hd
  simp [Act.put,this]
 ·simp [e] at hu
  have:=h.look t u hu
  simpa [Act.put,Array.getElem?_setIfInBounds_ne e] using this

theorem Agr.put_none {n:Nat} {l:Env} {a:Act} (h:Agr n l a) (v:Value):Agr n l (a.put none v):=h

def Sub (l':Env) (l:Env):Prop:=∀t v,look l' t=some v→look l t=some v
def SubL:Env→Env→Prop
 | [],_=>True
 | (t,v)::l',l=>look l t=some v∧SubL l' l
theorem SubL.sub:∀{l' l:Env},SubL l' l→Sub l' l
 | [],_,_=>fun t v h=>by simp [look] at h
 | (t,v)::l',l,⟨h1,h2⟩=>fun s u hs=>by
  rw [look_cons] at hs
  by_cases e:t=s
  ·subst e; simp at hs; subst hs; exact h1
  ·simp [e] at hs; exact h2.sub s u hs
theorem Agr.sub {n:Nat} {l l':Env} {a:Act} (h:Agr n l a) (hs:Sub l' l):Agr n l' a:=⟨h.defers,h.size,fun t v hv=>h.look t v (hs t v hv)⟩

abbrev Post:=Exit→Env→World→Prop

def W (P:Program) (n:Nat) (c:Code) (Q:Post) (l:Env) (w:World):Prop :=
 ∀a,Agr n l a→c.wp P (fun e a' w'=>∃l',Agr n l' a'∧Q e l' w') a w

def WL (P:Program) (n:Nat) (ops:Array Oper) (K:Env→World→Prop) (os:List Oper) (l:Env) (w:World):Prop :=
 ∀a,Agr n l a→wpList P ops (fun e a' w'=>e=.normal∧∃l',Agr n l' a'∧K l' w') os a w

def nrm (Q:Post) (K:Env→World→Prop):Post
 | .normal,l,w=>∃l',Sub l' l∧K l' w
 | e,l,w=>Q e l w
def blk (id:Nat) (Q:Post):Post
 | .exit id',l,w=>if id'=id then Q .normal l w else Q (.exit id') l w
 | e,l,w=>Q e l w

section
variable {P:Program} {n:Nat} {Q Q':Post} {l l':Env} {w:World} {ops:Array Oper} {K:Env→World→Prop}

theorem W.sub {c:Code} (h:W P n c Q l' w) (hs:SubL l' l):W P n c Q l w:=fun a ha=>h a (ha.sub hs.sub)
theorem WL.sub {os:List Oper} (h:WL P n ops K os l' w) (hs:SubL l' l):WL P n ops K os l w:=fun a ha=>h a (ha.sub hs.sub)
theorem W.mono {c:Code} (h:W P n c Q' l w) (hq:∀e l w,Q' e l w→Q e l w):W P n c Q l w :=
 fun a ha=>wp_mono (h a ha) fun e a w ⟨l,h1,h2⟩=>⟨l,h1,hq _ _ _ h2⟩

theorem W_skip (h:Q .normal l w):W P n .skip Q l w:=fun _ ha=>wp_skip ⟨l,ha,h⟩
theorem W_ret (h:Q .ret l w):W P n .ret Q l w:=fun _ ha=>wp_ret ⟨l,ha,h⟩
theorem W_exit {id:Nat} (h:Q (.exit id) l w):W P n (.exit id) Q l w:=fun _ ha=>wp_exit ⟨l,ha,h⟩
theorem W_seq {x y:Code} (h:W P n x (nrm Q fun l w=>W P n y Q l w) l w):W P n (.seq x y) Q l w:=fun a ha =>
 wp_seq (wp_mono (h a ha) fun e a w ⟨l,h1,h2⟩=>by
  cases e with
  | normal=>obtain ⟨l',h3,h4⟩:=h2; exact h4 a (h1.sub h3)
  | _=>exact ⟨l,h1,h2⟩)
theorem W_cond {c:Operand} {x y:Code} {b:Bool} (hc:ev l c=some (.bool b)) (ht:b=true→W P n x Q l w) (hf:b=false→W P n y Q l w):W P n (.cond c x y) Q l w:=fun a ha =>
 wp_cond_split (ha.ev hc) (fun h=>ht h a ha) (fun h=>hf h a ha)
theorem W_cond_t {c:Operand} {x y:Code} (hc:ev l c=some (.bool true)) (h:W P n x Q l w):W P n (.cond c x y) Q l w:=fun a ha=>wp_cond_true (ha.ev hc) (h a ha)
theorem W_cond_f {c:Operand} {x y:Code} (hc:ev l c=some (.bool false)) (h:W P n y Q l w):W P n (.cond c x y) Q l w:=fun a ha=>wp_cond_false (ha.ev hc) (h a ha)
theorem W_block {id:Nat} {c:Code} (h:W P n c (blk id Q) l w):W P n (.block id c) Q l w:=fun a ha =>
 wp_block (wp_mono (h a ha) fun e a w ⟨l,h1,h2⟩=>by
  cases e with
  | exit id' =>
   simp only [Exit.inBlock,blk] at h2 ⊢
   by_cases hi:id'=id
   ·rw [if_pos hi] at h2 ⊢; exact ⟨l,h1,h2⟩
   ·rw [if_neg hi] at h2 ⊢; exact ⟨l,h1,h2⟩
  | _=>exact ⟨l,h1,h2⟩)
theorem W_cut (I:Env→World→Prop) {x y:Code} (h:W P n x (nrm Q I) l w) (h2:∀l w,I l w→W P n y Q l w):W P n (.seq x y) Q l w :=
 W_seq (h.mono fun e l w q=>by
  cases e with
  | normal=>obtain ⟨l',h3,h4⟩:=q; exact ⟨l',h3,h2 _ _ h4⟩
  | _=>exact q)

theorem W_norm (I:Env→World→Prop) {c:Code} (h:W P n c (nrm Q I) l w) (h2:∀l l' w,Sub l' l→I l' w→Q .normal l w):W P n c Q l w :=
 h.mono fun e l w q=>by
  cases e with
  | normal=>obtain ⟨l',h3,h4⟩:=q; exact h2 _ _ _ h3 h4
  | _=>exact q

theorem nrm_sub (hs:SubL l' l) (h:K l' w):nrm Q K .normal l w:=⟨l',hs.sub,h⟩
theorem nrm_sub' (hs:Sub l' l) (h:K l' w):nrm Q K .normal l w:=⟨l',hs,h⟩
theorem nrm_subs {l2:Env} (hs:Sub l' l) (h2:SubL l2 l') (h:K l2 w):nrm Q K .normal l w:=⟨l2,fun t v hv=>hs t v (h2.sub t v hv),h⟩
theorem nrm_normal (h:K l w):nrm Q K .normal l w:=⟨l,fun _ _ h=>h,h⟩
theorem nrm_exit {id:Nat} (h:Q (.exit id) l w):nrm Q K (.exit id) l w:=h
theorem nrm_ret (h:Q .ret l w):nrm Q K .ret l w:=h
theorem blk_exit {id:Nat} (h:Q .normal l w):blk id Q (.exit id) l w:=by simp only [blk,if_true]; exact h
theorem blk_normal {id:Nat} (h:Q .normal l w):blk id Q .normal l w:=h
theorem blk_ret {id:Nat} (h:Q .ret l w):blk id Q .ret l w:=h

theorem W_loop (I:Nat→Env→World→Prop) {c:Code} (k:Nat) (h0:I k l w)
  (round:∀k l w,I k l w→W P n c (nrm Q fun l' w'=>∃k',k'<k∧I k' l' w') l w):W P n (.loop c) Q l w:=by
 intro a ha b kk cs
 have key:∀k l a w,Agr n l a→I k l w →
   ∃e a' w',(∃l',Agr n l' a'∧Q e l' w')∧Arrives P (lone (b.at a (.code c::.inLoop c::kk)) cs w) b kk cs e a' w':=by
  intro k
  induction k using Nat.strongRecOn with
  | _ k ih =>
   intro l a w ha hI
   obtain ⟨e,a₁,w₁,⟨l₁,hl₁,hq⟩,harr⟩:=round k l w hI a ha b (.inLoop c::kk) cs
   cases e with
   | normal =>
    obtain ⟨l',hs,k',hk',hI'⟩:=hq
    obtain ⟨e₂,a₂,w₂,hq₂,harr₂⟩:=ih k' hk' l' a₁ w₁ (hl₁.sub hs) hI'
    exact ⟨e₂,a₂,w₂,hq₂,.of_steps (Steps.trans harr (.one step_inLoop)) harr₂⟩
   | exit id=>exact ⟨_,a₁,w₁,⟨l₁,hl₁,hq⟩,.pass (x:=.inLoop c) rfl (fun _ _=>.inl (by simp)) harr⟩
   | goto l=>exact ⟨_,a₁,w₁,⟨l₁,hl₁,hq⟩,.pass (x:=.inLoop c) rfl (fun _ _=>.inl (by simp)) harr⟩
   | ret=>exact ⟨_,a₁,w₁,⟨l₁,hl₁,hq⟩,.pass (x:=.inLoop c) rfl (fun _ _=>.inl (by simp)) harr⟩
   | panic ch=>exact ⟨_,a₁,w₁,⟨l₁,hl₁,hq⟩,.pass (x:=.inLoop c) rfl (fun _ _=>.inl (by simp)) harr⟩
   | outgrown=>exact ⟨_,a₁,w₁,⟨l₁,hl₁,hq⟩,.pass (x:=.inLoop c) rfl (fun _ _=>.inl (by simp)) harr⟩
 obtain ⟨e,a',w',hq,harr⟩:=key k l a w ha h0
 exact ⟨e,a',w',hq,.of_steps (.one step_loop) harr⟩

theorem WL_nil (h:K l w):WL P n ops K [] l w:=fun _ ha=>wpList_nil ⟨rfl,l,ha,h⟩
theorem W_reg {id:Nat} {os:List Oper} (h:WL P n os.toArray (fun l w=>Q .normal l w) os l w):W P n (.region id os.toArray false) Q l w:=fun a ha =>
 wp_mono (wp_region_lit (h a ha)) fun e a w ⟨he,l,h1,h2⟩=>by subst he; exact ⟨l,h1,h2⟩
theorem W_seq_reg {id:Nat} {os:List Oper} {y:Code} (h:WL P n os.toArray (fun l w=>W P n y Q l w) os l w):W P n (.seq (.region id os.toArray false) y) Q l w :=
 W_seq (fun a ha=>wp_mono (wp_region_lit (h a ha)) fun e a w ⟨he,l,h1,h2⟩=>by subst he; exact ⟨l,h1,nrm_normal h2⟩)
end
end Go.Gx
