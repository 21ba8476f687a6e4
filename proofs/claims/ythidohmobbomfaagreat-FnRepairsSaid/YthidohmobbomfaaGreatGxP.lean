/- A region that draws its order, op by op: what is alone goes on, what looks at no memory is taken at once. Conditions: none. -/
import Derived.Test.YthidohmobbomfaaGreatGxN
set_option linter.unusedVariables false
set_option linter.unusedSimpArgs false
namespace Go.Gx
open Go.RowKit

def WA (P:Program) (n:Nat) (ops:Array Oper) (K:Env→World→Prop) (f:Nat) (listed:Array Bool) (l:Env) (w:World):Prop :=
 ∀a,Agr n l a→wpAny P .any ops (fun e a w=>e=.normal∧∃l',Agr n l' a∧K l' w) f listed a w

def Fl (P:Program) (l:Env) (o:Oper):Prop:=∃v,∀(w:World) (ρ:Operand→Value),(∀x u,ev l x=some u→ρ x=u)→(execOp ρ o).run P w=.ok (.value v) w

section
variable {P:Program} {n:Nat} {ops:Array Oper} {K:Env→World→Prop} {f:Nat} {listed:Array Bool} {l:Env} {w:World}

theorem WA_done (hr:Region.ready .any ops listed=[]) (h:K l w):WA P n ops K f listed l w:=fun a ha=>wpAny_done hr ⟨rfl,l,ha,h⟩ f

theorem wpOp_of_WL' {i:Nat} {o:Oper} {l:Env} {w:World} {a:Act} {K:Env→World→Prop} {Q:Exit→Act→World→Prop} (ho:ops[i]?=some o) (ha:Agr n l a)
  (h:WL P n ops K [o] l w):wpOp P ops Q i (fun a' w'=>∃l',Agr n l' a'∧K l' w') a w:=by
 have h1:=h a ha
 unfold wpOp
 simp only [ho]
 simp only [wpList] at h1
 split
 ·rename_i hw
  rw [if_pos hw] at h1
  rcases h1 with h1 | ⟨_,a0,w0,hq⟩
  ·exact .inl (Oper.wp_post h1 (fun a' w' hh=>hh.2) (fun e a' w' hne hh=>absurd hh.1 hne))
  ·exact absurd hq.1 (by simp)
 ·rename_i hw
  rw [if_neg hw] at h1
  exact h1.2

theorem WA_one (i:Nat) {o:Oper} (hr:Region.ready .any ops listed=[i]) (ho:ops[i]?=some o) (h:WL P n ops (fun l' w'=>WA P n ops K f (listed.setIfInBounds i true) l' w') [o] l w):WA P n ops K (f+1) listed l w :=
 fun a ha=>wpAny_all hr (by simp) fun j hj=>by
  simp only [List.mem_singleton] at hj
  subst hj
  exact wpOp_mono (fun a' w' ⟨l',h1,h2⟩=>h2 a' h1) (wpOp_of_WL' ho ha h)

theorem WA_take (i:Nat) {o:Oper} (ho:ops[i]?=some o) (hs:Region.noSelect ops=true) (hf:Region.free .any ops listed i=true) (hr:(Region.ready .any ops listed).contains i=true) (hg:o.guard=none) (hfl:Fl P l o)
  (h:WL P n ops (fun l' w'=>WA P n ops K f (listed.setIfInBounds i true) l' w') [o] l w):WA P n ops K (f+1) listed l w:=fun a ha=>by
 obtain ⟨v,hv⟩:=hfl
 have hrun:∀w,(execOp a.eval o).run P w=.ok (.value v) w:=fun w=>hv w a.eval fun x u hx=>ha.ev hx
 have hw:Region.wanted o (yielded ops a.tmps)=true:=by simp [Region.wanted,hg]
 refine wpAny_take ho hs hf hr (v:=v) (fun c a w hq=>absurd hq.1 (by simp)) (.inl ⟨hw,hrun⟩) ?_
 have h1:=h a ha
 simp only [wpList,hw,if_true,Oper.wp,hrun w,Oper.upon] at h1
 rcases h1 with ⟨_,l',h2,h3⟩ | ⟨_,a0,w0,hq⟩
 ·exact h3 _ h2
 ·exact absurd hq.1 (by simp)

theorem WA_skip (i:Nat) {o:Oper} {d:Nat} {j:Nat} {want:Bool} {t:Nat} {u:Value} (ho:ops[i]?=some o) (hs:Region.noSelect ops=true) (hf:Region.free .any ops listed i=true) (hr:(Region.ready .any ops listed).contains i=true)
  (hg:o.guard=some (j,want)) (hj:((ops[j]?).bind (·.dst))=some t) (ht:look l t=some u) (hu:u≠.bool want) (hd:o.dst=some d) (hdn:Nat.blt d n=true)
  (h:WA P n ops K f (listed.setIfInBounds i true) ((d,undef)::l) w):WA P n ops K (f+1) listed l w:=fun a ha=>by
 have hy:(yielded ops a.tmps j == some want)=false:=by
  have h2:=ha.look t _ ht
  unfold yielded
  rw [hj]
  simp only [Option.bind_some]
  rw [Array.getD_eq_getD_getElem?] at h2
  cases h3:a.tmps[t]? with
  | none=>rfl
  | some u' =>
   rw [h3] at h2; simp at h2; subst h2
   cases u' <;> try rfl
   rename_i b
   cases b <;> cases want <;> first | rfl | exact absurd rfl hu
 have hw:Region.wanted o (yielded ops a.tmps)=false:=by simp only [Region.wanted,hg,hy]
 refine wpAny_take ho hs hf hr (v:=undef) (fun c a w hq=>absurd hq.1 (by simp)) (.inr ⟨hw,rfl⟩) ?_
 rw [hd]
 exact h _ (ha.put (by simpa [Nat.blt_eq] using hdn) undef)

theorem WA_takeG (i:Nat) {o:Oper} {j:Nat} {want:Bool} {t:Nat} (ho:ops[i]?=some o) (hs:Region.noSelect ops=true) (hf:Region.free .any ops listed i=true) (hr:(Region.ready .any ops listed).contains i=true)
  (hg:o.guard=some (j,want)) (hj:((ops[j]?).bind (·.dst))=some t) (ht:look l t=some (.bool want)) (hfl:Fl P l o)
  (h:WL P n ops (fun l' w'=>WA P n ops K f (listed.setIfInBounds i true) l' w') [o] l w):WA P n ops K (f+1) listed l w:=fun a ha=>by
 obtain ⟨v,hv⟩:=hfl
 have hrun:∀w,(execOp a.eval o).run P w=.ok (.value v) w:=fun w=>hv w a.eval fun x u hx=>ha.ev hx
 have hy:yielded ops a.tmps j=some want:=by
  have h2:=ha.look t _ ht
  unfold yielded
  rw [hj]
  simp only [Option.bind_some]
  rw [Array.getD_eq_getD_getElem?] at h2
  cases h3:a.tmps[t]? with
  | none=>rw [h3] at h2; simp [undef] at h2
  | some u=>rw [h3] at h2; simp at h2; subst h2; rfl
 have hw:Region.wanted o (yielded ops a.tmps)=true:=by simp [Region.wanted,hg,hy]
 refine wpAny_take ho hs hf hr (v:=v) (fun c a w hq=>absurd hq.1 (by simp)) (.inl ⟨hw,hrun⟩) ?_
 have h1:=h a ha
 simp only [wpList,hw,if_true,Oper.wp,hrun w,Oper.upon] at h1
 rcases h1 with ⟨_,l',h2,h3⟩ | ⟨_,a0,w0,hq⟩
 ·exact h3 _ h2
 ·exact absurd hq.1 (by simp)

theorem WA_fork {d:Nat} {b:Bool} (ht:b=true→WA P n ops K f listed ((d,.bool true)::l) w) (hf:b=false→WA P n ops K f listed ((d,.bool false)::l) w):WA P n ops K f listed ((d,.bool b)::l) w:=by
 cases b
 ·exact hf rfl
 ·exact ht rfl
theorem WA.sub {l':Env} (h:WA P n ops K f listed l' w) (hs:SubL l' l):WA P n ops K f listed l w:=fun a ha=>h a (ha.sub hs.sub)

theorem W_drawn {id:Nat} {os:List Oper} {Q:Post} (m:Nat) (hmm:os.length=m) (hm:P.follows .mixedOrders=true)
  (h:∀w',Below w.heap.size w w'→WA P n os.toArray (fun l w=>Q .normal l w) m (Array.replicate m false) l w'):W P n (.region id os.toArray true) Q l w:=fun a ha=>by
 subst hmm
 have hB:Below w.heap.size w { w with drawn:=w.drawn+1 }:=(Below.refl _ _).drew
 refine wp_region_any hm ?_
 have h1:=h _ hB a ha
 have key:∀(f:Nat) (listed:Array Bool) (a:Act) (w:World),wpAny P .any os.toArray (fun e a w=>e=.normal∧∃l',Agr n l' a∧Q .normal l' w) f listed a w→wpAny P .any os.toArray (fun e a w=>∃l',Agr n l' a∧Q e l' w) f listed a w:=by
  intro f
  induction f with
  | zero=>intro listed a w h; exact ⟨h.1,by obtain ⟨_,l',h2,h3⟩:=h.2; exact ⟨l',h2,h3⟩⟩
  | succ f ih =>
   intro listed a w h
   refine ⟨fun h0=>(by obtain ⟨_,l',h2,h3⟩:=h.1 h0; exact ⟨l',h2,h3⟩),fun i hi=>?_⟩
   have h2:=h.2 i hi
   unfold wpOp at h2 ⊢
   split at h2
   ·exact ih _ _ _ h2
   ·split at h2
    ·rcases h2 with h2 | ⟨_,a0,w0,hq⟩
     ·rename_i hw
      rw [if_pos hw]
      exact .inl (Oper.wp_post h2 (fun a' w' hh=>ih _ _ _ hh) (fun e a' w' hne hh=>absurd hh.1 hne))
     ·exact absurd hq.1 (by simp)
    ·rename_i hw
     rw [if_neg hw]
     exact ih _ _ _ h2
 simpa using key _ _ _ _ h1
end
end Go.Gx
