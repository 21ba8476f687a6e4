/- Rules: the same rules, said shorter. Conditions: none. -/
import Derived.Test.YthidohmobbomfaaGreatGxHo
set_option linter.unusedVariables false
set_option linter.unusedSimpArgs false
namespace Go.Gx
open Go.RowKit
universe u
theorem z {α:Sort u} {a:α}:a=a:=rfl
theorem be {α β:Type} {P:Prop} {o:Option α} {f:α→Option β} {r:β} (h:o.bind f=some r) (k:∀x,o=some x→f x=some r→P):P :=
 let ⟨x,a,b⟩:=bind_some h; k x a b
theorem fa0 {α:Type} {p:α→Prop}:∀v∈([]:List α),p v:=fun v h=>by cases h
theorem fac {α:Type} {p:α→Prop} {a:α} {l:List α} (h:p a) (t:∀v∈l,p v):∀v∈a::l,p v:=fun v hv=>by
 rcases List.mem_cons.1 hv with rfl | hv
 ·exact h
 ·exact t v hv
def nb (u:Value) (b:Bool):Bool:=match u with
 | .bool c=>c != b
 | _=>true
theorem nb_ne {u:Value} {b:Bool} (h:nb u b=true):u≠.bool b:=by
 rintro rfl
 simp [nb] at h
section
variable {P:Program} {n:Nat} {l:Env} {w:World} {ops:Array Oper} {K:Env→World→Prop} {os:List Oper} {d:Nat} {T U:TypeId} {pos:String} {aft:Array Edge} {x y q:Operand} {v:Value}
variable {j:Nat} {want:Bool} {t:Nat} {u:Value} {op:Op} {listed:Array Bool} {f:Nat} {o:Oper}
theorem wAS {l':Env} (hs:SubL l' l) (h:WA P n ops K f listed l' w):WA P n ops K f listed l w:=h.sub hs
theorem gs {d:Nat} {op:Op} {T:TypeId} {pos:String} {aft:Array Edge} {j:Nat} {want:Bool} {t:Nat} {u:Value} (hj:((ops[j]?).bind (·.dst))=some t) (ht:look l t=some u)
  (hu:nb u want=true) (hd:Nat.blt d n=true) (h:WL P n ops K os ((d,undef)::l) w):WL P n ops K (⟨some d,op,T,pos,aft,some (j,want)⟩::os) l w:=WL_guard_skip hj ht (nb_ne hu) hd h
theorem sk (i:Nat) (ho:ops[i]?=some ⟨some d,op,T,pos,aft,some (j,want)⟩) (hj:((ops[j]?).bind (·.dst))=some t) (ht:look l t=some u) (hu:nb u want=true) (hdn:Nat.blt d n=true)
  (h:WA P n ops K f (listed.setIfInBounds i true) ((d,undef)::l) w)
  (hb:(Region.noSelect ops&&(Region.free .any ops listed i&&(Region.ready .any ops listed).contains i))=true:=by kernel_rfl):WA P n ops K (f+1) listed l w :=
 WA_sk i hb ho rfl hj ht (nb_ne hu) rfl hdn h
theorem tk (i:Nat) (ho:ops[i]?=some o) (hg:o.guard=none) (hfl:Fl P l o)
  (h:WL P n ops (fun l' w'=>WA P n ops K f (listed.setIfInBounds i true) l' w') [o] l w)
  (hb:(Region.noSelect ops&&(Region.free .any ops listed i&&(Region.ready .any ops listed).contains i))=true:=by kernel_rfl):WA P n ops K (f+1) listed l w :=
 WA_tk i hb ho hg hfl h
theorem tm (i:Nat) (ho:ops[i]?=some ⟨some d,.move x,T,pos,aft,none⟩) (hd:Nat.blt d n=true) (hx:ev l x=some v) (h:WA P n ops K f (listed.setIfInBounds i true) ((d,v)::l) w)
  (hb:(Region.noSelect ops&&(Region.free .any ops listed i&&(Region.ready .any ops listed).contains i))=true:=by kernel_rfl):WA P n ops K (f+1) listed l w :=
 WA_tk i hb ho rfl (fl_move hx) (WL_move hd hx (WL_nil h))
theorem ta (i:Nat) (ho:ops[i]?=some ⟨some d,.assign x,T,pos,aft,none⟩) (hd:Nat.blt d n=true) (hx:ev l x=some v) (h:WA P n ops K f (listed.setIfInBounds i true) ((d,v)::l) w)
  (hb:(Region.noSelect ops&&(Region.free .any ops listed i&&(Region.ready .any ops listed).contains i))=true:=by kernel_rfl):WA P n ops K (f+1) listed l w :=
 WA_tk i hb ho rfl (fl_assign hx) (WL_assign hd hx (WL_nil h))
theorem tp (i:Nat) (ho:ops[i]?=some ⟨some d,.pick x y q,T,pos,aft,none⟩) (hd:Nat.blt d n=true) (hx:ev l x=some (.bool true)) (hy:ev l y=some v) (h:WA P n ops K f (listed.setIfInBounds i true) ((d,v)::l) w)
  (hb:(Region.noSelect ops&&(Region.free .any ops listed i&&(Region.ready .any ops listed).contains i))=true:=by kernel_rfl):WA P n ops K (f+1) listed l w :=
 WA_tk i hb ho rfl (fl_pick_t hx hy) (WL_pick_t hd hx hy (WL_nil h))
theorem tq (i:Nat) (ho:ops[i]?=some ⟨some d,.pick x y q,T,pos,aft,none⟩) (hd:Nat.blt d n=true) (hx:ev l x=some (.bool false)) (hy:ev l q=some v) (h:WA P n ops K f (listed.setIfInBounds i true) ((d,v)::l) w)
  (hb:(Region.noSelect ops&&(Region.free .any ops listed i&&(Region.ready .any ops listed).contains i))=true:=by kernel_rfl):WA P n ops K (f+1) listed l w :=
 WA_tk i hb ho rfl (fl_pick_f hx hy) (WL_pick_f hd hx hy (WL_nil h))
theorem fd {fs:Array Field} {fe:Field} {kf b off fo s:Nat} (hu:P.underlying U=some (.struct fs)) (hsz:∀w,(sizeOf fe.type).run P w=.ok (s+1) w) (hf:fs[kf]?=some fe) (hfo:fe.offset=fo) (hd:Nat.blt d n=true)
  (hx:ev l x=some (ptr b off)) (k:WL P n ops K os ((d,ptr b (off+fo))::l) w):WL P n ops K (⟨some d,.fieldAddr U x kf,T,pos,aft,none⟩::os) l w :=
 WL_field hu hf hfo (fun w=>⟨_,hsz w⟩) hd hx k
theorem tf (i:Nat) {fs:Array Field} {fe:Field} {kf b off fo s:Nat} (hu:P.underlying U=some (.struct fs)) (hsz:∀w,(sizeOf fe.type).run P w=.ok (s+1) w) (ho:ops[i]?=some ⟨some d,.fieldAddr U x kf,T,pos,aft,none⟩) (hf:fs[kf]?=some fe) (hfo:fe.offset=fo) (hd:Nat.blt d n=true)
  (hx:ev l x=some (ptr b off)) (h:WA P n ops K f (listed.setIfInBounds i true) ((d,ptr b (off+fo))::l) w)
  (hb:(Region.noSelect ops&&(Region.free .any ops listed i&&(Region.ready .any ops listed).contains i))=true:=by kernel_rfl):WA P n ops K (f+1) listed l w :=
 WA_tk i hb ho rfl (fl_field hu hf hfo (fun w=>⟨_,hsz w⟩) hx) (WL_field hu hf hfo (fun w=>⟨_,hsz w⟩) hd hx (WL_nil h))
theorem tg (i:Nat) (ho:ops[i]?=some o) (hg:o.guard=some (j,want)) (hj:((ops[j]?).bind (·.dst))=some t) (ht:look l t=some (.bool want)) (hfl:Fl P l o)
  (h:WL P n ops (fun l' w'=>WA P n ops K f (listed.setIfInBounds i true) l' w') [o] l w)
  (hb:(Region.noSelect ops&&(Region.free .any ops listed i&&(Region.ready .any ops listed).contains i))=true:=by kernel_rfl):WA P n ops K (f+1) listed l w:=by
 simp only [Bool.and_eq_true] at hb
 exact WA_takeG i ho hb.1 hb.2.1 hb.2.2 hg hj ht hfl h
theorem tn (i:Nat) (ho:ops[i]?=some ⟨some d,.move x,T,pos,aft,some (j,want)⟩) (hj:((ops[j]?).bind (·.dst))=some t) (ht:look l t=some (.bool want)) (hd:Nat.blt d n=true) (hx:ev l x=some v)
  (h:WA P n ops K f (listed.setIfInBounds i true) ((d,v)::l) w)
  (hb:(Region.noSelect ops&&(Region.free .any ops listed i&&(Region.ready .any ops listed).contains i))=true:=by kernel_rfl):WA P n ops K (f+1) listed l w :=
 tg i ho rfl hj ht (fl_move hx) (WL_guard hj ht (WL_move hd hx (WL_nil h))) hb
theorem dn (h:K l w) (hr:Region.ready .any ops listed=[]:=by kernel_rfl):WA P n ops K f listed l w:=WA_done hr h
theorem oe (i:Nat) (ho:ops[i]?=some o) (h:WL P n ops (fun l' w'=>WA P n ops K f (listed.setIfInBounds i true) l' w') [o] l w)
  (hr:Region.ready .any ops listed=[i]:=by kernel_rfl):WA P n ops K (f+1) listed l w:=WA_one i hr ho h
theorem cb {fn:FuncId} {xs:List Operand} {vs:List Value} {ts:Array TypeId} {a:Bool} (hc:∀args w,(callFunc fn args).run P w=.ok (.enter fn args) w) (hd:Nat.blt d n=true) (hx:evs l xs=some vs)
  (hcall:Calls P fn vs.toArray w fun e w'=>∃v,e=.returned v∧Res w a v w') (h:∀w',Below w.heap.size w w'→WL P n ops K os ((d,.bool a)::l) w') :
  WL P n ops K (⟨some d,.call ⟨.value (.func fn),xs.toArray,ts⟩,T,pos,aft,none⟩::os) l w :=
 WL_call hc hd hx hcall fun v w' hv=>by
  obtain ⟨rfl,hB⟩:=res_bool hv
  exact h w' hB
theorem ci {fn:FuncId} {xs:List Operand} {vs:List Value} {ts:Array TypeId} {a:Int} (hc:∀args w,(callFunc fn args).run P w=.ok (.enter fn args) w) (hd:Nat.blt d n=true) (hx:evs l xs=some vs)
  (hcall:Calls P fn vs.toArray w fun e w'=>∃v,e=.returned v∧Res w a v w') (h:∀w',Below w.heap.size w w'→WL P n ops K os ((d,.int .i64 a)::l) w') :
  WL P n ops K (⟨some d,.call ⟨.value (.func fn),xs.toArray,ts⟩,T,pos,aft,none⟩::os) l w :=
 WL_call hc hd hx hcall fun v w' hv=>by
  obtain ⟨rfl,hB⟩:=res_int hv
  exact h w' hB
end
end Go.Gx
