/- Rules: steps that often follow one another, in one; lists of the frame inferred. Conditions: none. -/
import Derived.Test.YthidohmobbomfaaGreatGxZn
set_option linter.unusedVariables false
set_option linter.unusedSimpArgs false
namespace Go.Gx
open Go.RowKit
section
variable {α β:Type} [Rep α] [Rep β] {P:Program} {n:Nat} {l l':Env} {w w0 w':World} {ops:Array Oper} {K:Env→World→Prop} {Q:Post} {os:List Oper} {As:List Item} {A:Item} {D:List Nat} {b:Nat}
theorem nS (h:K l' w) (hs:SubL l' l:=by repeat (first | refine ⟨rfl,?_⟩ | exact trivial)):nrm Q K .normal l w:=nrm_sub hs h
theorem wT {c:Code} (h:W P n c Q l' w) (hs:SubL l' l:=by repeat (first | refine ⟨rfl,?_⟩ | exact trivial)):W P n c Q l w:=h.sub hs
theorem wc {γ:Type} {x y:Option γ} {r:γ} {b:Bool} {c:Operand} {s t:Code} (hF:(if b then x else y)=some r) (hc:ev l c=some (.bool b)) (ht:x=some r→W P n s Q l w) (hf:y=some r→W P n t Q l w):W P n (.cond c s t) Q l w :=
 W_cond hc (fun h=>ht (ite_t hF h)) (fun h=>hf (ite_f hF h))
theorem wk {γ:Type} {x y:Option γ} {r:γ} {b:Bool} {d:Nat} (hF:(if b then x else y)=some r) (ht:x=some r→WL P n ops K os ((d,.bool true)::l) w) (hf:y=some r→WL P n ops K os ((d,.bool false)::l) w):WL P n ops K os ((d,.bool b)::l) w :=
 WL_fork (fun h=>ht (ite_t hF h)) (fun h=>hf (ite_f hF h))
theorem wN (I:Env→World→Prop) {c:Code} (h:W P n c (nrm (nrm Q K) I) l w) (h2:∀l w,I l w→K l w):W P n c (nrm Q K) l w :=
 W_norm I h fun _ _ _ hs hI=>nrm_sub' hs (h2 _ _ hI)
theorem wB (I:Env→World→Prop) {c:Code} {id:Nat} (h:W P n c (nrm (blk id (nrm Q K)) I) l w) (h2:∀l w,I l w→K l w):W P n c (blk id (nrm Q K)) l w :=
 W_norm I h fun _ _ _ hs hI=>blk_normal (nrm_sub' hs (h2 _ _ hI))

variable {fn:Func} {t:Nat}
theorem rB {a r:Bool} (e:some a=some r) (hr:fn.results=#[.tmp t]) (hv:look l t=some (.bool a)) (h:Ctx [] w0 w As):fnPost P fn (fun e w'=>∃v,e=.returned v∧Res w0 r v w') .ret l w:=by
 obtain rfl:=Option.some.inj e
 exact fn_ret1 hr hv ⟨_,rfl,bool_res h _⟩
theorem rI {a r:Int} (e:some a=some r) (hr:fn.results=#[.tmp t]) (hv:look l t=some (.int .i64 a)) (h:Ctx [] w0 w As):fnPost P fn (fun e w'=>∃v,e=.returned v∧Res w0 r v w') .ret l w:=by
 obtain rfl:=Option.some.inj e
 exact fn_ret1 hr hv ⟨_,rfl,int_res h _⟩
theorem rO {a r:α} {v:Value} (e:some a=some r) (hr:fn.results=#[.tmp t]) (hv:look l t=some v) (h:Ctx [] w0 w As) (i:Nat) (hi:As[i]?=some (Item.own v a)):fnPost P fn (fun e w'=>∃v,e=.returned v∧Res w0 r v w') .ret l w:=by
 obtain rfl:=Option.some.inj e
 exact fn_ret1 hr hv ⟨_,rfl,own_res h i hi⟩

theorem Ctx.rowE (h:Ctx D w0 w (Item.box b []::As)):Ctx D w0 w (Item.own (.slice (some ⟨b,0,none⟩) 0 0) ([]:List α)::As) :=
 Ctx.rowOwn (cs:=[]) (as:=[]) (h.row0.front 1 rfl) (by simp [maxLen])
theorem row_i {cs:List Value} {as:List Int} {x:Int} (h:Ctx D w0 w (Item.row cs as::As)):Ctx D w0 w (Item.row (.int .i64 x::cs) (x::as)::As) :=
 (h.triv (int_val x)).row1
theorem Ctx.row1i {x:Int} (h:Ctx D w0 w (Item.box b [.int .i64 x]::As)):Ctx D w0 w (Item.own (.slice (some ⟨b,0,none⟩) 1 1) [x]::As) :=
 Ctx.rowOwn (cs:=[.int .i64 x]) (as:=[x]) ((row_i h.row0).front 1 rfl) (by simp [maxLen])
theorem Ctx.row2i {x y:Int} (h:Ctx D w0 w (Item.box b [.int .i64 x,.int .i64 y]::As)):Ctx D w0 w (Item.own (.slice (some ⟨b,0,none⟩) 2 2) [x,y]::As) :=
 Ctx.rowOwn (cs:=[.int .i64 x,.int .i64 y]) (as:=[x,y]) ((row_i (row_i h.row0)).front 1 rfl) (by simp [maxLen])
theorem Ctx.row3i {x y z:Int} (h:Ctx D w0 w (Item.box b [.int .i64 x,.int .i64 y,.int .i64 z]::As)):Ctx D w0 w (Item.own (.slice (some ⟨b,0,none⟩) 3 3) [x,y,z]::As) :=
 Ctx.rowOwn (cs:=[.int .i64 x,.int .i64 y,.int .i64 z]) (as:=[x,y,z]) ((row_i (row_i (row_i h.row0))).front 1 rfl) (by simp [maxLen])
theorem Ctx.lA (h:Ctx D w0 w (A::As)):∃Fs,Hold [A] w Fs∧Fs.flatten.Nodup∧(∀b∈Fs.flatten,w0.heap.size≤b∨b∈D) ∧
  (∀(i:Nat) (α:Type) [Rep α] (v:Value) (a:α),As[i]?=some (Item.own v a)→RO Fs.flatten w v a)∧∀w' B,Ctx Fs.flatten w w' [B]→Ctx D w0 w' (B::As) :=
 let ⟨Fs,h1,h2,h3,h4,h5⟩:=Ctx.lend2 (As:=As) [A] h
 ⟨Fs,h1,h2,h3,h4,fun w' B hB=>h5 w' [B] hB⟩
theorem Ctx.lB (h:Ctx D w0 w (A::As)):∃Fs,Hold [A] w Fs∧Fs.flatten.Nodup∧(∀b∈Fs.flatten,w0.heap.size≤b∨b∈D) ∧
  (∀(i:Nat) (α:Type) [Rep α] (v:Value) (a:α),As[i]?=some (Item.own v a)→RO Fs.flatten w v a)∧∀w' B C,Ctx Fs.flatten w w' [B,C]→Ctx D w0 w' (B::C::As) :=
 let ⟨Fs,h1,h2,h3,h4,h5⟩:=Ctx.lend2 (As:=As) [A] h
 ⟨Fs,h1,h2,h3,h4,fun w' B C hB=>h5 w' [B,C] hB⟩
end
end Go.Gx
