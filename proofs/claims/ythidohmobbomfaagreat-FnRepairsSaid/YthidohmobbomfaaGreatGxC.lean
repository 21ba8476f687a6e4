/- Rules for operations that touch no memory, calls, and the read-only facts. Conditions: none. -/
import Derived.Test.YthidohmobbomfaaGreatGxB
set_option linter.unusedVariables false
set_option linter.unusedSimpArgs false
namespace Go.Gx
open Go.RowKit

@[irreducible] def FUEL:Nat:=4611686018427387904
@[irreducible] def w64 (n:Int):Int:=IntKind.i64.wrap n
@[irreducible] def w8 (n:Int):Int:=IntKind.u8.wrap n
@[irreducible] def LIM:Nat:=4294967296
theorem FUEL_eq:FUEL=4611686018427387904:=by unfold FUEL; rfl
theorem LIM_eq:LIM=4294967296:=by unfold LIM; rfl
theorem w64_eq (n:Int):IntKind.i64.wrap n=w64 n:=by unfold w64; rfl
theorem w8_eq (n:Int):IntKind.u8.wrap n=w8 n:=by unfold w8; rfl
theorem w64_id {n:Int} (h:-9223372036854775808≤n) (h':n≤9223372036854775807):w64 n=n:=by
 unfold w64
 simp only [IntKind.wrap,IntKind.bits,IntKind.signed,Bool.true_and]
 have e1:(2 ^ 64:Int)=18446744073709551616:=by decide
 have e2:(2 ^ (64-1):Int)=9223372036854775808:=by decide
 simp only [e1,e2,decide_eq_true_eq]
 split <;> omega
def idx {α:Type} (l:List α) (i:Int):Option α:=if 0≤i then l[i.toNat]? else none
theorem idx_some {α:Type} {l:List α} {i:Int} {a:α} (h:idx l i=some a):0≤i∧i.toNat<l.length∧l[i.toNat]?=some a:=by
 unfold idx at h
 split at h
 ·exact ⟨‹_›,(List.getElem?_eq_some_iff.1 h).1,h⟩
 ·cases h

theorem beq_int (a b:Int):(a == b)=decide (a=b):=by rw [Bool.eq_iff_iff]; simp
theorem bne_int (a b:Int):(a != b)=!decide (a=b):=by simp [bne,beq_int]
theorem bind_some {α β:Type} {x:Option α} {f:α→Option β} {b:β} (h:x.bind f=some b):∃a,x=some a∧f a=some b:=by
 cases x with
 | none=>cases h
 | some a=>exact ⟨a,rfl,h⟩

section
variable {P:Program} {n:Nat} {l:Env} {w:World} {ops:Array Oper} {K:Env→World→Prop} {os:List Oper}

theorem WL_val {o:Oper} {d:Nat} {v:Value} (hg:o.guard=none) (hd:o.dst=some d) (hdn:Nat.blt d n=true) (hrun:∀ρ:Operand→Value,(∀x u,ev l x=some u→ρ x=u)→(execOp ρ o).run P w=.ok (.value v) w)
  (h:WL P n ops K os ((d,v)::l) w):WL P n ops K (o::os) l w:=fun a ha =>
 wpList_plain hg fun K' hK=>by
  unfold Oper.wp
  rw [hrun a.eval fun x u hx=>ha.ev hx]
  simp only [Oper.upon,hd]
  exact hK _ _ (h _ (ha.put (by simpa [Nat.blt_eq] using hdn) v))

theorem WL_run {o:Oper} {d:Nat} {v:Value} {w':World} (hg:o.guard=none) (hd:o.dst=some d) (hdn:Nat.blt d n=true) (hrun:∀ρ:Operand→Value,(∀x u,ev l x=some u→ρ x=u)→(execOp ρ o).run P w=.ok (.value v) w')
  (h:WL P n ops K os ((d,v)::l) w'):WL P n ops K (o::os) l w:=fun a ha =>
 wpList_plain hg fun K' hK=>by
  unfold Oper.wp
  rw [hrun a.eval fun x u hx=>ha.ev hx]
  simp only [Oper.upon,hd]
  exact hK _ _ (h _ (ha.put (by simpa [Nat.blt_eq] using hdn) v))

theorem WL_run0 {o:Oper} {w':World} (hg:o.guard=none) (hd:o.dst=none) (hrun:∀ρ:Operand→Value,(∀x u,ev l x=some u→ρ x=u)→(execOp ρ o).run P w=.ok .skip w')
  (h:WL P n ops K os l w'):WL P n ops K (o::os) l w:=fun a ha =>
 wpList_plain hg fun K' hK=>by
  unfold Oper.wp
  rw [hrun a.eval fun x u hx=>ha.ev hx]
  simp only [Oper.upon,hd]
  exact hK _ _ (h _ (ha.put_none undef))

theorem WL_guard {d:Option Nat} {op:Op} {T:TypeId} {pos:String} {aft:Array Edge} {j:Nat} {want:Bool} {t:Nat} (hj:((ops[j]?).bind (·.dst))=some t) (ht:look l t=some (.bool want))
  (h:WL P n ops K (⟨d,op,T,pos,aft,none⟩::os) l w):WL P n ops K (⟨d,op,T,pos,aft,some (j,want)⟩::os) l w:=fun a ha=>by
 have h1:=h a ha
 have hy:yielded ops a.tmps j=some want:=by
  have h2:=ha.look t _ ht
  unfold yielded
  rw [hj]
  simp only [Option.bind_some]
  rw [Array.getD_eq_getD_getElem?] at h2
  cases h3:a.tmps[t]? with
  | none=>rw [h3] at h2; simp [undef] at h2
  | some u=>rw [h3] at h2; simp at h2; subst h2; rfl
 simp only [wpList,Region.wanted,hy,beq_self_eq_true,if_true] at h1 ⊢
 exact h1

theorem WL_guard_skip {d:Nat} {op:Op} {T:TypeId} {pos:String} {aft:Array Edge} {j:Nat} {want:Bool} {t:Nat} {u:Value} (hj:((ops[j]?).bind (·.dst))=some t) (ht:look l t=some u)
  (hu:u≠.bool want) (hd:Nat.blt d n=true) (h:WL P n ops K os ((d,undef)::l) w):WL P n ops K (⟨some d,op,T,pos,aft,some (j,want)⟩::os) l w:=fun a ha=>by
 have hy:(yielded ops a.tmps j == some want)=false:=by
  have h2:=ha.look t _ ht
  unfold yielded
  rw [hj]
  simp only [Option.bind_some]
  rw [Array.getD_eq_getD_getElem?] at h2
  cases h3:a.tmps[t]? with
  | none=>rfl
  | some u' =>
   rw [h3] at h2; simp at h2; subst h2
   cases u' <;> try rfl
   rename_i b
   cases b <;> cases want <;> first | rfl | exact absurd rfl hu
 simp only [wpList,Region.wanted,hy]
 exact h _ (ha.put (by simpa [Nat.blt_eq] using hd) undef)

section ops
variable {d:Nat} {T:TypeId} {U:TypeId} {pos:String} {aft:Array Edge} {x y z:Operand} {v u:Value}

theorem WL_move (hd:Nat.blt d n=true) (hx:ev l x=some v) (h:WL P n ops K os ((d,v)::l) w):WL P n ops K (⟨some d,.move x,T,pos,aft,none⟩::os) l w :=
 WL_val rfl rfl hd (fun ρ hρ=>by simp [execOp,hρ x v hx]) h
theorem WL_assign (hd:Nat.blt d n=true) (hx:ev l x=some v) (h:WL P n ops K os ((d,v)::l) w):WL P n ops K (⟨some d,.assign x,T,pos,aft,none⟩::os) l w :=
 WL_val rfl rfl hd (fun ρ hρ=>by simp [execOp,hρ x v hx]) h
theorem WL_pick_t (hd:Nat.blt d n=true) (hx:ev l x=some (.bool true)) (hy:ev l y=some v) (h:WL P n ops K os ((d,v)::l) w):WL P n ops K (⟨some d,.pick x y z,T,pos,aft,none⟩::os) l w :=
 WL_val rfl rfl hd (fun ρ hρ=>by simp [execOp,hρ x _ hx,hρ y v hy,asBool]) h
theorem WL_pick_f (hd:Nat.blt d n=true) (hx:ev l x=some (.bool false)) (hz:ev l z=some v) (h:WL P n ops K os ((d,v)::l) w):WL P n ops K (⟨some d,.pick x y z,T,pos,aft,none⟩::os) l w :=
 WL_val rfl rfl hd (fun ρ hρ=>by simp [execOp,hρ x _ hx,hρ z v hz,asBool]) h
theorem WL_not {b:Bool} (hd:Nat.blt d n=true) (hx:ev l x=some (.bool b)) (h:WL P n ops K os ((d,.bool (!b))::l) w):WL P n ops K (⟨some d,.unOp .not U x,T,pos,aft,none⟩::os) l w :=
 WL_val rfl rfl hd (fun ρ hρ=>by simp [execOp,hρ x _ hx,Op.unary]) h
theorem WL_extract {i:Nat} {vs:Array Value} (hd:Nat.blt d n=true) (hx:ev l x=some (.tuple vs)) (hv:vs[i]?=some v) (h:WL P n ops K os ((d,v)::l) w):WL P n ops K (⟨some d,.extract x i,T,pos,aft,none⟩::os) l w :=
 WL_val rfl rfl hd (fun ρ hρ=>by simp [execOp,hρ x _ hx,Instr.extract,hv]) h

variable {a b:Int} {k:IntKind}
theorem run_bin_int {op:BinOp} {ρ:Operand→Value} {V:TypeId} {g:Option (Nat × Bool)} {ds:Option Nat} {r:Value} (hx:ρ x=.int k a) (hy:ρ y=.int k b) (hr:(binOp op U (.int k a) (.int k b)).run P w=.ok r w) :
  (execOp ρ ⟨ds,.binOp op U x y V,T,pos,aft,g⟩).run P w=.ok (.value r) w:=by
 have hg:(eqGuard op U x y (.int k a) (.int k b)).run P w=.ok () w:=by cases op <;> rfl
 simp only [execOp,hx,hy,Sem.run_bind,hg,Result.andThen_ok,hr,Sem.run_pure]
theorem WL_add {V:TypeId} (hd:Nat.blt d n=true) (hx:ev l x=some (.int .i64 a)) (hy:ev l y=some (.int .i64 b)) (h:WL P n ops K os ((d,.int .i64 (w64 (a+b)))::l) w):WL P n ops K (⟨some d,.binOp .add U x y V,T,pos,aft,none⟩::os) l w :=
 WL_val rfl rfl hd (fun ρ hρ=>run_bin_int (hρ x _ hx) (hρ y _ hy) (by simp [binOp,Op.intArith,Op.intCmp,Op.intDiv,w64_eq,w8_eq,beq_int,bne_int, *])) h
theorem WL_sub {V:TypeId} (hd:Nat.blt d n=true) (hx:ev l x=some (.int .i64 a)) (hy:ev l y=some (.int .i64 b)) (h:WL P n ops K os ((d,.int .i64 (w64 (a-b)))::l) w):WL P n ops K (⟨some d,.binOp .sub U x y V,T,pos,aft,none⟩::os) l w :=
 WL_val rfl rfl hd (fun ρ hρ=>run_bin_int (hρ x _ hx) (hρ y _ hy) (by simp [binOp,Op.intArith,Op.intCmp,Op.intDiv,w64_eq,w8_eq,beq_int,bne_int, *])) h
theorem WL_mul {V:TypeId} (hd:Nat.blt d n=true) (hx:ev l x=some (.int .i64 a)) (hy:ev l y=some (.int .i64 b)) (h:WL P n ops K os ((d,.int .i64 (w64 (a*b)))::l) w):WL P n ops K (⟨some d,.binOp .mul U x y V,T,pos,aft,none⟩::os) l w :=
 WL_val rfl rfl hd (fun ρ hρ=>run_bin_int (hρ x _ hx) (hρ y _ hy) (by simp [binOp,Op.intArith,Op.intCmp,Op.intDiv,w64_eq,w8_eq,beq_int,bne_int, *])) h
theorem WL_rem {V:TypeId} (hb:b≠0) (hd:Nat.blt d n=true) (hx:ev l x=some (.int .i64 a)) (hy:ev l y=some (.int .i64 b)) (h:WL P n ops K os ((d,.int .i64 (a.tmod b))::l) w):WL P n ops K (⟨some d,.binOp .rem U x y V,T,pos,aft,none⟩::os) l w :=
 WL_val rfl rfl hd (fun ρ hρ=>run_bin_int (hρ x _ hx) (hρ y _ hy) (by simp [binOp,Op.intArith,Op.intCmp,Op.intDiv,w64_eq,w8_eq,beq_int,bne_int, *])) h
theorem WL_lss {V:TypeId} (hd:Nat.blt d n=true) (hx:ev l x=some (.int k a)) (hy:ev l y=some (.int k b)) (h:WL P n ops K os ((d,.bool (decide (a<b)))::l) w):WL P n ops K (⟨some d,.binOp .lss U x y V,T,pos,aft,none⟩::os) l w :=
 WL_val rfl rfl hd (fun ρ hρ=>run_bin_int (hρ x _ hx) (hρ y _ hy) (by simp [binOp,Op.intArith,Op.intCmp,Op.intDiv,w64_eq,w8_eq,beq_int,bne_int, *])) h
theorem WL_leq {V:TypeId} (hd:Nat.blt d n=true) (hx:ev l x=some (.int k a)) (hy:ev l y=some (.int k b)) (h:WL P n ops K os ((d,.bool (decide (a≤b)))::l) w):WL P n ops K (⟨some d,.binOp .leq U x y V,T,pos,aft,none⟩::os) l w :=
 WL_val rfl rfl hd (fun ρ hρ=>run_bin_int (hρ x _ hx) (hρ y _ hy) (by simp [binOp,Op.intArith,Op.intCmp,Op.intDiv,w64_eq,w8_eq,beq_int,bne_int, *])) h
theorem WL_gtr {V:TypeId} (hd:Nat.blt d n=true) (hx:ev l x=some (.int k a)) (hy:ev l y=some (.int k b)) (h:WL P n ops K os ((d,.bool (decide (b<a)))::l) w):WL P n ops K (⟨some d,.binOp .gtr U x y V,T,pos,aft,none⟩::os) l w :=
 WL_val rfl rfl hd (fun ρ hρ=>run_bin_int (hρ x _ hx) (hρ y _ hy) (by simp [binOp,Op.intArith,Op.intCmp,Op.intDiv,w64_eq,w8_eq,beq_int,bne_int, *])) h
theorem WL_geq {V:TypeId} (hd:Nat.blt d n=true) (hx:ev l x=some (.int k a)) (hy:ev l y=some (.int k b)) (h:WL P n ops K os ((d,.bool (decide (b≤a)))::l) w):WL P n ops K (⟨some d,.binOp .geq U x y V,T,pos,aft,none⟩::os) l w :=
 WL_val rfl rfl hd (fun ρ hρ=>run_bin_int (hρ x _ hx) (hρ y _ hy) (by simp [binOp,Op.intArith,Op.intCmp,Op.intDiv,w64_eq,w8_eq,beq_int,bne_int, *])) h
theorem WL_eql {V:TypeId} (hd:Nat.blt d n=true) (hx:ev l x=some (.int k a)) (hy:ev l y=some (.int k b)) (h:WL P n ops K os ((d,.bool (decide (a=b)))::l) w):WL P n ops K (⟨some d,.binOp .eql U x y V,T,pos,aft,none⟩::os) l w :=
 WL_val rfl rfl hd (fun ρ hρ=>run_bin_int (hρ x _ hx) (hρ y _ hy) (by simp [binOp,Op.intArith,Op.intCmp,Op.intDiv,w64_eq,w8_eq,beq_int,bne_int, *])) h
theorem WL_neq {V:TypeId} (hd:Nat.blt d n=true) (hx:ev l x=some (.int k a)) (hy:ev l y=some (.int k b)) (h:WL P n ops K os ((d,.bool (!decide (a=b)))::l) w):WL P n ops K (⟨some d,.binOp .neq U x y V,T,pos,aft,none⟩::os) l w :=
 WL_val rfl rfl hd (fun ρ hρ=>run_bin_int (hρ x _ hx) (hρ y _ hy) (by simp [binOp,Op.intArith,Op.intCmp,Op.intDiv,w64_eq,w8_eq,beq_int,bne_int, *])) h

def band (a b:Int):Int:=IntKind.i64.wrap (BitVec.ofInt 64 a &&& BitVec.ofInt 64 b).toNat
def bxor (a b:Int):Int:=IntKind.i64.wrap (BitVec.ofInt 64 a ^^^ BitVec.ofInt 64 b).toNat
def shl (a b:Int):Int:=w64 (a*2 ^ min b.toNat 64)
def shr (a b:Int):Int:=a.fdiv (2 ^ min b.toNat 64)
theorem WL_band {V:TypeId} (hd:Nat.blt d n=true) (hx:ev l x=some (.int .i64 a)) (hy:ev l y=some (.int .i64 b)) (h:WL P n ops K os ((d,.int .i64 (band a b))::l) w):WL P n ops K (⟨some d,.binOp .and U x y V,T,pos,aft,none⟩::os) l w :=
 WL_val rfl rfl hd (fun ρ hρ=>run_bin_int (hρ x _ hx) (hρ y _ hy) (by simp only [binOp,Op.intBits]; rfl)) h
theorem WL_bxor {V:TypeId} (hd:Nat.blt d n=true) (hx:ev l x=some (.int .i64 a)) (hy:ev l y=some (.int .i64 b)) (h:WL P n ops K os ((d,.int .i64 (bxor a b))::l) w):WL P n ops K (⟨some d,.binOp .xor U x y V,T,pos,aft,none⟩::os) l w :=
 WL_val rfl rfl hd (fun ρ hρ=>run_bin_int (hρ x _ hx) (hρ y _ hy) (by simp only [binOp,Op.intBits]; rfl)) h
theorem WL_shl {V:TypeId} {k':IntKind} (hb:0≤b) (hd:Nat.blt d n=true) (hx:ev l x=some (.int .i64 a)) (hy:ev l y=some (.int k' b)) (h:WL P n ops K os ((d,.int .i64 (shl a b))::l) w):WL P n ops K (⟨some d,.binOp .shl U x y V,T,pos,aft,none⟩::os) l w :=
 WL_val rfl rfl hd (fun ρ hρ=>by
  have hg:(eqGuard .shl U x y (.int .i64 a) (.int k' b)).run P w=.ok () w:=rfl
  simp only [execOp,hρ x _ hx,hρ y _ hy,Sem.run_bind,hg,Result.andThen_ok,binOp,Op.shift,shl,w64_eq,IntKind.bits,if_neg (show ¬b<0 by omega),Sem.run_pure]) h
theorem WL_shr {V:TypeId} {k':IntKind} (hb:0≤b) (hd:Nat.blt d n=true) (hx:ev l x=some (.int .i64 a)) (hy:ev l y=some (.int k' b)) (h:WL P n ops K os ((d,.int .i64 (shr a b))::l) w):WL P n ops K (⟨some d,.binOp .shr U x y V,T,pos,aft,none⟩::os) l w :=
 WL_val rfl rfl hd (fun ρ hρ=>by
  have hg:(eqGuard .shr U x y (.int .i64 a) (.int k' b)).run P w=.ok () w:=rfl
  simp only [execOp,hρ x _ hx,hρ y _ hy,Sem.run_bind,hg,Result.andThen_ok,binOp,Op.shift,shr,w64_eq,IntKind.bits,if_neg (show ¬b<0 by omega),Sem.run_pure]) h

theorem WL_max (hd:Nat.blt d n=true) (hx:ev l x=some (.int k a)) (hy:ev l y=some (.int k b)) (h:WL P n ops K os ((d,.int k (if b > a then b else a))::l) w) :
  WL P n ops K (⟨some d,.call ⟨.builtin .max,#[x,y],#[U,U]⟩,T,pos,aft,none⟩::os) l w :=
 WL_val rfl rfl hd (fun ρ hρ=>by
  simp [execOp,resolve,invoke,builtin,Builtin.max_,Builtin.max2,hρ x _ hx,hρ y _ hy]) h
theorem WL_min (hd:Nat.blt d n=true) (hx:ev l x=some (.int k a)) (hy:ev l y=some (.int k b)) (h:WL P n ops K os ((d,.int k (if b<a then b else a))::l) w) :
  WL P n ops K (⟨some d,.call ⟨.builtin .min,#[x,y],#[U,U]⟩,T,pos,aft,none⟩::os) l w :=
 WL_val rfl rfl hd (fun ρ hρ=>by
  simp [execOp,resolve,invoke,builtin,Builtin.min_,Builtin.min2,hρ x _ hx,hρ y _ hy]) h
theorem WL_conv_int {V:TypeId} {k':IntKind} (hu:P.underlying U=some (.int k')) (hv:P.underlying V=some (.int k)) (hd:Nat.blt d n=true) (hx:ev l x=some (.int k' a)) (h:WL P n ops K os ((d,.int k (k.wrap a))::l) w) :
  WL P n ops K (⟨some d,.convert U V x,T,pos,aft,none⟩::os) l w :=
 WL_val rfl rfl hd (fun ρ hρ=>by
  simp [execOp,hρ x _ hx,convert,run_underlying hu,run_underlying hv,Conv.intToInt]) h

theorem WL_conv_i64 {V:TypeId} {k':IntKind} (hu:P.underlying U=some (.int k')) (hv:P.underlying V=some (.int .i64)) (hd:Nat.blt d n=true) (hx:ev l x=some (.int k' a)) (h:WL P n ops K os ((d,.int .i64 (w64 a))::l) w) :
  WL P n ops K (⟨some d,.convert U V x,T,pos,aft,none⟩::os) l w:=WL_conv_int hu hv hd hx (by rw [w64_eq]; exact h)
instance:DecidableEq Str:=inferInstanceAs (DecidableEq (List UInt8))
def nz (a:Int):Option Unit:=if a=0 then none else some ()
def nn (a:Int):Option Unit:=if 0≤a then some () else none
theorem nn_some {a:Int} {u:Unit} (h:nn a=some u):0≤a:=by unfold nn at h; split at h; assumption; cases h
theorem nz_some {a:Int} {u:Unit} (h:nz a=some u):a≠0:=by unfold nz at h; split at h; cases h; assumption
theorem WL_bool_neq {V:TypeId} {p q:Bool} (hu:P.underlying U=some .bool) (hd:Nat.blt d n=true) (hx:ev l x=some (.bool p)) (hy:ev l y=some (.bool q)) (h:WL P n ops K os ((d,.bool (!decide (p=q)))::l) w):WL P n ops K (⟨some d,.binOp .neq U x y V,T,pos,aft,none⟩::os) l w :=
 WL_val rfl rfl hd (fun ρ hρ=>by
  have hg:(eqGuard .neq U x y (.bool p) (.bool q)).run P w=.ok () w:=rfl
  simp only [execOp,hρ x _ hx,hρ y _ hy,Sem.run_bind,hg,Result.andThen_ok,run_neq_bool w U p q hu,Sem.run_pure]
  congr 3) h
theorem WL_call {f:FuncId} {xs:List Operand} {vs:List Value} {ts:Array TypeId} {R:Value→World→Prop} (hc:∀args w,(callFunc f args).run P w=.ok (.enter f args) w) (hd:Nat.blt d n=true) (hx:evs l xs=some vs)
  (hcall:Calls P f vs.toArray w fun e w'=>∃v,e=.returned v∧R v w') (h:∀v w',R v w'→WL P n ops K os ((d,v)::l) w') :
  WL P n ops K (⟨some d,.call ⟨.value (.func f),xs.toArray,ts⟩,T,pos,aft,none⟩::os) l w:=fun ac ha =>
 wpList_plain rfl fun K' hK=>by
  unfold Oper.wp
  have e:(execOp ac.eval ⟨some d,.call ⟨.value (.func f),xs.toArray,ts⟩,T,pos,aft,none⟩).run P w=.ok (.enter f vs.toArray) w:=by
   simp [execOp,resolve,Act.eval,Deferred.ofValue,invoke,ha.evs hx,hc]
  rw [e]
  simp only [Oper.upon]
  refine hcall.mono ?_
  rintro e w' ⟨v,rfl,hv⟩
  exact hK _ _ (h v w' hv _ (ha.put (by simpa [Nat.blt_eq] using hd) v))
end ops
end
end Go.Gx
