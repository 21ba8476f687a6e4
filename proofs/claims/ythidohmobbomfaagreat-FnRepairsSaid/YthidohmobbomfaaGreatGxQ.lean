/- Operations that look at no memory. Conditions: none. -/
import Derived.Test.YthidohmobbomfaaGreatGxP
set_option linter.unusedVariables false
set_option linter.unusedSimpArgs false
namespace Go.Gx
open Go.RowKit
section
variable {P:Program} {l:Env} {d:Nat} {T:TypeId} {U:TypeId} {pos:String} {aft:Array Edge} {x y z:Operand} {v u:Value} {g:Option (Nat × Bool)}
variable {a b:Int} {k:IntKind}
theorem fl_move (hx:ev l x=some v):Fl P l (⟨some d,.move x,T,pos,aft,g⟩) :=
 ⟨v,fun w ρ hρ=>by simp [execOp,hρ x v hx]⟩
theorem fl_assign (hx:ev l x=some v):Fl P l (⟨some d,.assign x,T,pos,aft,g⟩) :=
 ⟨v,fun w ρ hρ=>by simp [execOp,hρ x v hx]⟩
theorem fl_pick_t (hx:ev l x=some (.bool true)) (hy:ev l y=some v):Fl P l (⟨some d,.pick x y z,T,pos,aft,g⟩) :=
 ⟨v,fun w ρ hρ=>by simp [execOp,hρ x _ hx,hρ y v hy,asBool]⟩
theorem fl_pick_f (hx:ev l x=some (.bool false)) (hz:ev l z=some v):Fl P l (⟨some d,.pick x y z,T,pos,aft,g⟩) :=
 ⟨v,fun w ρ hρ=>by simp [execOp,hρ x _ hx,hρ z v hz,asBool]⟩
theorem fl_not {b:Bool} (hx:ev l x=some (.bool b)):Fl P l (⟨some d,.unOp .not U x,T,pos,aft,g⟩) :=
 ⟨.bool (!b),fun w ρ hρ=>by simp [execOp,hρ x _ hx,Op.unary]⟩
theorem fl_extract {i:Nat} {vs:Array Value} (hx:ev l x=some (.tuple vs)) (hv:vs[i]?=some v):Fl P l (⟨some d,.extract x i,T,pos,aft,g⟩) :=
 ⟨v,fun w ρ hρ=>by simp [execOp,hρ x _ hx,Instr.extract,hv]⟩
theorem fl_add {V:TypeId} (hx:ev l x=some (.int .i64 a)) (hy:ev l y=some (.int .i64 b)):Fl P l (⟨some d,.binOp .add U x y V,T,pos,aft,g⟩) :=
 ⟨.int .i64 (w64 (a+b)),fun w ρ hρ=>run_bin_int (hρ x _ hx) (hρ y _ hy) (by simp [binOp,Op.intArith,Op.intCmp,Op.intDiv,w64_eq,w8_eq,beq_int,bne_int, *])⟩
theorem fl_sub {V:TypeId} (hx:ev l x=some (.int .i64 a)) (hy:ev l y=some (.int .i64 b)):Fl P l (⟨some d,.binOp .sub U x y V,T,pos,aft,g⟩) :=
 ⟨.int .i64 (w64 (a-b)),fun w ρ hρ=>run_bin_int (hρ x _ hx) (hρ y _ hy) (by simp [binOp,Op.intArith,Op.intCmp,Op.intDiv,w64_eq,w8_eq,beq_int,bne_int, *])⟩
theorem fl_lss {V:TypeId} (hx:ev l x=some (.int k a)) (hy:ev l y=some (.int k b)):Fl P l (⟨some d,.binOp .lss U x y V,T,pos,aft,g⟩) :=
 ⟨.bool (decide (a<b)),fun w ρ hρ=>run_bin_int (hρ x _ hx) (hρ y _ hy) (by simp [binOp,Op.intArith,Op.intCmp,Op.intDiv,w64_eq,w8_eq,beq_int,bne_int, *])⟩
theorem fl_leq {V:TypeId} (hx:ev l x=some (.int k a)) (hy:ev l y=some (.int k b)):Fl P l (⟨some d,.binOp .leq U x y V,T,pos,aft,g⟩) :=
 ⟨.bool (decide (a≤b)),fun w ρ hρ=>run_bin_int (hρ x _ hx) (hρ y _ hy) (by simp [binOp,Op.intArith,Op.intCmp,Op.intDiv,w64_eq,w8_eq,beq_int,bne_int, *])⟩
theorem fl_gtr {V:TypeId} (hx:ev l x=some (.int k a)) (hy:ev l y=some (.int k b)):Fl P l (⟨some d,.binOp .gtr U x y V,T,pos,aft,g⟩) :=
 ⟨.bool (decide (b<a)),fun w ρ hρ=>run_bin_int (hρ x _ hx) (hρ y _ hy) (by simp [binOp,Op.intArith,Op.intCmp,Op.intDiv,w64_eq,w8_eq,beq_int,bne_int, *])⟩
theorem fl_geq {V:TypeId} (hx:ev l x=some (.int k a)) (hy:ev l y=some (.int k b)):Fl P l (⟨some d,.binOp .geq U x y V,T,pos,aft,g⟩) :=
 ⟨.bool (decide (b≤a)),fun w ρ hρ=>run_bin_int (hρ x _ hx) (hρ y _ hy) (by simp [binOp,Op.intArith,Op.intCmp,Op.intDiv,w64_eq,w8_eq,beq_int,bne_int, *])⟩
theorem fl_eql {V:TypeId} (hx:ev l x=some (.int k a)) (hy:ev l y=some (.int k b)):Fl P l (⟨some d,.binOp .eql U x y V,T,pos,aft,g⟩) :=
 ⟨.bool (decide (a=b)),fun w ρ hρ=>run_bin_int (hρ x _ hx) (hρ y _ hy) (by simp [binOp,Op.intArith,Op.intCmp,Op.intDiv,w64_eq,w8_eq,beq_int,bne_int, *])⟩
theorem fl_neq {V:TypeId} (hx:ev l x=some (.int k a)) (hy:ev l y=some (.int k b)):Fl P l (⟨some d,.binOp .neq U x y V,T,pos,aft,g⟩) :=
 ⟨.bool (!decide (a=b)),fun w ρ hρ=>run_bin_int (hρ x _ hx) (hρ y _ hy) (by simp [binOp,Op.intArith,Op.intCmp,Op.intDiv,w64_eq,w8_eq,beq_int,bne_int, *])⟩
theorem fl_band {V:TypeId} (hx:ev l x=some (.int .i64 a)) (hy:ev l y=some (.int .i64 b)):Fl P l (⟨some d,.binOp .and U x y V,T,pos,aft,g⟩) :=
 ⟨.int .i64 (band a b),fun w ρ hρ=>run_bin_int (hρ x _ hx) (hρ y _ hy) (by simp only [binOp,Op.intBits]; rfl)⟩
theorem fl_bxor {V:TypeId} (hx:ev l x=some (.int .i64 a)) (hy:ev l y=some (.int .i64 b)):Fl P l (⟨some d,.binOp .xor U x y V,T,pos,aft,g⟩) :=
 ⟨.int .i64 (bxor a b),fun w ρ hρ=>run_bin_int (hρ x _ hx) (hρ y _ hy) (by simp only [binOp,Op.intBits]; rfl)⟩
theorem fl_conv_int {V:TypeId} {k':IntKind} (hu:P.underlying U=some (.int k')) (hv:P.underlying V=some (.int k)) (hx:ev l x=some (.int k' a)):Fl P l (⟨some d,.convert U V x,T,pos,aft,g⟩) :=
 ⟨.int k (k.wrap a),fun w ρ hρ=>by
  simp [execOp,hρ x _ hx,convert,run_underlying hu,run_underlying hv,Conv.intToInt]⟩
section
variable {α β:Type} [Rep α] [Rep β] {D:List Nat} {w0:World} {n:Nat}
theorem fl_len {as:List α} {e:TypeId} (hu:P.underlying U=some (.slice e)) (h:RO D w0 v as) (hx:ev l x=some v):Fl P l (⟨some d,.call ⟨.builtin .len,#[x],#[U]⟩,T,pos,aft,g⟩):=by
 obtain ⟨p,cap,rfl,_⟩:=ro_slice h
 exact ⟨_,fun w ρ hρ=>by simp [execOp,resolve,invoke,builtin,Builtin.len_,hρ x _ hx,run_underlying hu,goInt]; rfl⟩
theorem fl_index {as:List α} {e:TypeId} {i:Int} {a:α} {kd:IntKind} (hu:P.underlying U=some (.slice e)) (hE:Ty P e α) (h:RO D w0 v as) (hi:idx as i=some a)
  (hx:ev l x=some v) (hy:ev l y=some (.int kd i)):Fl P l (⟨some d,.indexAddr U x y,T,pos,aft,g⟩):=by
 obtain ⟨b,off,cap,rfl,h1⟩:=h.at hi
 obtain ⟨h0,hlt,_⟩:=idx_some hi
 refine ⟨ptr b (off+i.toNat*Rep.sz α),fun w ρ hρ=>?_⟩
 have hlt':i<(as.length:Int):=by omega
 simp [execOp,hρ x _ hx,hρ y _ hy,Instr.indexAt,asIntOf,run_underlying hu,h0,hlt',hE.size,ptr_add]
theorem fl_field {fs:Array Field} {f:Field} {kf b off fo:Nat} (hu:P.underlying U=some (.struct fs)) (hf:fs[kf]?=some f) (hfo:f.offset=fo) (hsz:∀w,∃s,(sizeOf f.type).run P w=.ok (s+1) w)
  (hx:ev l x=some (ptr b off)):Fl P l (⟨some d,.fieldAddr U x kf,T,pos,aft,g⟩):=by
 subst hfo
 refine ⟨ptr b (off+f.offset),fun w ρ hρ=>?_⟩
 obtain ⟨s,hs⟩:=hsz w
 simp [execOp,hρ x _ hx,Instr.fieldAt,run_underlying hu,hf,Instr.sureAddr,fieldPlace,hs,ptr_add]
theorem fl_slice_h {as bs:List α} {e:TypeId} {hi:Int} {k2:IntKind} (hu:P.underlying U=some (.slice e)) (hE:Ty P e α) (h:RO D w0 v as) (hs:sub as 0 hi=some bs)
  (hx:ev l x=some v) (hz:ev l z=some (.int k2 hi)):Fl P l (⟨some d,.slice U x none (some z) none,T,pos,aft,g⟩):=by
 obtain ⟨p,cap,rfl,h1,h2,_⟩:=ro_slice h
 unfold sub at hs
 split at hs
 ·rename_i hc
  obtain ⟨c1,c2,c3⟩:=hc
  have e1:(hi.toNat:Int)=hi:=Int.toNat_of_nonneg (by omega)
  exact ⟨_,fun w ρ hρ=>by
   simp [execOp,hρ x _ hx,hρ z _ hz,Instr.sliceAt,Instr.slice,run_underlying hu,Instr.sliceBounds,Instr.sliceBound,asIntOf,hE.size,e1,(show 0≤hi by omega),(show hi≤(cap:Int) by omega)]; rfl⟩
 ·cases hs
theorem fl_slice_l {as bs:List α} {e:TypeId} {lo:Int} {k1:IntKind} (hu:P.underlying U=some (.slice e)) (hE:Ty P e α) (h:RO D w0 v as) (hs:sub as lo as.length=some bs)
  (hx:ev l x=some v) (hy:ev l y=some (.int k1 lo)):Fl P l (⟨some d,.slice U x (some y) none none,T,pos,aft,g⟩):=by
 obtain ⟨p,cap,rfl,h1,h2,_⟩:=ro_slice h
 unfold sub at hs
 split at hs
 ·rename_i hc
  obtain ⟨c1,c2,c3⟩:=hc
  exact ⟨_,fun w ρ hρ=>by
   simp [execOp,hρ x _ hx,hρ y _ hy,Instr.sliceAt,Instr.slice,run_underlying hu,Instr.sliceBounds,Instr.sliceBound,asIntOf,hE.size,c1,c2]; rfl⟩
 ·cases hs
end
end
end Go.Gx
