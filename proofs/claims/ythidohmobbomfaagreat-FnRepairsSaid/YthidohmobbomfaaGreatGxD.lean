/- Read-only facts: loads, indexes, fields, parts of slices. Conditions: none. -/
import Derived.Test.YthidohmobbomfaaGreatGxC
set_option linter.unusedVariables false
set_option linter.unusedSimpArgs false
namespace Go.Gx
open Go.RowKit

abbrev ptr (b off:Nat):Value:=.pointer (some ⟨b,off,none⟩)

structure Ty (P:Program) (t:TypeId) (α:Type) [Rep α]:Prop where
 agg:∀w,(isAgg t).run P w=.ok (Rep.agg α) w
 size:∀w,(sizeOf t).run P w=.ok (Rep.sz α) w
 info:∃i z,P.info? t=some i∧i.size=Rep.sz α∧i.bytes≤1024∧i.zero=some z∧z.cells.size=Rep.sz α

section
variable {α β:Type} [Rep α] [Rep β]

def RO (D:List Nat) (w:World) (v:Value) (a:α):Prop:=∃F,Val false w v a F∧∀b∈F,b ∉ D
def ROAt (D:List Nat) (w:World) (b off:Nat) (a:α):Prop :=
 b ∉ D∧∃row T fz F,w.heap[b]?=some (.cells row T fz)∧Rep.rep false w ((row.toList.drop off).take (Rep.sz α)) a F∧∀c∈F,c ∉ D

theorem RO.keep {D:List Nat} {w w':World} {v:Value} {a:α} (h:RO D w v a) (k:Keep D w w'):RO D w' v a:=by
 obtain ⟨F,h1,h2⟩:=h
 exact ⟨F,h1.frame fun b hb=>k.block b (h1.inh b hb) (h2 b hb),h2⟩
theorem RO.now {D:List Nat} {w w':World} {v:Value} {a:α} (h:RO D w v a) (k:Keep D w w'):RO [] w' v a:=by
 obtain ⟨F,h1,h2⟩:=h.keep k
 exact ⟨F,h1,by simp⟩
theorem ROAt.keep {D:List Nat} {w w':World} {b off:Nat} {a:α} (h:ROAt D w b off a) (k:Keep D w w'):ROAt D w' b off a:=by
 obtain ⟨hb,row,T,fz,F,h1,h2,h3⟩:=h
 exact ⟨hb,row,T,fz,F,by rw [k.block b (Array.getElem?_eq_some_iff.1 h1).1 hb]; exact h1,Rep.frame h2 fun c hc=>k.block c (Rep.inh h2 c hc) (h3 c hc),h3⟩
theorem ROAt.now {D:List Nat} {w w':World} {b off:Nat} {a:α} (h:ROAt D w b off a) (k:Keep D w w'):ROAt [] w' b off a:=by
 obtain ⟨hb,row,T,fz,F,h1,h2,h3⟩:=h.keep k
 exact ⟨by simp,row,T,fz,F,h1,h2,by simp⟩

theorem ROAt.fst {D:List Nat} {w:World} {b off:Nat} {a:α × β} (h:ROAt D w b off a):ROAt D w b off a.1:=by
 obtain ⟨hb,row,T,fz,F,h1,⟨c1,c2,F1,F2,e,rfl,h2,h3⟩,h4⟩:=h
 refine ⟨hb,row,T,fz,F1,h1,?_,fun c hc=>h4 c (List.mem_append_left _ hc)⟩
 have hl:=Rep.len h2
 have:(row.toList.drop off).take (Rep.sz α)=c1:=by
  have:=congrArg (List.take (Rep.sz α)) e
  rw [List.take_take,List.take_append_of_le_length (by omega),List.take_of_length_le (l:=c1) (by omega)] at this
  rw [←this]
  congr 1
  show Rep.sz α=min (Rep.sz α) (Rep.sz α+Rep.sz β)
  omega
 rw [this]; exact h2
theorem ROAt.snd {D:List Nat} {w:World} {b off:Nat} {a:α × β} (h:ROAt D w b off a):ROAt D w b (off+Rep.sz α) a.2:=by
 obtain ⟨hb,row,T,fz,F,h1,⟨c1,c2,F1,F2,e,rfl,h2,h3⟩,h4⟩:=h
 refine ⟨hb,row,T,fz,F2,h1,?_,fun c hc=>h4 c (List.mem_append_right _ hc)⟩
 have hl:=Rep.len h2
 have:(row.toList.drop (off+Rep.sz α)).take (Rep.sz β)=c2:=by
  have:=congrArg (List.drop (Rep.sz α)) e
  rw [List.drop_take,List.drop_drop,List.drop_append_of_le_length (by omega),List.drop_of_length_le (l:=c1) (by omega),List.nil_append] at this
  rw [←this]
  congr 1
  show Rep.sz β=Rep.sz α+Rep.sz β-Rep.sz α
  omega
 rw [this]; exact h3

theorem cell_row {w:World} {b off j:Nat} {row:Array Value} {T:TypeId} {fz:Nat × Nat} {k:Nat} {v:Value} (h:w.heap[b]?=some (.cells row T fz)) (hv:((row.toList.drop off).take k)[j]?=some v) :
  w.cell? ⟨b,off+j,none⟩=some v:=by
 rw [List.getElem?_take] at hv
 split at hv
 ·rw [List.getElem?_drop] at hv
  simp only [World.cell?,h]
  simpa using hv
 ·cases hv

theorem ptr_add (b off j:Nat):(⟨b,off,none⟩:Addr).add j=⟨b,off+j,none⟩:=by
 unfold Addr.add; split <;> simp_all

theorem run_load_rep {P:Program} {t:TypeId} {D:List Nat} {w0 w:World} {b off:Nat} {a:α} (hT:Ty P t α) (h:ROAt D w0 b off a) (K:Keep D w0 w) :
  ∃v,(loadVar t ⟨b,off,none⟩).run P w=.ok v w∧RO D w0 v a:=by
 obtain ⟨hb,row,T,fz,F,h1,h2,h3⟩:=h
 have h1':w.heap[b]?=some (.cells row T fz):=by rw [K.block b (Array.getElem?_eq_some_iff.1 h1).1 hb]; exact h1
 have hl:=Rep.len h2
 refine ⟨mkv (Rep.agg α) ((row.toList.drop off).take (Rep.sz α)),?_,F,⟨_,rfl,h2⟩,h3⟩
 unfold loadVar
 simp only [Sem.run_bind,hT.agg,Result.andThen_ok]
 cases hg:Rep.agg α with
 | true =>
  have h4:=run_loadCells_list (P:=P) w ⟨b,off,none⟩ ((row.toList.drop off).take (Rep.sz α)) (fun j v hv=>by rw [ptr_add]; exact cell_row h1' hv)
  rw [hl] at h4
  simp [hT.size,h4,mkv]
 | false =>
  have h5:=Rep.one1 (α:=α) hg
  rw [h5] at hl ⊢
  match hm:(row.toList.drop off).take 1,hl with
  | [c],_ =>
   have h6:=cell_row (j:=0) (k:=1) h1' (by rw [hm]; rfl)
   simp only [Nat.add_zero] at h6
   simp [h6,mkv]

theorem ro_int {D:List Nat} {w:World} {v:Value} {a:Int} (h:RO D w v a):v=.int .i64 a:=by
 obtain ⟨F,⟨cs,rfl,h1,_⟩,_⟩:=h
 rw [h1]; rfl
theorem ro_u8 {D:List Nat} {w:World} {v:Value} {a:UInt8} (h:RO D w v a):v=.int .u8 a.toNat:=by
 obtain ⟨F,⟨cs,rfl,h1,_⟩,_⟩:=h
 rw [h1]; rfl
theorem ro_slice {D:List Nat} {w:World} {v:Value} {as:List α} (h:RO D w v as):∃p cap,v=.slice p as.length cap∧as.length≤cap∧cap≤maxLen ∧
  ((p=none∧cap=0∧as=[])∨(as=[]∧(p=none→cap=0))∨∃b off row T fz cells Fe,p=some ⟨b,off,none⟩∧w.heap[b]?=some (.cells row T fz)∧b ∉ D∧elems false w cells as Fe ∧
    (row.toList.drop off).take (as.length*Rep.sz α)=cells∧∀c∈Fe,c ∉ D):=by
 obtain ⟨F,⟨cs,rfl,p,cap,rfl,h1,h2,h3⟩,h4⟩:=h
 refine ⟨p,cap,rfl,h1,h2,?_⟩
 rcases h3 with h3 | h3 | ⟨b,off,row,T,fz,cells,Fe,rfl,h5,rfl,h6,h7,h8⟩
 ·exact .inl ⟨h3.1,h3.2.1,h3.2.2.1⟩
 ·exact .inr (.inl ⟨h3.2.1,h3.2.2.2⟩)
 ·exact .inr (.inr ⟨b,off,row,T,fz,cells,Fe,rfl,h5,h4 b (by simp),h6,h7,fun c hc=>h4 c (List.mem_cons_of_mem _ hc)⟩)

theorem RO.lt {D:List Nat} {w:World} {v:Value} {as:List α} (h:RO D w v as):as.length≤maxLen:=by
 obtain ⟨p,cap,_,h1,h2,_⟩:=ro_slice h
 omega

theorem sub_cells {cells:List Value} {row:List Value} {off k i s:Nat} (h:(row.drop off).take (k*s)=cells) (hi:i<k):(row.drop (off+i*s)).take s=(cells.drop (i*s)).take s:=by
 rw [←h,List.drop_take,List.drop_drop,List.take_take]
 congr 1
 have:(i+1)*s≤k*s:=Nat.mul_le_mul_right _ hi
 rw [Nat.add_mul] at this
 omega

theorem RO.at {D:List Nat} {w:World} {v:Value} {as:List α} (h:RO D w v as) {i:Int} {a:α} (hi:idx as i=some a) :
  ∃b off cap,v=.slice (some ⟨b,off,none⟩) as.length cap∧ROAt D w b (off+i.toNat*Rep.sz α) a:=by
 obtain ⟨h0,hlt,hget⟩:=idx_some hi
 obtain ⟨p,cap,rfl,h1,h2,h3⟩:=ro_slice h
 rcases h3 with ⟨_,_,rfl⟩ | ⟨rfl,_⟩ | ⟨b,off,row,T,fz,cells,Fe,rfl,h5,hb,h6,h7,h8⟩
 ·simp at hlt
 ·simp at hlt
 ·obtain ⟨F1,h9,h10⟩:=elems_get h6 hget
  refine ⟨b,off,cap,rfl,hb,row,T,fz,F1,h5,?_,fun c hc=>h8 c (h10 c hc)⟩
  rw [sub_cells h7 hlt]
  exact h9
end

def sub {α:Type} (l:List α) (lo hi:Int):Option (List α):=if 0≤lo∧lo≤hi∧hi≤l.length then some ((l.take hi.toNat).drop lo.toNat) else none

section
variable {α β:Type} [Rep α] [Rep β]
theorem ro_empty {D:List Nat} {w:World} (p:Option Addr) {m cap:Nat} (hc:cap≤maxLen) (hm:m=0) (hp:p=none→cap=0):RO D w (.slice p m cap) ([]:List α):=by
 subst hm
 exact ⟨[],⟨[_],rfl,p,cap,rfl,by simp,hc,.inr (.inl ⟨rfl,rfl,rfl,hp⟩)⟩,by simp⟩
theorem RO.part {D:List Nat} {w:World} {p:Option Addr} {cap:Nat} {as bs:List α} {m:Nat} (h:RO D w (.slice p m cap) as) {lo hi:Int} (hs:sub as lo hi=some bs) :
  RO D w (.slice (if cap=lo.toNat then p else p.map (·.add (lo.toNat*Rep.sz α))) (hi.toNat-lo.toNat) (cap-lo.toNat)) bs:=by
 unfold sub at hs
 split at hs
 ·rename_i hc
  obtain ⟨c1,c2,c3⟩:=hc
  simp only [Option.some.injEq] at hs
  have hlen:bs.length=hi.toNat-lo.toNat:=by rw [←hs]; simp; omega
  obtain ⟨p',cap',e,h1,h2,h3⟩:=ro_slice h
  simp only [Value.slice.injEq] at e
  obtain ⟨rfl,rfl,rfl⟩:=e
  rcases h3 with ⟨rfl,rfl,rfl⟩ | ⟨rfl,hp0⟩ | ⟨b,off,row,T,fz,cells,Fe,rfl,h5,hb,h6,h7,h8⟩
  ·have:bs=[]:=by rw [←hs]; simp
   subst this
   exact ro_empty _ (by omega) (by simp at hlen; omega) (by simp)
  ·have:bs=[]:=by rw [←hs]; simp
   subst this
   exact ro_empty _ (by omega) (by simp at hlen; omega) (fun hn=>by split at hn <;> (have:=hp0 (by simpa using hn); omega))
  ·by_cases hcap:cap=lo.toNat
   ·have:bs=[]:=by
     apply List.eq_nil_of_length_eq_zero
     rw [hlen]; omega
    subst this
    exact ro_empty _ (by omega) (by simp at hlen; omega) (fun hn=>by rw [if_pos hcap] at hn; simp at hn)
   ·obtain ⟨F1,g1,g2⟩:=elems_take h6 hi.toNat (by omega)
    obtain ⟨F2,g3,g4⟩:=elems_drop g1 lo.toNat (by simp; omega)
    rw [hs] at g3
    refine ⟨b::F2,⟨[_],rfl,some ⟨b,off+lo.toNat*Rep.sz α,none⟩,cap-lo.toNat,?_,by omega,by omega,
     .inr (.inr ⟨b,off+lo.toNat*Rep.sz α,row,T,fz,_,F2,rfl,h5,rfl,g3,?_,by simp⟩)⟩,?_⟩
    ·rw [if_neg hcap,←hlen]; simp [ptr_add]
    ·rw [←h7,List.take_take,List.drop_take,List.drop_drop]
     congr 1
     rw [hlen,Nat.sub_mul]
     have:hi.toNat*Rep.sz α≤as.length*Rep.sz α:=Nat.mul_le_mul_right _ (by omega)
     omega
    ·intro c hc
     rcases List.mem_cons.1 hc with rfl | hc
     ·exact hb
     ·exact h8 c (g2 c (g4 c hc))
 ·cases hs
end

section
variable {α β:Type} [Rep α] [Rep β]
variable {P:Program} {n:Nat} {l:Env} {w w0:World} {ops:Array Oper} {K:Env→World→Prop} {os:List Oper} {d:Nat} {T U:TypeId} {pos:String} {aft:Array Edge} {x y z:Operand} {v u:Value} {D:List Nat}

theorem WL_load {t:TypeId} {b off:Nat} {a:α} (hT:Ty P t α) (h:ROAt D w0 b off a) (hk:Keep D w0 w) (hd:Nat.blt d n=true) (hx:ev l x=some (ptr b off))
  (k:∀v,RO D w0 v a→WL P n ops K os ((d,v)::l) w):WL P n ops K (⟨some d,.load t x,T,pos,aft,none⟩::os) l w:=by
 obtain ⟨v,h1,h2⟩:=run_load_rep hT h hk
 exact WL_val rfl rfl hd (fun ρ hρ=>by simp [execOp,hρ x _ hx,Instr.loadAt,Instr.sureAddr,h1]) (k v h2)

theorem WL_len {as:List α} {e:TypeId} (hu:P.underlying U=some (.slice e)) (h:RO D w0 v as) (hd:Nat.blt d n=true) (hx:ev l x=some v) (k:WL P n ops K os ((d,.int .i64 as.length)::l) w) :
  WL P n ops K (⟨some d,.call ⟨.builtin .len,#[x],#[U]⟩,T,pos,aft,none⟩::os) l w:=by
 obtain ⟨p,cap,rfl,_⟩:=ro_slice h
 exact WL_val rfl rfl hd (fun ρ hρ=>by
  simp [execOp,resolve,invoke,builtin,Builtin.len_,hρ x _ hx,run_underlying hu,goInt]) k

theorem WL_index {as:List α} {e:TypeId} {i:Int} {a:α} {kd:IntKind} (hu:P.underlying U=some (.slice e)) (hE:Ty P e α) (h:RO D w0 v as) (hi:idx as i=some a) (hd:Nat.blt d n=true)
  (hx:ev l x=some v) (hy:ev l y=some (.int kd i)) (k:∀b off,ROAt D w0 b off a→WL P n ops K os ((d,ptr b off)::l) w):WL P n ops K (⟨some d,.indexAddr U x y,T,pos,aft,none⟩::os) l w:=by
 obtain ⟨b,off,cap,rfl,h1⟩:=h.at hi
 obtain ⟨h0,hlt,_⟩:=idx_some hi
 refine WL_val rfl rfl hd (fun ρ hρ=>?_) (k _ _ h1)
 have hlt':i<(as.length:Int):=by omega
 simp [execOp,hρ x _ hx,hρ y _ hy,Instr.indexAt,asIntOf,run_underlying hu,h0,hlt',hE.size,ptr_add]

theorem WL_field {fs:Array Field} {f:Field} {kf b off fo:Nat} (hu:P.underlying U=some (.struct fs)) (hf:fs[kf]?=some f) (hfo:f.offset=fo) (hsz:∀w,∃s,(sizeOf f.type).run P w=.ok (s+1) w) (hd:Nat.blt d n=true)
  (hx:ev l x=some (ptr b off)) (k:WL P n ops K os ((d,ptr b (off+fo))::l) w):WL P n ops K (⟨some d,.fieldAddr U x kf,T,pos,aft,none⟩::os) l w:=by
 obtain ⟨s,hs⟩:=hsz w
 subst hfo
 exact WL_val rfl rfl hd (fun ρ hρ=>by simp [execOp,hρ x _ hx,Instr.fieldAt,run_underlying hu,hf,Instr.sureAddr,fieldPlace,hs,ptr_add]) k

theorem WL_slice_h {as bs:List α} {e:TypeId} {hi:Int} {k2:IntKind} (hu:P.underlying U=some (.slice e)) (hE:Ty P e α) (h:RO D w0 v as) (hs:sub as 0 hi=some bs) (hd:Nat.blt d n=true)
  (hx:ev l x=some v) (hz:ev l z=some (.int k2 hi)) (k:∀v',RO D w0 v' bs→WL P n ops K os ((d,v')::l) w) :
  WL P n ops K (⟨some d,.slice U x none (some z) none,T,pos,aft,none⟩::os) l w:=by
 obtain ⟨p,cap,rfl,h1,h2,_⟩:=ro_slice h
 have hp:=h.part hs
 unfold sub at hs
 split at hs
 ·rename_i hc
  obtain ⟨c1,c2,c3⟩:=hc
  refine WL_val rfl rfl hd (fun ρ hρ=>?_) (k _ hp)
  have e1:(hi.toNat:Int)=hi:=Int.toNat_of_nonneg (by omega)
  simp [execOp,hρ x _ hx,hρ z _ hz,Instr.sliceAt,Instr.slice,run_underlying hu,Instr.sliceBounds,Instr.sliceBound,asIntOf,hE.size,e1,(show 0≤hi by omega),(show hi≤(cap:Int) by omega)]
 ·cases hs
theorem WL_slice_l {as bs:List α} {e:TypeId} {lo:Int} {k1:IntKind} (hu:P.underlying U=some (.slice e)) (hE:Ty P e α) (h:RO D w0 v as) (hs:sub as lo as.length=some bs) (hd:Nat.blt d n=true)
  (hx:ev l x=some v) (hy:ev l y=some (.int k1 lo)) (k:∀v',RO D w0 v' bs→WL P n ops K os ((d,v')::l) w) :
  WL P n ops K (⟨some d,.slice U x (some y) none none,T,pos,aft,none⟩::os) l w:=by
 obtain ⟨p,cap,rfl,h1,h2,_⟩:=ro_slice h
 have hp:=h.part hs
 unfold sub at hs
 split at hs
 ·rename_i hc
  obtain ⟨c1,c2,c3⟩:=hc
  refine WL_val rfl rfl hd (fun ρ hρ=>?_) (k _ hp)
  simp [execOp,hρ x _ hx,hρ y _ hy,Instr.sliceAt,Instr.slice,run_underlying hu,Instr.sliceBounds,Instr.sliceBound,asIntOf,hE.size,c1,c2]
 ·cases hs
end
end Go.Gx
