/- slices.Insert at owned slices: its steps on raw slices, and what comes out. Conditions: none. -/
import Derived.Test.YthidohmobbomfaaGreatGxV
import Derived.Lib.AppendZerosOnto
import Derived.Lib.Overlaps
set_option linter.unusedVariables false
set_option linter.unusedSimpArgs false
namespace Go.Gx
open List renaming length_append→qb,length_drop→qc,append_assoc→qd,mem_cons_of_mem→qe,length_take→qh,take_left→qk
open Nat renaming zero_add→qf,mul_le_mul_right→qg,add_mul→qi,one_mul→qj
open Go.RowKit

def ins {α:Type} (as:List α) (i:Int) (bs:List α):Option (List α):=if 0≤i∧i≤as.length∧bs.length=1∧as.length+1≤LIM then some (as.take i.toNat++bs++as.drop i.toNat) else none
theorem ins_some {α:Type} {as bs cs:List α} {i:Int} (h:ins as i bs=some cs):∃m:Nat,i=m∧m≤as.length∧bs.length=1∧as.length+1≤LIM∧cs=as.take m++bs++as.drop m:=by
 unfold ins at h
 split at h
 ·rename_i hc
  cases h
  exact ⟨i.toNat,by omega,by omega,hc.2.2.1,hc.2.2.2,rfl⟩
 ·cases h

theorem two1 {α:Type} (row x y:List α) {A S:Nat} (hx:x.length=S) (h:A+S+y.length≤row.length) :
  let r1:=row.take A++x++row.drop (A+x.length)
  let r2:=r1.take (A+S)++y++r1.drop (A+S+y.length)
  r2.take (A+S+y.length)=row.take A++x++y∧r2.length=row.length∧r1.length=row.length:=by
 intro r1 r2
 have hA:(row.take A).length=A:=by rw [qh]; omega
 have h1:r1.take (A+S)=row.take A++x:=by
  show (row.take A++x++row.drop (A+x.length)).take (A+S)=_
  have:(row.take A++x).length=A+S:=by rw [qb,hA,hx]
  rw [←this,qk]
 have hl:r1.length=row.length:=by
  show (row.take A++x++row.drop (A+x.length)).length=_
  simp only [qb,hA,hx,qc]; omega
 refine ⟨?_,?_,hl⟩
 ·show (r1.take (A+S)++y++r1.drop (A+S+y.length)).take (A+S+y.length)=_
  rw [h1]
  have:(row.take A++x++y).length=A+S+y.length:=by simp only [qb,hA,hx]
  rw [←this,qk]
 ·show (r1.take (A+S)++y++r1.drop (A+S+y.length)).length=_
  simp only [qb,qh,qc,hl]; omega
theorem two2 {α:Type} (row x y:List α) {A S:Nat} (hx:x.length=S) (h:A+S+y.length≤row.length) :
  let r1:=row.take (A+S)++y++row.drop (A+S+y.length)
  let r2:=r1.take A++x++r1.drop (A+x.length)
  r2.take (A+S+y.length)=row.take A++x++y∧r2.length=row.length∧r1.length=row.length:=by
 intro r1 r2
 have hA:(row.take (A+S)).length=A+S:=by rw [qh]; omega
 have hl:r1.length=row.length:=by
  show (row.take (A+S)++y++row.drop (A+S+y.length)).length=_
  simp only [qb,hA,qc]; omega
 have h1:r1.take A=row.take A:=by
  show (row.take (A+S)++y++row.drop (A+S+y.length)).take A=_
  rw [qd,List.take_append_of_le_length (by omega),List.take_take,Nat.min_eq_left (by omega)]
 have h2:r1.drop (A+x.length)=y++row.drop (A+S+y.length):=by
  show (row.take (A+S)++y++row.drop (A+S+y.length)).drop (A+x.length)=_
  rw [qd,hx]
  have h3:=List.drop_left (l₁:=row.take (A+S)) (l₂:=y++row.drop (A+S+y.length))
  rw [hA] at h3
  exact h3
 refine ⟨?_,?_,hl⟩
 ·show (r1.take A++x++r1.drop (A+x.length)).take (A+S+y.length)=_
  rw [h1,h2,←qd]
  have:(row.take A++x++y).length=A+S+y.length:=by simp only [qb,qh,hx]; omega
  rw [←this,qk]
 ·show (r1.take A++x++r1.drop (A+x.length)).length=_
  rw [h1,h2]
  simp only [qb,qh,qc,hx]; omega

section
variable {α:Type} [Rep α] {P:Program} {w w0 w':World} {t e:TypeId}
theorem elems_split {m:Bool} {w:World}:∀{l:List α} {cs:List Value} {F:List Nat},elems m w cs l F→∀k,k≤l.length→∃F1 F2,F=F1++F2∧elems m w (cs.take (k*Rep.sz α)) (l.take k) F1∧elems m w (cs.drop (k*Rep.sz α)) (l.drop k) F2
 | l,cs,F,h,0,_=>⟨[],F,rfl,by simp [elems],by simpa using h⟩
 | a::l,_,_,⟨c,cs',F1,F2,rfl,rfl,h1,h2⟩,k+1,hk=>by
  obtain ⟨G1,G2,rfl,h3,h4⟩:=elems_split h2 k (by simpa using hk)
  have hl:=Rep.len h1
  have e1:(c++cs').take ((k+1)*Rep.sz α)=c++cs'.take (k*Rep.sz α):=by
   rw [qi,qj,Nat.add_comm,←hl,List.take_append,List.take_of_length_le (by omega)]
   congr 2; omega
  have e2:(c++cs').drop ((k+1)*Rep.sz α)=cs'.drop (k*Rep.sz α):=by
   rw [qi,qj,Nat.add_comm,←hl,List.drop_append,List.drop_of_length_le (by omega),List.nil_append]
   congr 1; omega
  refine ⟨F1++G1,G2,by simp,?_,?_⟩
  ·rw [e1]; exact ⟨c,_,F1,G1,rfl,rfl,h1,h3⟩
  ·rw [e2]; exact h4
 | [],_,_,_,k+1,hk=>by simp at hk

theorem ins_val {as bs:List α} {cells vcells:List Value} {Fe Ge:List Nat} {i:Nat} (hel:elems true w cells as Fe) (hvl:elems true w vcells bs Ge) (hnd:(Fe++Ge).Nodup) (hi:i≤as.length) (hbl:bs.length=1)
  {g c:Nat} {row:Array Value} {T:TypeId} (hgF:g ∉ Fe++Ge) (hheap:w'.heap[g]?=some (.cells row T (0,0))) (hfr:∀k∈Fe++Ge,w'.heap[k]?=w.heap[k]?)
  (hrow:row.toList.take ((as.length+1)*Rep.sz α)=cells.take (i*Rep.sz α)++vcells++cells.drop (i*Rep.sz α)) (hsz:row.size=c*Rep.sz α) (hc:as.length+1≤c) (hc2:c≤maxLen) :
  ∃F',Val true w' (.slice (some ⟨g,0,none⟩) (as.length+1) c) (as.take i++bs++as.drop i) F'∧F'.Nodup∧∀k∈F',k=g∨k∈Fe++Ge:=by
 obtain ⟨F1,F2,rfl,h1,h2⟩:=elems_split hel i hi
 have hlen:(as.take i++bs++as.drop i).length=as.length+1:=by simp only [qb,qh,qc,hbl]; omega
 have hmem:∀k,k∈F1++Ge++F2↔k∈F1++F2++Ge:=fun k=>by simp only [List.mem_append]; exact ⟨fun h=>by rcases h with (h | h) | h <;> simp [h],fun h=>by rcases h with (h | h) | h <;> simp [h]⟩
 refine ⟨g::(F1++Ge++F2),?_,?_,?_⟩
 ·rw [←hlen]
  exact slice_own (row:=row) (T:=T) hheap (elems_frame (elems_append (elems_append h1 hvl) h2) fun k hk=>hfr k ((hmem k).1 hk)) (by rw [hlen]; exact hrow) hsz (by rw [hlen]; exact hc) hc2
 ·rw [List.nodup_cons]
  refine ⟨fun h=>hgF ((hmem g).1 h),?_⟩
  have hp:(F1++Ge++F2).Perm (F1++F2++Ge):=by
   rw [qd,qd]
   exact (List.perm_append_comm).append_left F1
  exact hp.symm.nodup hnd
 ·intro k hk
  rcases List.mem_cons.1 hk with h | h
  ·exact .inl h
  ·exact .inr ((hmem k).1 h)

theorem Ctx.ins_raw {D:List Nat} {v xv:Value} {as bs:List α} (hC:Ctx D w0 w [Item.own v as,Item.own xv bs]) (ha:as≠[]) (hb:bs≠[]) :
  ∃b c row T cells Fe vb vc vrow vT vcells Ge,v=.slice (some ⟨b,0,none⟩) as.length c∧xv=.slice (some ⟨vb,0,none⟩) bs.length vc∧w.heap[b]?=some (.cells row T (0,0))∧w.heap[vb]?=some (.cells vrow vT (0,0)) ∧
   elems true w cells as Fe∧elems true w vcells bs Ge∧row.toList.take (as.length*Rep.sz α)=cells∧vrow.toList.take (bs.length*Rep.sz α)=vcells∧row.size=c*Rep.sz α∧vrow.size=vc*Rep.sz α ∧
   as.length≤c∧c≤maxLen∧bs.length≤vc∧vb≠b∧(Fe++Ge).Nodup∧b ∉ Fe++Ge ∧
   ∀(w':World) (v':Value) (cs:List α) (F':List Nat),Keep [b] w w'→Val true w' v' cs F'→F'.Nodup→(∀k∈F',k=b∨k∈Fe++Ge∨w.heap.size≤k)→Ctx D w0 w' [Item.own v' cs]:=by
 obtain ⟨F,G,hA,hn,hB,hG,hFG,hk⟩:=hC.swap.focus2 (i:=0) rfl
 rcases own_slice hA with ⟨rfl,h0,rfl⟩ | ⟨b,c,row,T,cells,Fe,rfl,h4,rfl,h5,h6,h8,h1,h2⟩
 ·exact absurd h0 ha
 rcases own_slice hB with ⟨rfl,h0,rfl⟩ | ⟨vb,vc,vrow,vT,vcells,Ge,rfl,g4,rfl,g5,g6,g8,g1,g2⟩
 ·exact absurd h0 hb
 rw [List.nodup_cons] at hn hG
 refine ⟨b,c,row,T,cells,Fe,vb,vc,vrow,vT,vcells,Ge,rfl,rfl,h4,g4,h5,g5,h6,g6,h8,g8,h1,h2,g1,fun e=>hFG b (by simp) (by simp [e]),?_,?_,fun w' v' cs F' hK hV hN hF=>?_⟩
 ·exact List.nodup_append.2 ⟨hn.2,hG.2,fun a ha b' hb' e=>by subst e; exact hFG a (qe _ ha) (qe _ hb')⟩
 ·intro h
  rcases List.mem_append.1 h with h | h
  ·exact hn.1 h
  ·exact hFG b (by simp) (qe _ h)
 ·have hK':Keep (b::Fe) w w':=⟨hK.os,hK.tape,hK.output,hK.size,fun k hk hkb=>hK.block k hk (by simp only [List.mem_singleton]; intro e; exact hkb (by simp [e]))⟩
  exact hk w' (Item.own v' cs) F' hK' hV hN (fun k hk=>by
   rcases hF k hk with h | h | h
   ·exact .inl (by simp [h])
   ·rcases List.mem_append.1 h with h | h
    ·exact .inl (qe _ h)
    ·exact .inr (.inl (qe _ h))
   ·exact .inr (.inr h))

variable {n:Nat} {l:Env} {ops:Array Oper} {K:Env→World→Prop} {os:List Oper} {d:Nat} {T U:TypeId} {pos:String} {aft:Array Edge} {x y z:Operand} {v u c xv:Value} {D:List Nat} {As:List Item} {g:Option (Nat × Bool)}

theorem WL_cap {p:Option Addr} {m cp:Nat} (hu:P.underlying U=some (.slice e)) (hd:Nat.blt d n=true) (hx:ev l x=some (.slice p m cp)) (k:WL P n ops K os ((d,.int .i64 cp)::l) w) :
  WL P n ops K (⟨some d,.call ⟨.builtin .cap,#[x],#[U]⟩,T,pos,aft,none⟩::os) l w :=
 WL_val rfl rfl hd (fun ρ hρ=>by simp [execOp,resolve,invoke,builtin,Builtin.cap_,hρ x _ hx,run_underlying hu,goInt]) k
theorem run_sl_l {b off m cp lo:Nat} {k1:IntKind} {ds:Option Nat} (hu:P.underlying U=some (.slice e)) (hE:Ty P e α) (h1:lo<cp) (h2:lo≤m) (h3:m≤cp) (ρ:Operand→Value) (hx:ρ x=.slice (some ⟨b,off,none⟩) m cp) (hy:ρ y=.int k1 (lo:Int)) :
  (execOp ρ ⟨ds,.slice U x (some y) none none,T,pos,aft,g⟩).run P w=.ok (.value (.slice (some ⟨b,off+lo*Rep.sz α,none⟩) (m-lo) (cp-lo))) w:=by
 have h4:¬(cp=lo):=by omega
 simp [execOp,hx,hy,Instr.sliceAt,Instr.slice,run_underlying hu,Instr.sliceBounds,Instr.sliceBound,asIntOf,hE.size,h2,h3,h4,ptr_add]
theorem WL_sl_l {b off m cp lo:Nat} {k1:IntKind} (hu:P.underlying U=some (.slice e)) (hE:Ty P e α) (h1:lo<cp) (h2:lo≤m) (h3:m≤cp) (hd:Nat.blt d n=true) (hx:ev l x=some (.slice (some ⟨b,off,none⟩) m cp)) (hy:ev l y=some (.int k1 (lo:Int)))
  (k:WL P n ops K os ((d,.slice (some ⟨b,off+lo*Rep.sz α,none⟩) (m-lo) (cp-lo))::l) w):WL P n ops K (⟨some d,.slice U x (some y) none none,T,pos,aft,none⟩::os) l w :=
 WL_val rfl rfl hd (fun ρ hρ=>run_sl_l hu hE h1 h2 h3 ρ (hρ x _ hx) (hρ y _ hy)) k
theorem fl_sl_l {b off m cp lo:Nat} {k1:IntKind} (hu:P.underlying U=some (.slice e)) (hE:Ty P e α) (h1:lo<cp) (h2:lo≤m) (h3:m≤cp) (hx:ev l x=some (.slice (some ⟨b,off,none⟩) m cp)) (hy:ev l y=some (.int k1 (lo:Int))) :
  Fl P l (⟨some d,.slice U x (some y) none none,T,pos,aft,g⟩):=⟨_,fun w ρ hρ=>run_sl_l hu hE h1 h2 h3 ρ (hρ x _ hx) (hρ y _ hy)⟩
theorem WL_sl_h {b off m cp hi:Nat} {k1:IntKind} (hu:P.underlying U=some (.slice e)) (hE:Ty P e α) (h1:hi≤cp) (h0:0<cp) (hd:Nat.blt d n=true) (hx:ev l x=some (.slice (some ⟨b,off,none⟩) m cp)) (hy:ev l y=some (.int k1 (hi:Int)))
  (k:WL P n ops K os ((d,.slice (some ⟨b,off,none⟩) hi cp)::l) w):WL P n ops K (⟨some d,.slice U x none (some y) none,T,pos,aft,none⟩::os) l w :=
 WL_val rfl rfl hd (fun ρ hρ=>by
  have h4:¬(cp=0):=by omega
  simp [execOp,hρ x _ hx,hρ y _ hy,Instr.sliceAt,Instr.slice,run_underlying hu,Instr.sliceBounds,Instr.sliceBound,asIntOf,hE.size,h1,h4,ptr_add]) k
theorem WL_zeros {b m cp k0:Nat} {row:Array Value} {T0 tn:TypeId} {kn:IntKind} {olds:List Value} (hu:P.underlying U=some (.slice e)) (hE:Ty P e α) (hs:Nat.blt 0 (Rep.sz α)=true) (htn:P.underlying tn=some (.int kn)) (hg:w.heap[b]?=some (.cells row T0 (0,0)))
  (ho:row.toList.take (m*Rep.sz α)=olds) (hol:olds.length=m*Rep.sz α) (h0:0<k0) (hgr:cp<m+k0) (hlim:m+k0≤LIM) (hd:Nat.blt d n=true) (hx:ev l x=some (.slice (some ⟨b,0,none⟩) m cp)) (hy:ev l y=some (.int .i64 (k0:Int)))
  (k:∀(c':Nat) (row':Array Value),row'.toList.take (m*Rep.sz α)=olds→row'.size=c'*Rep.sz α→m+k0≤c'→c'≤maxLen→WL P n ops K os ((d,.slice (some ⟨w.heap.size,0,none⟩) (m+k0) c')::l) (w.drew.alloc (.cells row' e))) :
  WL P n ops K (⟨some d,.call ⟨.builtin .append,#[x,y],#[U,tn]⟩,T,pos,aft,none⟩::os) l w:=by
 rw [LIM_eq] at hlim
 obtain ⟨i,z,hi,hsz,hby,hz,hzs⟩:=hE.info
 have hbytes:(m+k0)*i.bytes≤140737488355328:=by
  have:(m+k0)*i.bytes≤4294967296*1024:=Nat.mul_le_mul hlim hby
  omega
 have hb2:k0*i.bytes≤281474976710656:=by
  have:k0*i.bytes≤4294967296*1024:=Nat.mul_le_mul (by omega) hby
  omega
 have hold:(Builtin.firstCells i.size m (.slice (some ⟨b,0,none⟩) m cp)).run P w.drew=.ok olds.toArray w.drew :=
  run_firstCells_some (P:=P) w.drew i.size m ⟨b,0,none⟩ m cp olds (by rw [hol,hsz]) fun j u hj=>by
   rw [ptr_add]
   exact cell_row (off:=0) (k:=m*Rep.sz α) (w:=w.drew) hg (by rw [List.drop_zero,ho]; exact hj)
 have hr:=Go.Lib.run_append_grow_zeros (P:=P) w U tn T e i z .i64 kn hu htn hi hz (some ⟨b,0,none⟩) m cp olds hold k0 h0 (by rw [hsz]; simpa [Nat.blt_eq] using hs) hgr (by omega) hb2 (growslice_fits hgr hbytes)
 have hge:=grownCap_ge w (m+k0) cp e
 have hcm:grownCap w (m+k0) cp e≤maxLen:=grownCap_le_maxLen w _ cp e (by simp only [maxLen]; omega)
 refine WL_run rfl rfl hd (fun ρ hρ=>?_) (k (grownCap w (m+k0) cp e) (olds.toArray++Builtin.zeroCells z.cells k0++Builtin.zeroCells z.cells (grownCap w (m+k0) cp e-(m+k0))) ?_ ?_ hge hcm)
 ·simp [execOp,resolve,invoke,builtin,hρ x _ hx,hρ y _ hy,hr]
 ·simp only [Array.toList_append,qd]
  rw [←hol]
  exact qk
 ·simp only [Array.size_append,List.size_toArray,size_zeroCells,hzs,hol,←qi]
  congr 1
  omega
theorem run_copy_rep {gb o dLen dCap m:Nat} {cur:Array Value} {T0:TypeId} {a:Addr} {sLen sCap:Nat} {news:List Value} (ty:TypeId) (hu:P.underlying t=some (.slice e)) (hE:Ty P e α) (hg:w.heap[gb]?=some (.cells cur T0 (0,0))) (hm:Nat.min sLen dLen=m)
  (hl:news.length=m*Rep.sz α) (hnews:∀j u,news[j]?=some u→w.cell? (a.add j)=some u) (h1:∀u∈news,u.oneCell'=true) (hfit:o+news.length≤cur.size) :
  (Builtin.copy_ #[t,t] ty #[.slice (some ⟨gb,o,none⟩) dLen dCap,.slice (some a) sLen sCap]).run P w=.ok (goInt m) (w.setRow gb (cur.toList.take o++news++cur.toList.drop (o+news.length)).toArray):=by
 have hf:=run_firstCells_some (P:=P) w (Rep.sz α) m a sLen sCap news hl hnews
 have hst:=run_storeCells_at P gb o T0 news 0 cur w hg (by simpa using hfit) h1
 simp only [Nat.add_zero] at hst
 simp [Builtin.copy_,run_underlying hu,hE.size,Builtin.lenOf,hm,hf,hst]
theorem WL_copy {gb o dLen dCap m b' o' sLen sCap:Nat} {cur src:Array Value} {T0 T1:TypeId} {fz:Nat × Nat} {news:List Value} (hu:P.underlying U=some (.slice e)) (hE:Ty P e α) (hg:w.heap[gb]?=some (.cells cur T0 (0,0))) (hs:w.heap[b']?=some (.cells src T1 fz))
  (hm:Nat.min sLen dLen=m) (hn:(src.toList.drop o').take (m*Rep.sz α)=news) (hl:news.length=m*Rep.sz α) (h1:∀u∈news,u.oneCell'=true) (hfit:o+news.length≤cur.size) (hd:Nat.blt d n=true)
  (hx:ev l x=some (.slice (some ⟨gb,o,none⟩) dLen dCap)) (hy:ev l y=some (.slice (some ⟨b',o',none⟩) sLen sCap))
  (k:WL P n ops K os ((d,.int .i64 (m:Int))::l) (w.setRow gb (cur.toList.take o++news++cur.toList.drop (o+news.length)).toArray)) :
  WL P n ops K (⟨some d,.call ⟨.builtin .copy,#[x,y],#[U,U]⟩,T,pos,aft,none⟩::os) l w:=by
 have hr:=run_copy_rep (P:=P) (w:=w) (o:=o) (dCap:=dCap) (sCap:=sCap) (a:=⟨b',o',none⟩) T hu hE hg hm hl (fun j u hj=>by
  rw [ptr_add]; exact cell_row (off:=o') (k:=m*Rep.sz α) hs (by rw [hn]; exact hj)) h1 hfit
 refine WL_run rfl rfl hd (fun ρ hρ=>?_) k
 simp [execOp,resolve,invoke,builtin,hρ x _ hx,hρ y _ hy,hr,goInt]
theorem WL_apart {f:FuncId} {R:TypeId} {b vb off lb cb vc m:Nat} {row vrow:Array Value} {T0 T1:TypeId} {ts:Array TypeId} (hc:∀args w,(callFunc f args).run P w=((Extern.SlicesOverlaps.overlaps #[U,U] #[R] args).run P w).andThen fun v w'=>.ok (.value v) w')
  (hu:P.underlying U=some (.slice e)) (hE:Ty P e α) (hne:vb≠b) (hb:w.heap[b]?=some (.cells row T0 (0,0))) (hv:w.heap[vb]?=some (.cells vrow T1 (0,0))) (hrow:row.size≠0) (hd:Nat.blt d n=true)
  (hx:ev l x=some (.slice (some ⟨vb,0,none⟩) m vc)) (hy:ev l y=some (.slice (some ⟨b,off,none⟩) lb cb)) (k:WL P n ops K os ((d,.bool false)::l) w) :
  WL P n ops K (⟨some d,.call ⟨.value (.func f),#[x,y],ts⟩,T,pos,aft,none⟩::os) l w:=by
 have hr:=Go.Lib.run_overlaps_apart (P:=P) w U R e hu (Rep.sz α) hE.size ⟨vb,0,none⟩ ⟨b,off,none⟩ m vc lb cb hne T1 T0 vrow.size row.size (by simp [World.shape?,hv]) (by simp [World.shape?,hb]) hrow (by simp [World.frozen?,hv]) (by simp [World.frozen?,hv])
 refine WL_val rfl rfl hd (fun ρ hρ=>?_) k
 have hf:=hρ (.func f) _ rfl
 simp [execOp,resolve,Deferred.ofValue,invoke,hρ x _ hx,hρ y _ hy,hf,hc,hr]
theorem below_row {B g:Nat} {cs:Array Value} {wa wb:World} (h:Below B wa wb) (hg:B≤g):Below B wa (wb.setRow g cs) :=
 ⟨h.os,h.tape,h.output,by rw [setRow_size]; exact h.size,fun k hk=>by rw [setRow_other _ _ _ _ (by omega)]; exact h.block k hk⟩
theorem Keep.row {b:Nat} {cs:Array Value} {wa wb:World} (h:Keep [b] wa wb):Keep [b] wa (wb.setRow b cs) :=
 ⟨h.os,h.tape,h.output,by rw [setRow_size]; exact h.size,fun k hk hkb=>by rw [setRow_other _ _ _ _ (by simpa using hkb)]; exact h.block k hk hkb⟩
theorem heap_lt {wa:World} {k:Nat} {o:Obj} (h:wa.heap[k]?=some o):k<wa.heap.size:=(Array.getElem?_eq_some_iff.1 h).1
theorem below_new (w:World) (o:Obj):Below w.heap.size w (w.drew.alloc o):=((Below.refl _ _).drew).alloc (by simp) _
theorem drop_cells {row:Array Value} {cells:List Value} {nn m s:Nat} (h:row.toList.take (nn*s)=cells):(row.toList.drop (0+m*s)).take ((nn-m)*s)=cells.drop (m*s):=by
 rw [←h,List.drop_take,qf,Nat.sub_mul]
theorem take_cells {row:Array Value} {cells:List Value} {nn m s:Nat} (h:row.toList.take (nn*s)=cells) (hm:m≤nn):row.toList.take (m*s)=cells.take (m*s):=by
 have:m*s≤nn*s:=qg _ hm
 rw [←h,List.take_take,Nat.min_eq_left this]
theorem row_grow {row':Array Value} {cells vcells:List Value} {nn m s c':Nat} (hm:m≤nn) (hcl:cells.length=nn*s) (hvl:vcells.length=1*s) (ho:row'.toList.take (m*s)=cells.take (m*s)) (hsz:row'.size=c'*s) (hc:nn+1≤c') :
  let r1:=(row'.toList.take (0+m*s)++vcells++row'.toList.drop (0+m*s+vcells.length)).toArray
  let r2:=(r1.toList.take (0+(m+1)*s)++cells.drop (m*s)++r1.toList.drop (0+(m+1)*s+(cells.drop (m*s)).length)).toArray
  r2.toList.take ((nn+1)*s)=cells.take (m*s)++vcells++cells.drop (m*s)∧r2.size=c'*s∧r1.size=c'*s:=by
 intro r1 r2
 have hrl:row'.toList.length=c'*s:=Array.length_toList.trans hsz
 have h1:m*s≤nn*s:=qg _ hm
 have h2:(nn+1)*s≤c'*s:=qg _ hc
 have hyl:(cells.drop (m*s)).length=nn*s-m*s:=by rw [qc,hcl]
 have e1:(m+1)*s=m*s+s:=by rw [qi,qj]
 have e2:(nn+1)*s=nn*s+s:=by rw [qi,qj]
 obtain ⟨g1,g2,g3⟩:=two1 row'.toList vcells (cells.drop (m*s)) (A:=m*s) (S:=s) (by omega) (by rw [hrl]; omega)
 have e3:m*s+s+(cells.drop (m*s)).length=(nn+1)*s:=by omega
 refine ⟨?_,?_,?_⟩
 ·have:=g1
  rw [e3,ho] at this
  show (r1.toList.take (0+(m+1)*s)++cells.drop (m*s)++r1.toList.drop (0+(m+1)*s+(cells.drop (m*s)).length)).take ((nn+1)*s)=_
  rw [qf,e1,e3]
  show ((row'.toList.take (0+m*s)++vcells++row'.toList.drop (0+m*s+vcells.length)).take (m*s+s)++cells.drop (m*s)++(row'.toList.take (0+m*s)++vcells++row'.toList.drop (0+m*s+vcells.length)).drop ((nn+1)*s)).take ((nn+1)*s)=_
  rw [qf]
  rw [ho]
  exact this
 ·show (r1.toList.take (0+(m+1)*s)++cells.drop (m*s)++r1.toList.drop (0+(m+1)*s+(cells.drop (m*s)).length)).length=_
  rw [qf,e1]
  have:=g2
  rw [hrl] at this
  show ((row'.toList.take (0+m*s)++vcells++row'.toList.drop (0+m*s+vcells.length)).take (m*s+s)++cells.drop (m*s)++(row'.toList.take (0+m*s)++vcells++row'.toList.drop (0+m*s+vcells.length)).drop (m*s+s+(cells.drop (m*s)).length)).length=_
  rw [qf]; exact this
 ·show (row'.toList.take (0+m*s)++vcells++row'.toList.drop (0+m*s+vcells.length)).length=_
  rw [qf,g3,hrl]
theorem row_shift {row:Array Value} {cells vcells:List Value} {nn m s c:Nat} (hm:m≤nn) (hcl:cells.length=nn*s) (hvl:vcells.length=1*s) (h6:row.toList.take (nn*s)=cells) (hsz:row.size=c*s) (hc:nn+1≤c) :
  let r1:=(row.toList.take (0+(m+1)*s)++cells.drop (m*s)++row.toList.drop (0+(m+1)*s+(cells.drop (m*s)).length)).toArray
  let r2:=(r1.toList.take (0+m*s)++vcells++r1.toList.drop (0+m*s+vcells.length)).toArray
  r2.toList.take ((nn+1)*s)=cells.take (m*s)++vcells++cells.drop (m*s)∧r2.size=c*s∧r1.size=c*s:=by
 intro r1 r2
 have hrl:row.toList.length=c*s:=Array.length_toList.trans hsz
 have h1:m*s≤nn*s:=qg _ hm
 have h2:(nn+1)*s≤c*s:=qg _ hc
 have hyl:(cells.drop (m*s)).length=nn*s-m*s:=by rw [qc,hcl]
 have e1:(m+1)*s=m*s+s:=by rw [qi,qj]
 have e2:(nn+1)*s=nn*s+s:=by rw [qi,qj]
 obtain ⟨g1,g2,g3⟩:=two2 row.toList vcells (cells.drop (m*s)) (A:=m*s) (S:=s) (by omega) (by rw [hrl]; omega)
 have e3:m*s+s+(cells.drop (m*s)).length=(nn+1)*s:=by omega
 have hr1:r1.toList=row.toList.take (m*s+s)++cells.drop (m*s)++row.toList.drop (m*s+s+(cells.drop (m*s)).length):=by
  show row.toList.take (0+(m+1)*s)++cells.drop (m*s)++row.toList.drop (0+(m+1)*s+(cells.drop (m*s)).length)=_
  rw [qf,e1]
 refine ⟨?_,?_,?_⟩
 ·show (r1.toList.take (0+m*s)++vcells++r1.toList.drop (0+m*s+vcells.length)).take ((nn+1)*s)=_
  rw [hr1,qf,←take_cells h6 hm,←e3]
  exact g1
 ·show (r1.toList.take (0+m*s)++vcells++r1.toList.drop (0+m*s+vcells.length)).length=_
  rw [hr1,qf]
  have:=g2
  rw [hrl] at this
  exact this
 ·show r1.toList.length=_
  rw [hr1,←hrl]; exact g3
end
end Go.Gx
