/- Owned data lent to a call; elements of owned slices opened and closed again. Conditions: none. -/
import Derived.Test.YthidohmobbomfaaGreatGxK
set_option linter.unusedVariables false
set_option linter.unusedSimpArgs false
namespace Go.Gx
open List renaming append_assoc→qb
open Go.RowKit
section
variable {α β:Type} [Rep α] [Rep β] {P:Program} {w w0 w':World} {t e:TypeId}
variable {n:Nat} {l:Env} {ops:Array Oper} {K:Env→World→Prop} {os:List Oper} {d:Nat} {T U:TypeId} {pos:String} {aft:Array Edge} {x y z:Operand} {v u c xv:Value} {D:List Nat} {As Bs:List Item}

theorem Ctx.startIn {Fs:List (List Nat)} (h:Hold Bs w Fs) (hn:Fs.flatten.Nodup):Ctx Fs.flatten w w Bs :=
 ⟨Keep.refl _ _,Fs,h,hn,fun b hb=>.inr hb⟩
theorem Hold.parted:∀{Bs As:List Item} {w:World} {Hs:List (List Nat)},Hold (Bs++As) w Hs→∃Fs Gs,Hs=Fs++Gs∧Hold Bs w Fs∧Hold As w Gs
 | [],As,w,Hs,h=>⟨[],Hs,rfl,rfl,h⟩
 | B::Bs,As,w,_,⟨F,Fs',rfl,h1,h2⟩=>by
  obtain ⟨Fs,Gs,rfl,h3,h4⟩:=h2.parted
  exact ⟨F::Fs,Gs,rfl,⟨F,Fs,rfl,h1,h3⟩,h4⟩
theorem elems_part {m:Bool} {w:World}:∀{l:List α} {cs:List Value} {F:List Nat},elems m w cs l F→∀{i:Nat} {a:α},l[i]?=some a →
  ∃c1 c c2 F1 F2 F3,cs=c1++(c++c2)∧F=F1++(F2++F3)∧elems m w c1 (l.take i) F1∧Rep.rep m w c a F2∧elems m w c2 (l.drop (i+1)) F3
 | [],_,_,_,i,a,h=>by simp at h
 | x::l,_,_,⟨c,cs',F1,F2,rfl,rfl,h1,h2⟩,i,a,h=>by
  cases i with
  | zero=>simp at h; subst h; exact ⟨[],c,cs',[],F1,F2,rfl,rfl,⟨rfl,rfl⟩,h1,h2⟩
  | succ i =>
   obtain ⟨d1,d,d2,G1,G2,G3,rfl,rfl,g1,g2,g3⟩:=elems_part h2 (i:=i) (by simpa using h)
   exact ⟨c++d1,d,d2,F1++G1,G2,G3,by simp,by simp,⟨c,d1,F1,G1,rfl,rfl,h1,g1⟩,g2,g3⟩
def Item.hole (v:Value) (as:List α) (i:Nat) (cs:List Value):Item :=
 ⟨fun w F=>∃b cap row T c1 c2 F1 F2,v=.slice (some ⟨b,0,none⟩) as.length cap∧w.heap[b]?=some (.cells row T (0,0))∧F=b::(F1++F2)∧elems true w c1 (as.take i) F1∧elems true w c2 (as.drop (i+1)) F2∧i<as.length ∧
   row.toList.take (as.length*Rep.sz α)=c1++(cs++c2)∧row.size=cap*Rep.sz α∧as.length≤cap∧cap≤maxLen,
  fun ⟨b,cap,row,T,c1,c2,F1,F2,h1,h2,h3,h4,h5,h6⟩ hf=>⟨b,cap,row,T,c1,c2,F1,F2,h1,by rw [hf b (by simp [h3])]; exact h2,h3,elems_frame h4 fun c hc=>hf c (by simp [h3,hc]),elems_frame h5 fun c hc=>hf c (by simp [h3,hc]),h6⟩,
  fun ⟨b,cap,row,T,c1,c2,F1,F2,h1,h2,h3,h4,h5,h6⟩ c hc=>by
   subst h3
   rcases List.mem_cons.1 hc with rfl | hc
   ·exact (Array.getElem?_eq_some_iff.1 h2).1
   ·rcases List.mem_append.1 hc with hc | hc
    ·exact elems_inh h4 c hc
    ·exact elems_inh h5 c hc⟩
theorem Ctx.openElem {as:List α} {i:Int} {a:α} (h:Ctx D w0 w (Item.own v as::As)) (hi:idx as i=some a):∃cs,Ctx D w0 w (Item.cells cs a::Item.hole v as i.toNat cs::As):=by
 obtain ⟨k,_,⟨F,Fs,rfl,hA,hH⟩,h2,h3⟩:=h
 obtain ⟨h0,hlt,hg⟩:=idx_some hi
 rcases own_slice hA with ⟨_,rfl,_⟩ | ⟨b,cap,row,T,cells,Fe,rfl,h4,rfl,h5,h6,h8,h9,h10⟩
 ·simp at hlt
 ·obtain ⟨c1,c,c2,F1,F2,F3,rfl,rfl,g1,g2,g3⟩:=elems_part h5 hg
  have hp:(F2++((b::(F1++F3))++Fs.flatten)).Perm ((b::(F1++(F2++F3)))++Fs.flatten):=by
   have e1:(F2++(b::(F1++F3))).Perm (b::(F1++(F2++F3))):=by
    refine List.perm_middle.trans (List.Perm.cons b ?_)
    rw [←qb,←qb]
    exact List.perm_append_comm.append_right F3
   rw [←qb]
   exact e1.append_right _
  refine ⟨c,k,F2::(b::(F1++F3))::Fs,⟨F2,_,rfl,g2,_,Fs,rfl,⟨b,cap,row,T,c1,c2,F1,F3,rfl,h4,rfl,g1,g3,hlt,h6,h8,h9,h10⟩,hH⟩,?_,fun x hx=>h3 x ?_⟩
  ·simp only [List.flatten_cons] at h2 ⊢
   exact hp.nodup_iff.2 h2
  ·simp only [List.flatten_cons] at hx ⊢
   exact hp.mem_iff.1 hx
theorem WL_load_hole {t:TypeId} {as:List α} {i b off fo:Nat} {cs:List Value} (hC:Ctx D w0 w As) (k:Nat) (hk:As[k]?=some (Item.hole v as i cs)) (hb:EB v b) (hc:cs[fo]?=some c) (ho:off=i*Rep.sz α+fo) (hT:∀w,(isAgg t).run P w=.ok false w) (hd:Nat.blt d n=true) (hx:ev l x=some (ptr b off))
  (h:WL P n ops K os ((d,c)::l) w):WL P n ops K (⟨some d,.load t x,T,pos,aft,none⟩::os) l w:=by
 subst ho
 obtain ⟨F,b',cap,row,T',c1,c2,F1,F2,hv,h2,h3,h4,h5,h6,h7,h8⟩:=hC.get hk
 obtain ⟨len,cap',rfl⟩:=hb
 simp only [Value.slice.injEq,Option.some.injEq,Addr.mk.injEq] at hv
 obtain ⟨⟨rfl,_⟩,rfl,rfl⟩:=hv
 have hl1:c1.length=i*Rep.sz α:=by rw [elems_len h4,List.length_take,Nat.min_eq_left (by omega)]
 have hcell:row.toList[i*Rep.sz α+fo]?=some c:=by
  have hfo:fo<cs.length:=(List.getElem?_eq_some_iff.1 hc).1
  have e:(row.toList.take (as.length*Rep.sz α))[i*Rep.sz α+fo]?=some c:=by
   rw [h7,←hl1,List.getElem?_append_right (by omega),Nat.add_sub_cancel_left,List.getElem?_append_left hfo,hc]
  rw [List.getElem?_take] at e
  split at e
  ·exact e
  ·cases e
 have h9:w.cell? ⟨b,i*Rep.sz α+fo,none⟩=some c:=by simp only [World.cell?,h2]; simpa using hcell
 refine WL_val rfl rfl hd (fun ρ hρ=>?_) h
 simp [execOp,hρ x _ hx,Instr.loadAt,Instr.sureAddr,loadVar,hT,h9]
end
end Go.Gx
