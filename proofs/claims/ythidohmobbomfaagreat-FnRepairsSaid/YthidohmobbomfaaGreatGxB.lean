/- How data lie in memory: a class of representations with footprints, read-only facts at an anchor, owned items. Conditions: none. -/
import Derived.Test.YthidohmobbomfaaGreatGxR
set_option linter.unusedVariables false
set_option linter.unusedSimpArgs false
namespace Go.Gx
open List renaming mem_append_right→qb,mem_append_left→qc
open Go.RowKit

structure Keep (D:List Nat) (w w':World):Prop where
 os:w'.os=w.os
 tape:w'.tape=w.tape
 output:w'.output=w.output
 size:w.heap.size≤w'.heap.size
 block:∀k,k<w.heap.size→k ∉ D→w'.heap[k]?=w.heap[k]?

theorem Keep.refl (D:List Nat) (w:World):Keep D w w:=⟨rfl,rfl,rfl,Nat.le_refl _,fun _ _ _=>rfl⟩
theorem Keep.below {w w':World} (h:Keep [] w w'):Below w.heap.size w w':=⟨h.os,h.tape,h.output,h.size,fun k hk=>h.block k hk (by simp)⟩
theorem Keep.of {w w':World} (h:Below w.heap.size w w'):Keep [] w w':=⟨h.os,h.tape,h.output,h.size,fun k hk _=>h.block k hk⟩
theorem Keep.then {D:List Nat} {w w' w'':World} (h:Keep D w w') (h':Below w'.heap.size w' w''):Keep D w w'' :=
 ⟨h'.os.trans h.os,h'.tape.trans h.tape,h'.output.trans h.output,Nat.le_trans h.size h'.size,fun k hk hd=>(h'.block k (Nat.lt_of_lt_of_le hk h.size)).trans (h.block k hk hd)⟩
theorem Keep.trans {D D':List Nat} {w w' w'':World} (h:Keep D w w') (h':Keep D' w' w'') (hd:∀b∈D',w.heap.size≤b∨b∈D):Keep D w w'' :=
 ⟨h'.os.trans h.os,h'.tape.trans h.tape,h'.output.trans h.output,Nat.le_trans h.size h'.size,fun k hk hk' =>
  (h'.block k (Nat.lt_of_lt_of_le hk h.size) (fun hm=>by rcases hd k hm with h1 | h1; omega; exact hk' h1)).trans (h.block k hk hk')⟩
class Rep (α:Type) where
 sz:Nat
 agg:Bool
 rep:Bool→World→List Value→α→List Nat→Prop
 len:∀{m w cs a F},rep m w cs a F→cs.length=sz
 one:∀{m w cs a F},rep m w cs a F→∀v∈cs,v.oneCell'=true
 one1:agg=false→sz=1
 frame:∀{m w w' cs a F},rep m w cs a F→(∀b∈F,w'.heap[b]?=w.heap[b]?)→rep m w' cs a F
 inh:∀{m w cs a F},rep m w cs a F→∀b∈F,b<w.heap.size
 weak:∀{w cs a F},rep true w cs a F→rep false w cs a F

theorem cells_one {c:Value} (h:c.oneCell'=true):c.cells=#[c]:=by cases c <;> first | rfl | (simp [Value.oneCell'] at h)

def mkv (agg:Bool) (cs:List Value):Value:=if agg then .agg cs.toArray else cs.headD undef

section
variable {α β:Type} [Rep α] [Rep β]

def Val (m:Bool) (w:World) (v:Value) (a:α) (F:List Nat):Prop:=∃cs,v=mkv (Rep.agg α) cs∧Rep.rep m w cs a F

theorem mkv_cells {m:Bool} {w:World} {cs:List Value} {a:α} {F:List Nat} (h:Rep.rep m w cs a F):(mkv (Rep.agg α) cs).cells.toList=cs:=by
 unfold mkv
 cases hg:Rep.agg α with
 | true=>simp [Value.cells]
 | false =>
  have h1:=Rep.one1 (α:=α) hg
  have h2:=Rep.len h
  match cs,h2 with
  | [c],_=>simp [cells_one (Rep.one h c (by simp))]
  | [],h2=>rw [h1] at h2; simp at h2
  | _::_::_,h2=>rw [h1] at h2; simp at h2

theorem Val.cells {m:Bool} {w:World} {v:Value} {a:α} {F:List Nat} (h:Val m w v a F):Rep.rep m w v.cells.toList a F:=by
 obtain ⟨cs,rfl,h⟩:=h
 rw [mkv_cells h]; exact h
theorem Val.frame {m:Bool} {w w':World} {v:Value} {a:α} {F:List Nat} (h:Val m w v a F) (hf:∀b∈F,w'.heap[b]?=w.heap[b]?):Val m w' v a F:=by
 obtain ⟨cs,rfl,h⟩:=h
 exact ⟨cs,rfl,Rep.frame h hf⟩
theorem Val.inh {m:Bool} {w:World} {v:Value} {a:α} {F:List Nat} (h:Val m w v a F):∀b∈F,b<w.heap.size:=by
 obtain ⟨cs,rfl,h⟩:=h
 exact Rep.inh h
theorem Val.weak {w:World} {v:Value} {a:α} {F:List Nat} (h:Val true w v a F):Val false w v a F:=by
 obtain ⟨cs,rfl,h⟩:=h
 exact ⟨cs,rfl,Rep.weak h⟩

instance:Rep Int where
 sz:=1
 agg:=false
 rep _ _ cs n F:=cs=[.int .i64 n]∧F=[]
 len h:=by rw [h.1]; rfl
 one h v hv:=by rw [h.1] at hv; simp at hv; subst hv; rfl
 one1 _:=rfl
 frame h _:=h
 inh h b hb:=by rw [h.2] at hb; cases hb
 weak h:=h
instance:Rep Bool where
 sz:=1
 agg:=false
 rep _ _ cs n F:=cs=[.bool n]∧F=[]
 len h:=by rw [h.1]; rfl
 one h v hv:=by rw [h.1] at hv; simp at hv; subst hv; rfl
 one1 _:=rfl
 frame h _:=h
 inh h b hb:=by rw [h.2] at hb; cases hb
 weak h:=h
instance:Rep UInt8 where
 sz:=1
 agg:=false
 rep _ _ cs n F:=cs=[.int .u8 n.toNat]∧F=[]
 len h:=by rw [h.1]; rfl
 one h v hv:=by rw [h.1] at hv; simp at hv; subst hv; rfl
 one1 _:=rfl
 frame h _:=h
 inh h b hb:=by rw [h.2] at hb; cases hb
 weak h:=h
def Str:Type:=List UInt8
def sv (s:Str):Value:=.string ⟨List.toArray s⟩
instance:Rep Str where
 sz:=1
 agg:=false
 rep _ _ cs s F:=cs=[sv s]∧F=[]
 len h:=by rw [h.1]; rfl
 one h v hv:=by rw [h.1] at hv; simp at hv; subst hv; rfl
 one1 _:=rfl
 frame h _:=h
 inh h b hb:=by rw [h.2] at hb; cases hb
 weak h:=h
instance:Rep Unit where
 sz:=0
 agg:=true
 rep _ _ cs _ F:=cs=[]∧F=[]
 len h:=by rw [h.1]; rfl
 one h v hv:=by rw [h.1] at hv; cases hv
 one1 h:=by cases h
 frame h _:=h
 inh h b hb:=by rw [h.2] at hb; cases hb
 weak h:=h
instance:Rep (α × β) where
 sz:=Rep.sz α+Rep.sz β
 agg:=true
 rep m w cs a F:=∃c1 c2 F1 F2,cs=c1++c2∧F=F1++F2∧Rep.rep m w c1 a.1 F1∧Rep.rep m w c2 a.2 F2
 len h:=by obtain ⟨c1,c2,F1,F2,rfl,rfl,h1,h2⟩:=h; simp [Rep.len h1,Rep.len h2]
 one h v hv:=by
  obtain ⟨c1,c2,F1,F2,rfl,rfl,h1,h2⟩:=h
  rcases List.mem_append.1 hv with h | h
  ·exact Rep.one h1 v h
  ·exact Rep.one h2 v h
 one1 h:=by cases h
 frame h hf:=by
  obtain ⟨c1,c2,F1,F2,rfl,rfl,h1,h2⟩:=h
  exact ⟨c1,c2,F1,F2,rfl,rfl,Rep.frame h1 fun b hb=>hf b (qc _ hb),Rep.frame h2 fun b hb=>hf b (qb _ hb)⟩
 inh h b hb:=by
  obtain ⟨c1,c2,F1,F2,rfl,rfl,h1,h2⟩:=h
  rcases List.mem_append.1 hb with h | h
  ·exact Rep.inh h1 b h
  ·exact Rep.inh h2 b h
 weak h:=by
  obtain ⟨c1,c2,F1,F2,rfl,rfl,h1,h2⟩:=h
  exact ⟨c1,c2,F1,F2,rfl,rfl,Rep.weak h1,Rep.weak h2⟩

def elems (m:Bool) (w:World):List Value→List α→List Nat→Prop
 | cs,[],F=>cs=[]∧F=[]
 | cs,a::l,F=>∃c cs' F1 F2,cs=c++cs'∧F=F1++F2∧Rep.rep m w c a F1∧elems m w cs' l F2

theorem elems_len {m:Bool} {w:World}:∀{l:List α} {cs:List Value} {F:List Nat},elems m w cs l F→cs.length=l.length*Rep.sz α
 | [],_,_,⟨rfl,_⟩=>by simp
 | a::l,_,_,⟨c,cs',F1,F2,rfl,rfl,h1,h2⟩=>by
  rw [List.length_append,Rep.len h1,elems_len h2,List.length_cons,Nat.add_mul]; omega
theorem elems_one {m:Bool} {w:World}:∀{l:List α} {cs:List Value} {F:List Nat},elems m w cs l F→∀v∈cs,v.oneCell'=true
 | [],_,_,⟨rfl,_⟩,v,hv=>by cases hv
 | a::l,_,_,⟨c,cs',F1,F2,rfl,rfl,h1,h2⟩,v,hv=>by
  rcases List.mem_append.1 hv with h | h
  ·exact Rep.one h1 v h
  ·exact elems_one h2 v h
theorem elems_frame {m:Bool} {w w':World}:∀{l:List α} {cs:List Value} {F:List Nat},elems m w cs l F→(∀b∈F,w'.heap[b]?=w.heap[b]?)→elems m w' cs l F
 | [],_,_,h,_=>h
 | a::l,_,_,⟨c,cs',F1,F2,rfl,rfl,h1,h2⟩,hf =>
  ⟨c,cs',F1,F2,rfl,rfl,Rep.frame h1 fun b hb=>hf b (qc _ hb),elems_frame h2 fun b hb=>hf b (qb _ hb)⟩
theorem elems_inh {m:Bool} {w:World}:∀{l:List α} {cs:List Value} {F:List Nat},elems m w cs l F→∀b∈F,b<w.heap.size
 | [],_,_,⟨_,rfl⟩,b,hb=>by cases hb
 | a::l,_,_,⟨c,cs',F1,F2,rfl,rfl,h1,h2⟩,b,hb=>by
  rcases List.mem_append.1 hb with h | h
  ·exact Rep.inh h1 b h
  ·exact elems_inh h2 b h
theorem elems_weak {w:World}:∀{l:List α} {cs:List Value} {F:List Nat},elems true w cs l F→elems false w cs l F
 | [],_,_,h=>h
 | a::l,_,_,⟨c,cs',F1,F2,rfl,rfl,h1,h2⟩=>⟨c,cs',F1,F2,rfl,rfl,Rep.weak h1,elems_weak h2⟩
theorem elems_append {m:Bool} {w:World}:∀{l l':List α} {cs cs':List Value} {F F':List Nat},elems m w cs l F→elems m w cs' l' F'→elems m w (cs++cs') (l++l') (F++F')
 | [],l',_,cs',_,F',⟨rfl,rfl⟩,h'=>by simpa using h'
 | a::l,l',_,cs',_,F',⟨c,cs'',F1,F2,rfl,rfl,h1,h2⟩,h' =>
  ⟨c,cs''++cs',F1,F2++F',by simp,by simp,h1,elems_append h2 h'⟩
theorem elems_get {m:Bool} {w:World}:∀{l:List α} {cs:List Value} {F:List Nat},elems m w cs l F→∀{i:Nat} {a:α},l[i]?=some a →
  ∃F1,Rep.rep m w ((cs.drop (i*Rep.sz α)).take (Rep.sz α)) a F1∧∀b∈F1,b∈F
 | [],_,_,_,i,a,h=>by simp at h
 | x::l,_,_,⟨c,cs',F1,F2,rfl,rfl,h1,h2⟩,i,a,h=>by
  cases i with
  | zero =>
   simp at h; subst h
   refine ⟨F1,?_,fun b hb=>qc _ hb⟩
   rw [Nat.zero_mul,List.drop_zero,List.take_append_of_le_length (by rw [Rep.len h1]; exact Nat.le_refl _),←Rep.len h1,List.take_length]
   exact h1
  | succ i =>
   obtain ⟨F3,h3,h4⟩:=elems_get h2 (i:=i) (a:=a) (by simpa using h)
   refine ⟨F3,?_,fun b hb=>qb _ (h4 b hb)⟩
   have hl:=Rep.len h1
   rw [Nat.add_mul,Nat.one_mul,Nat.add_comm,←List.drop_drop]
   rw [show (c++cs').drop (Rep.sz α)=cs' from by rw [←hl]; exact List.drop_left]
   exact h3
theorem elems_drop {m:Bool} {w:World}:∀{l:List α} {cs:List Value} {F:List Nat},elems m w cs l F→∀k,k≤l.length→∃F1,elems m w (cs.drop (k*Rep.sz α)) (l.drop k) F1∧∀b∈F1,b∈F
 | l,cs,F,h,0,_=>⟨F,by simpa using h,fun _ h=>h⟩
 | [],_,_,h,k+1,hk=>by simp at hk
 | x::l,_,_,⟨c,cs',F1,F2,rfl,rfl,h1,h2⟩,k+1,hk=>by
  obtain ⟨F3,h3,h4⟩:=elems_drop h2 k (by simpa using hk)
  refine ⟨F3,?_,fun b hb=>qb _ (h4 b hb)⟩
  have hl:=Rep.len h1
  rw [Nat.add_mul,Nat.one_mul,Nat.add_comm,←List.drop_drop]
  rw [show (c++cs').drop (Rep.sz α)=cs' from by rw [←hl]; exact List.drop_left]
  exact h3
theorem elems_take {m:Bool} {w:World}:∀{l:List α} {cs:List Value} {F:List Nat},elems m w cs l F→∀k,k≤l.length→∃F1,elems m w (cs.take (k*Rep.sz α)) (l.take k) F1∧∀b∈F1,b∈F
 | l,cs,F,h,0,_=>⟨[],by simp [elems],fun _ h=>by cases h⟩
 | [],_,_,h,k+1,hk=>by simp at hk
 | x::l,_,_,⟨c,cs',F1,F2,rfl,rfl,h1,h2⟩,k+1,hk=>by
  obtain ⟨F3,h3,h4⟩:=elems_take h2 k (by simpa using hk)
  have hl:=Rep.len h1
  refine ⟨F1++F3,⟨c,_,F1,F3,?_,rfl,h1,h3⟩,fun b hb=>?_⟩
  ·rw [Nat.add_mul,Nat.one_mul,Nat.add_comm,List.take_append,hl]
   rw [List.take_of_length_le (by omega)]
   congr 2; omega
  ·rcases List.mem_append.1 hb with h | h
   ·exact qc _ h
   ·exact qb _ (h4 b h)

def sliceRep (m:Bool) (w:World) (cs:List Value) (l:List α) (F:List Nat):Prop :=
 ∃p cap,cs=[.slice p l.length cap]∧l.length≤cap∧cap≤maxLen ∧
  ((p=none∧cap=0∧l=[]∧F=[])∨(m=false∧l=[]∧F=[]∧(p=none→cap=0)) ∨
   ∃b off row T fz cells Fe,p=some ⟨b,off,none⟩∧w.heap[b]?=some (.cells row T fz)∧F=b::Fe∧elems m w cells l Fe ∧
    (row.toList.drop off).take (l.length*Rep.sz α)=cells∧(m=true→off=0∧fz=(0,0)∧row.size=cap*Rep.sz α))

instance:Rep (List α) where
 sz:=1
 agg:=false
 rep:=sliceRep
 len h:=by obtain ⟨p,cap,rfl,_⟩:=h; rfl
 one h v hv:=by obtain ⟨p,cap,rfl,_⟩:=h; simp at hv; subst hv; rfl
 one1 _:=rfl
 frame h hf:=by
  obtain ⟨p,cap,rfl,h1,h2,h3⟩:=h
  refine ⟨p,cap,rfl,h1,h2,?_⟩
  rcases h3 with h3 | h3 | ⟨b,off,row,T,fz,cells,Fe,rfl,h4,rfl,h5,h6,h7⟩
  ·exact .inl h3
  ·exact .inr (.inl h3)
  ·exact .inr (.inr ⟨b,off,row,T,fz,cells,Fe,rfl,by rw [hf b (by simp)]; exact h4,rfl,elems_frame h5 fun b' hb=>hf b' (List.mem_cons_of_mem _ hb),h6,h7⟩)
 inh h b' hb:=by
  obtain ⟨p,cap,rfl,h1,h2,h3⟩:=h
  rcases h3 with ⟨_,_,_,rfl⟩ | ⟨_,_,rfl,_⟩ | ⟨b,off,row,T,fz,cells,Fe,rfl,h4,rfl,h5,h6,h7⟩
  ·cases hb
  ·cases hb
  ·rcases List.mem_cons.1 hb with rfl | hb
   ·exact (Array.getElem?_eq_some_iff.1 h4).1
   ·exact elems_inh h5 b' hb
 weak h:=by
  obtain ⟨p,cap,rfl,h1,h2,h3⟩:=h
  refine ⟨p,cap,rfl,h1,h2,?_⟩
  rcases h3 with h3 | h3 | ⟨b,off,row,T,fz,cells,Fe,rfl,h4,rfl,h5,h6,h7⟩
  ·exact .inl h3
  ·exact absurd h3.1 (by simp)
  ·exact .inr (.inr ⟨b,off,row,T,fz,cells,Fe,rfl,h4,rfl,elems_weak h5,h6,by simp⟩)
end
end Go.Gx
