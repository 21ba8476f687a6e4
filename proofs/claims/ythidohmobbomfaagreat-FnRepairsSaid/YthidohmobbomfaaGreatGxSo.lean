/- Sorting and compacting lists of integers by the kit's contracts. Conditions: each says them. -/
import Derived.Test.YthidohmobbomfaaGreatGxSq
import Derived.Shelf.Sort.Plain
import Derived.Shelf.Slices.In.SortNone
import Derived.Shelf.Slices.CompactI
import Derived.Sort.OwnSortedInts
set_option linter.unusedVariables false
set_option linter.unusedSimpArgs false
namespace Go.Gx
open Go.RowKit Go.Proofs Go.Shelf Go.Sort
theorem elems_int {m:Bool} {w:World}:∀{l:List Int} {cs:List Value} {F:List Nat},elems m w cs l F→cs=l.map (Value.int .i64)∧F=[]
 | [],_,_,⟨h,h'⟩=>⟨h,h'⟩
 | a::l,_,_,⟨c,cs',F1,F2,rfl,rfl,⟨h1,h2⟩,h3⟩=>by
  obtain ⟨h4,h5⟩:=elems_int h3
  rw [h1,h2,h4,h5]; exact ⟨rfl,rfl⟩
theorem int_elems {m:Bool} {w:World}:∀l:List Int,elems m w (l.map (Value.int .i64)) l []
 | []=>⟨rfl,rfl⟩
 | a::l=>⟨[.int .i64 a],l.map (Value.int .i64),[],[],rfl,rfl,⟨rfl,rfl⟩,int_elems l⟩
theorem ints_val {w:World} {b n c:Nat} {row:Array Value} {T:TypeId} {zs:List Int} (h:w.heap[b]?=some (.cells row T (0,0))) (hn:zs.length=n) (hc:n≤c) (hm:c≤maxLen) (hr:row.size=c) (ht:row.toList.take n=zs.map (Value.int .i64)) :
  Val true w (.slice (some ⟨b,0,none⟩) n c) zs [b]:=by
 subst hn
 exact ⟨[_],rfl,some ⟨b,0,none⟩,c,rfl,hc,hm,.inr (.inr ⟨b,0,row,T,(0,0),_,[],rfl,h,rfl,int_elems zs,by rw [List.drop_zero,show zs.length*Rep.sz Int=zs.length from Nat.mul_one _]; exact ht,fun _=>⟨rfl,rfl,by rw [hr]; exact (Nat.mul_one c).symm⟩⟩)⟩
theorem ints_open {w:World} {v:Value} {zs:List Int} {F:List Nat} (h:Val true w v zs F):(v=.slice none 0 0∧zs=[]∧F=[]) ∨
  ∃b c row T,v=.slice (some ⟨b,0,none⟩) zs.length c∧zs.length≤c∧c≤maxLen∧F=[b]∧w.heap[b]?=some (.cells row T (0,0))∧row.size=c∧row.toList.take zs.length=zs.map (Value.int .i64):=by
 obtain ⟨cs,rfl,p,cap,rfl,hc1,hc2,h3⟩:=h
 rcases h3 with ⟨rfl,rfl,rfl,rfl⟩ | h3 | ⟨b,off,row,T,fz,cells,Fe,rfl,h4,rfl,h5,h6,h7⟩
 ·exact .inl ⟨rfl,rfl,rfl⟩
 ·exact absurd h3.1 (by simp)
 ·obtain ⟨rfl,rfl,hr⟩:=h7 rfl
  obtain ⟨h8,rfl⟩:=elems_int h5
  subst h8
  rw [List.drop_zero,show zs.length*Rep.sz Int=zs.length from Nat.mul_one _] at h6
  exact .inr ⟨b,cap,row,T,rfl,hc1,hc2,rfl,h4,by rw [hr]; exact Nat.mul_one cap,h6⟩
theorem ints_holds {w:World} {b:Nat} {row:Array Value} {T:TypeId} {zs:List Int} (h:w.heap[b]?=some (.cells row T (0,0))) (ht:row.toList.take zs.length=zs.map (Value.int .i64)):Holds (Value.int .i64) w b 0 zs.toArray:=by
 intro j hj
 have hj':j<zs.length:=by simpa using hj
 refine ⟨?_,by simp [World.frozen?,h]⟩
 have e:=cell_row (off:=0) (k:=zs.length) (j:=j) (v:=.int .i64 zs[j]) h (by rw [List.drop_zero,ht,List.getElem?_map,List.getElem?_eq_getElem hj']; rfl)
 rw [e]
 congr 2
 simp [hj']
theorem put_heap {w:World} {b:Nat} {row:Array Value} {T:TypeId} {fz:Nat × Nat} {f:Array Value→Array Value} (h:w.heap[b]?=some (.cells row T fz)):(mapBlock w b f).heap[b]?=some (.cells (f row) T fz):=by
 simp [mapBlock,Array.getElem?_modify,h,onCells]
theorem put_size {off:Nat} {d:Array Int} {c:Array Value}:(putCells (Value.int .i64) off d c).size=c.size:=by simp [putCells]
theorem ctx_one {w0 w':World} {b:Nat} {v:Value} {zs:List Int} (hk:Keep [b] w0 w') (hv:Val true w' v zs [b]):Ctx [b] w0 w' [Item.own v zs] :=
 ⟨hk,[[b]],⟨[b],[],rfl,hv,rfl⟩,by simp,by simp⟩
section
variable {P:Program} {ρ:Shelf.Ren}
theorem sort_calls (L:Lays.n189 P ρ) {w0:World} {Fs:List (List Nat)} (a1:List Int) (u1:Value) (hH:Hold [Item.own u1 (a1:List Int)] w0 Fs) (hn:Fs.flatten.Nodup) (rr:List Int) (hF:sortI a1=some rr) :
  Calls P (ρ.f 189) [u1].toArray w0 fun e w'=>∃v,e=.returned v∧v=(.tuple #[])∧Ctx Fs.flatten w0 w' [Item.own u1 (rr:List Int)]:=by
 unfold sortI at hF
 split at hF
 ·rename_i hl
  obtain rfl:=Option.some.inj hF
  obtain ⟨F,Fs',rfl,hA,rfl⟩:=hH
  rcases ints_open hA with ⟨rfl,rfl,rfl⟩ | ⟨b,c,row,T,rfl,hc,hm,rfl,hh,hr,ht⟩
  ·refine (Any.slices_Sort_int_none L none 0 w0).mono ?_
   rintro e w' ⟨rfl,rfl⟩
   exact ⟨_,rfl,rfl,Keep.refl _ _,[[]],⟨[],[],rfl,by show Val true w' _ (([]:List Int).mergeSort _) _; rw [List.mergeSort_nil]; exact nil_val,rfl⟩,by simp,by simp⟩
  ·have hb:b<w0.heap.size:=(Array.getElem?_eq_some_iff.1 hh).1
   refine (Any.slices_Sort_int L b 0 c a1 w0 (ints_holds hh ht) hb hl).mono ?_
   rintro e w' ⟨rfl,n,os,rfl⟩
   have hg:=grownBy_sortedI (w:=w0) (g:=b) (n:=n) (os:=os) ((a1.mergeSort fun x y=>decide (x≤y)).toArray)
   have hkp:Keep [b] w0 _:=⟨hg.os,hg.tape,hg.output,hg.size,fun k hk hkb=>hg.block k hk (by simpa using hkb)⟩
   have hlen:(a1.mergeSort fun x y=>decide (x≤y)).length=a1.length:=List.length_mergeSort _
   refine ⟨_,rfl,rfl,ctx_one hkp (ints_val (T:=T) (row:=putCells (Value.int .i64) 0 (a1.mergeSort fun x y=>decide (x≤y)).toArray row) ?_ hlen hc hm (by rw [put_size]; exact hr) ?_)⟩
   ·rw [heap_grow_old _ _ (by simpa [putRow,mapBlock,Sort.ahead] using hb)]
    exact put_heap (w:=Sort.ahead w0 n) hh
   ·have:=take_putCellsI row (a1.mergeSort fun x y=>decide (x≤y)) (by rw [hlen,hr]; exact hc)
    rw [hlen] at this
    exact this
 ·cases hF
theorem compact_le (zs:List Int):(Lib.compact zs).length≤zs.length:=by
 unfold Lib.compact Lib.compactUpTo
 rw [List.length_map]
 exact Nat.le_trans (List.length_filter_le _ _) (by simp)
theorem compact_calls (L:Lays2.n20 P ρ) {w0:World} {Fs:List (List Nat)} (a1:List Int) (u1:Value) (hH:Hold [Item.own u1 (a1:List Int)] w0 Fs) (hn:Fs.flatten.Nodup) (rr:List Int) (hF:compactI a1=some rr) :
  Calls P (ρ.f 20) [u1].toArray w0 fun e w'=>∃v,e=.returned v∧∃q0:Value,v=q0∧Ctx Fs.flatten w0 w' [Item.own q0 (rr:List Int)]:=by
 unfold compactI at hF
 obtain rfl:=Option.some.inj hF
 obtain ⟨F,Fs',rfl,hA,rfl⟩:=hH
 rcases ints_open hA with ⟨rfl,rfl,rfl⟩ | ⟨b,c,row,T,rfl,hc,hm,rfl,hh,hr,ht⟩
 ·refine (Any.slices_Compact_int_empty L none 0 w0).mono ?_
  rintro e w' ⟨rfl,rfl⟩
  exact ⟨_,rfl,_,rfl,Keep.refl _ _,[[]],⟨[],[],rfl,nil_val,rfl⟩,by simp,by simp⟩
 ·have hb:b<w0.heap.size:=(Array.getElem?_eq_some_iff.1 hh).1
  have hle:=compact_le a1
  refine (Any.slices_Compact_int L b 0 c a1 w0 (ints_holds hh ht) (by simp only [maxLen] at hm; omega) hc).mono ?_
  rintro e w' ⟨rfl,q,rfl⟩
  obtain ⟨zs,hz⟩:∃zs:List Int,zs=Lib.compact a1++List.replicate (a1.length-(Lib.compact a1).length) 0:=⟨_,rfl⟩
  rw [←hz]
  have hzl:zs.length=a1.length:=by rw [hz]; simp; omega
  have hkp:Keep [b] w0 (putRow (Value.int .i64) (Sort.ahead w0 q) b 0 zs.toArray):=⟨rfl,rfl,rfl,by simp [putRow,mapBlock,Sort.ahead],fun k hk hkb=>by
   have:b≠k:=fun e=>hkb (by simp [e])
   simp [putRow,mapBlock,Sort.ahead,Array.getElem?_modify,this]⟩
  refine ⟨_,rfl,_,rfl,ctx_one hkp (ints_val (T:=T) (row:=putCells (Value.int .i64) 0 zs.toArray row) (put_heap (w:=Sort.ahead w0 q) hh) rfl (by omega) hm (by rw [put_size]; exact hr) ?_)⟩
  have:=take_putCellsI row zs (by rw [hzl,hr]; exact hc)
  have e:(putCells (Value.int .i64) 0 zs.toArray row).toList.take (Lib.compact a1).length=((putCells (Value.int .i64) 0 zs.toArray row).toList.take zs.length).take (Lib.compact a1).length:=by
   rw [List.take_take]; congr 1; omega
  rw [e,this,hz,List.map_append,List.take_left' (by simp)]
end
end Go.Gx
