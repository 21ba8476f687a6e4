/- Operations of a region that draws, in whatever order, some of which may still wait when the others are done. Conditions: none. -/
import Derived.Test.YthidohmobbomfaaGreatGxW
set_option linter.unusedVariables false
set_option linter.unusedSimpArgs false
namespace Go.Gx
open List renaming mem_cons_of_mem→qb,mem_append→qc,flatten_cons→qd
open Go.RowKit
def subsL:List Nat→List (List Nat)
 | []=>[[]]
 | a::l=>subsL l++(subsL l).map (a::·)
theorem mem_subsL:∀{r l:List Nat},r.Sublist l→r∈subsL l
 | _,_,.slnil=>by simp [subsL]
 | _,_,.cons a h=>by simp only [subsL,qc]; exact .inl (mem_subsL h)
 | _,_,.cons_cons a h=>by simp only [subsL,qc,List.mem_map]; exact .inr ⟨_,mem_subsL h,rfl⟩
def RestL (R:List Nat→Prop):List (List Nat)→Prop
 | []=>True
 | r::rs=>R r∧RestL R rs
theorem restL {R:List Nat→Prop}:∀{rs:List (List Nat)},RestL R rs→∀{r:List Nat},r∈rs→R r
 | r'::rs,h,r,hr=>by
  rcases List.mem_cons.1 hr with rfl | hr
  ·exact h.1
  ·exact restL h.2 hr
def dnE (X:List XE) (rem:List Nat):List XE:=X.filter fun e=>!mem e.i rem
def xOutM (os:List Oper) (ms:List Nat) (listed:Array Bool) (ids mand:List Nat):Nat→Nat→Bool
 | _,0=>true
 | k,f+1=>(listed.getD k false || mem k ids || mand.all fun i=>(ms.getD k 0).testBit i)&&xOutM os ms listed ids mand (k+1) f
theorem xOutM_spec (os:List Oper) (ms:List Nat) (listed:Array Bool) (ids mand:List Nat):∀(f k:Nat),xOutM os ms listed ids mand k f=true→∀j,k≤j→j<k+f→lst listed j∨j∈ids∨∀i∈mand,(ms.getD j 0).testBit i=true
 | 0,k,_,j,h1,h2=>by omega
 | f+1,k,h,j,h1,h2=>by
  simp only [xOutM,Bool.and_eq_true,Bool.or_eq_true] at h
  by_cases e:j=k
  ·subst e
   rcases h.1 with (h3 | h3) | h3
   ·exact .inl h3
   ·exact .inr (.inl (mem_iff.1 h3))
   ·exact .inr (.inr (List.all_eq_true.1 h3))
  ·exact xOutM_spec os ms listed ids mand f (k+1) h.2 j (by omega) (by omega)
def oOk (os:List Oper) (l:Env) (listed:Array Bool) (X:List XE) (uses:List (List Nat)) (opt:List Nat):Bool :=
 xFree listed (idsE X) []&&xDsts os l (idsE X) []&&xDeps os listed (idsE X) (idsE X)&&xOutM os (masks os []) listed (idsE X) ((idsE X).filter fun i=>!mem i opt) 0 os.length&&xClosed listed 0 os&&depsOk os 0 &&
 eReads os (masks os []) (idsE X) X&&eUses (masks os []) (idsE X) X uses&&eCons (masks os []) (idsE X) (consE X) X uses&&nodupB (consE X)&&(((idsE X).filter fun i=>mem i opt) == opt)
section
variable {P:Program} {n:Nat}
theorem allE_elimO {os:List Oper} {X:List XE} {w0:World} {l:Env} {G:Nat→List Nat} {S:Nat→Prop} {a:Act} {w:World} (hM:MidE n os X w0 l G S a w) {D:List XE} (hD:∀e∈D,e∈X∧S e.i) (hDX:∀e∈X,S e.i→e∈D) {K:Env→List (List Nat)→Prop} :
  ∀(X':List XE) (l':Env) (Fs:List (List Nat)) (done:List Nat),(∀x∈X',x∈D)→(idsE X').Nodup→(∀i∈idsE X',i ∉ done)→(∀i∈done,i∈idsE X∧liveE X S i)→Agr n l' a →
   (Fs.flatten).Nodup→(∀b∈Fs.flatten,w0.heap.size≤b∧b<w.heap.size)→(∀b∈Fs.flatten,∃i∈done,b∈G i) →
   AllE os w0 w (consE D) X' l' Fs K→∃l'' Fs',Agr n l'' a∧(Fs'.flatten).Nodup∧(∀b∈Fs'.flatten,w0.heap.size≤b∧b<w.heap.size)∧K l'' Fs'
 | [],l',Fs,done,_,_,_,_,ha,h1,h2,_,h=>⟨l',Fs,ha,h1,h2,h⟩
 | e::X',l',Fs,done,hsub,hnd,hdis,hdone,ha,h1,h2,h3,h=>by
  have hmemD:=hsub e (List.mem_cons_self ..)
  have hmem:=(hD e hmemD).1
  have hi:e.i∈idsE X:=List.mem_map.2 ⟨e,hmem,rfl⟩
  simp only [idsE,List.map_cons,List.nodup_cons] at hnd
  have hidone:e.i ∉ done:=hdis e.i (by simp [idsE])
  simp only [AllE] at h
  by_cases hc:mem e.i (consE D)=true
  ·rw [if_pos hc] at h
   exact allE_elimO hM hD hDX X' l' Fs done (fun x hx=>hsub x (qb _ hx)) hnd.2 (fun i hi'=>hdis i (by simp only [idsE,List.map_cons]; exact qb _ hi')) hdone ha h1 h2 h3 h
  ·rw [if_neg hc] at h
   have hlive:liveE X S e.i:=⟨(hD e hmemD).2,fun e' he' hcs hS=>absurd (mem_iff.2 (List.mem_flatMap.2 ⟨e',hDX e' he' hS,hcs⟩)) hc⟩
   obtain ⟨o,d,g1,g2,g3,g4,g5⟩:=hM.posts e hmem hlive
   simp only [dstOf,g1,Option.bind_some,g2] at h
   cases hl:looks l' e.rs with
   | none=>rw [hl] at h; exact h.elim
   | some vs =>
    rw [hl] at h
    have:=looks_agr ha hl
    rw [this] at g3
    refine allE_elimO hM hD hDX X' _ (G e.i::Fs) (e.i::done) (fun x hx=>hsub x (qb _ hx)) hnd.2 (fun j hj hjd=>?_) (fun j hj=>?_) (agr_cons ha rfl) ?_ ?_ ?_ (h _ _ g3)
    ·rcases List.mem_cons.1 hjd with rfl | hjd
     ·exact hnd.1 hj
     ·exact hdis j (by simp only [idsE,List.map_cons]; exact qb _ hj) hjd
    ·rcases List.mem_cons.1 hj with rfl | hj
     ·exact ⟨hi,hlive⟩
     ·exact hdone j hj
    ·rw [qd,List.nodup_append]
     refine ⟨g4,h1,fun b hb c hc e=>?_⟩
     subst e
     obtain ⟨k,hk,hbk⟩:=h3 b hc
     exact hM.apart _ k hi (hdone k hk).1 hlive (hdone k hk).2 (fun e=>hidone (e ▸ hk)) b hb hbk
    ·intro b hb
     rw [qd,qc] at hb
     rcases hb with hb | hb
     ·exact g5 b hb
     ·exact h2 b hb
    ·intro b hb
     rw [qd,qc] at hb
     rcases hb with hb | hb
     ·exact ⟨_,List.mem_cons_self ..,hb⟩
     ·obtain ⟨k,hk,hbk⟩:=h3 b hb
      exact ⟨k,qb _ hk,hbk⟩

theorem WA_postsO {os:List Oper} {K:Env→World→Prop} {g:Nat} {listed:Array Bool} {l:Env} {w:World} (X:List XE) (uses:List (List Nat)) (opt:List Nat) (f:Nat) (hg:X.length+f=g) (hsz:listed.size=os.length) (hchk:oOk os l listed X uses opt=true)
  (steps:StepsE P n os X w l X uses)
  (rest:RestL (fun rem=>∀g',g'=rem.length+f→∀w',Below w.heap.size w w'→AllE os w w' (consE (dnE X rem)) (dnE X rem) l [] (fun l' Fs=>(Fs.flatten).Nodup→(∀b∈Fs.flatten,w.heap.size≤b∧b<w'.heap.size)→WA P n os.toArray K g' (setX listed (idsE (dnE X rem))) l' w')) (subsL opt)) :
  WA P n os.toArray K g listed l w:=by
 subst hg
 intro a ha
 simp only [oOk,Bool.and_eq_true,beq_iff_eq] at hchk
 obtain ⟨⟨⟨⟨⟨⟨⟨⟨⟨⟨c1,c2⟩,c3⟩,c5⟩,c6⟩,c7⟩,c8⟩,c9⟩,c10⟩,c11⟩,c12⟩:=hchk
 obtain ⟨hnd,_,hun⟩:=xFree_spec listed _ _ c1
 have hclL:=xClosed_spec listed os 0 c6
 have hcn:=nodupB_spec c11
 have stop:∀(rem:List Nat) (lis:Array Bool) (a:Act) (w1:World) (G:Nat→List Nat),rem.Sublist (idsE X)→(∀i∈rem,i∈opt)→lis.size=os.length→(∀i,lst lis i↔lst listed i∨i∈idsE X∧i ∉ rem) →
   MidE n os X w l G (lst lis) a w1→∀k,k=rem.length→wpAny P .any os.toArray (fun e a w=>e=.normal∧∃l',Agr n l' a∧K l' w) (k+f) lis a w1:=by
  intro rem lis a w1 G hrs hopt hs hl hM k hk
  subst hk
  have hrem:rem∈subsL opt:=by
   refine mem_subsL ?_
   have:=hrs.filter (fun i=>mem i opt)
   rw [c12] at this
   rwa [List.filter_eq_self.2 fun i hi=>mem_iff.2 (hopt i hi)] at this
  have hdn:∀e,e∈dnE X rem↔e∈X∧e.i ∉ rem:=fun e=>by
   unfold dnE
   rw [List.mem_filter,Bool.not_eq_true',Bool.eq_false_iff]
   exact ⟨fun h=>⟨h.1,fun hm=>h.2 (mem_iff.2 hm)⟩,fun h=>⟨h.1,fun hm=>h.2 (mem_iff.1 hm)⟩⟩
  have hids:∀i,i∈idsE (dnE X rem)↔i∈idsE X∧i ∉ rem:=fun i=>by
   unfold idsE
   simp only [List.mem_map,hdn]
   exact ⟨fun ⟨e,h1,h2⟩=>⟨⟨e,h1.1,h2⟩,h2 ▸ h1.2⟩,fun ⟨⟨e,h1,h2⟩,h3⟩=>⟨e,⟨h1,h2 ▸ h3⟩,h2⟩⟩
  have hndD:(idsE (dnE X rem)).Nodup:=by
   unfold idsE dnE
   exact ((List.filter_sublist).map _).nodup hnd
  have hlive:∀e∈X,lst lis e.i→e∈dnE X rem:=fun e he hS=>(hdn e).2 ⟨he,fun hm=>by
   rcases (hl e.i).1 hS with h | h
   ·exact (hun e.i (List.mem_map.2 ⟨e,he,rfl⟩)).2 h
   ·exact h.2 hm⟩
  obtain ⟨l'',Fs',h1,h2,h3,h4⟩:=allE_elimO hM (D:=dnE X rem) (fun e he=>⟨((hdn e).1 he).1,(hl e.i).2 (.inr ⟨List.mem_map.2 ⟨e,((hdn e).1 he).1,rfl⟩,((hdn e).1 he).2⟩)⟩) hlive (dnE X rem) l [] [] (fun _ h=>h) hndD (by simp) (by simp) hM.agr (by simp) (by simp) (by simp) (restL rest hrem _ rfl w1 hM.below)
  have hset:=lst_setX (idsE (dnE X rem)) listed (fun i hi=>(hun i ((hids i).1 hi).1).1)
  have e:lis=setX listed (idsE (dnE X rem)):=by
   refine listed_ext (by rw [hset.1,hs,hsz]) fun i=>?_
   rw [hl,hset.2,hids]
   simp [or_comm]
  rw [e]
  exact h4 h2 h3 a h1
 have key:∀(rem:List Nat) (lis:Array Bool) (a:Act) (w1:World) (G:Nat→List Nat),rem.Sublist (idsE X)→lis.size=os.length→(∀i,lst lis i↔lst listed i∨i∈idsE X∧i ∉ rem) →
   (∀(i:Nat) (o:Oper),os[i]?=some o→lst lis i→∀e∈o.after,Region.binds .any e=true→lst lis e.on) →
   MidE n os X w l G (lst lis) a w1→wpAny P .any os.toArray (fun e a w=>e=.normal∧∃l',Agr n l' a∧K l' w) (rem.length+f) lis a w1:=by
  intro rem
  generalize hk:rem.length=k
  induction k generalizing rem with
  | zero =>
   intro lis a w1 G hrs hs hl hcl hM
   have hnil:rem=[]:=List.eq_nil_of_length_eq_zero hk
   subst hnil
   exact stop [] lis a w1 G hrs (by simp) hs hl hM 0 rfl
  | succ k ih =>
   intro lis a w1 G hrs hs hl hcl hM
   have hr:rem.Nodup:=hrs.nodup hnd
   have hsub:∀i∈rem,i∈idsE X:=fun i hi=>hrs.subset hi
   by_cases hopt:∀i∈rem,i∈opt
   ·exact stop rem lis a w1 G hrs hopt hs hl hM (k+1) hk.symm
   have unl:∀i∈rem,¬lst lis i:=fun i hi h=>by
    rcases (hl i).1 h with h | h
    ·exact (hun i (hsub i hi)).2 h
    ·exact h.2 hi
   have hbits:∀(i:Nat) (o:Oper),os[i]?=some o→(∀e∈o.after,Region.binds .any e=true→lst lis e.on)→∀j,((masks os []).getD i 0).testBit j=true→lst lis j:=fun i o ho hd j hj =>
    (masks_spec (lst lis) os [] (fun i _ j hj=>by simp at hj) (fun i o h hS e he hb=>hcl i o h (by simpa using hS) e he hb) (fun _=>.inr (.inr trivial)) i).1 (by simp) (by simpa using (List.getElem?_eq_some_iff.1 ho).1) o (by simpa using ho) hd j hj
   have hex:∃r,r∈rem∧r ∉ opt:=Classical.byContradiction fun h=>hopt fun i hi=>Classical.byContradiction fun ho=>h ⟨i,hi,ho⟩
   obtain ⟨r,hrr,hro⟩:=hex
   have hready:∃j,j∈Region.ready .any os.toArray lis:=by
    have go:∀j,j∈rem→∃j,j∈Region.ready .any os.toArray lis:=by
     intro j
     induction j using Nat.strongRecOn with
     | _ j ihj =>
      intro hj
      obtain ⟨o,d,ho,_⟩:=xDsts_spec os l _ _ c2 j (hsub j hj)
      by_cases hd:∀e∈o.after,Region.binds .any e=true→lst lis e.on
      ·exact ⟨j,mem_ready.2 ⟨getD_unlisted (by rw [hs]; exact (List.getElem?_eq_some_iff.1 ho).1) (unl j hj),o,by simpa using ho,hd⟩⟩
      ·have:∃e∈o.after,Region.binds .any e=true∧¬lst lis e.on:=by
        apply Classical.byContradiction
        intro h
        exact hd fun e he hb=>Classical.byContradiction fun h'=>h ⟨e,he,hb,h'⟩
       obtain ⟨e,he,hb,hn'⟩:=this
       have hlt:=depsOk_spec os 0 c7 j o ho e he hb
       rcases xDeps_spec os listed _ _ c3 j (hsub j hj) o ho e he hb with h | h
       ·exact absurd ((hl _).2 (.inl h)) hn'
       ·refine ihj e.on (by omega) ?_
        exact Classical.byContradiction fun hrem=>hn' ((hl _).2 (.inr ⟨h,hrem⟩))
    exact go r hrr
   rw [show k+1+f=(k+f)+1 by omega]
   refine ⟨fun h0=>(by obtain ⟨j,hj⟩:=hready; rw [h0] at hj; cases hj),fun i hi=>?_⟩
   obtain ⟨h1,o,ho,hd⟩:=mem_ready.1 hi
   have hu:=unlisted_getD h1
   have ho':os[i]?=some o:=by simpa using ho
   have hlt:i<os.length:=(List.getElem?_eq_some_iff.1 ho').1
   have hirem:i∈rem:=by
    rcases xOutM_spec os _ listed _ _ _ 0 c5 i (by omega) (by omega) with h | h | h
    ·exact absurd ((hl i).2 (.inl h)) hu.2
    ·exact Classical.byContradiction fun hr'=>hu.2 ((hl i).2 (.inr ⟨h,hr'⟩))
    ·exact absurd (hbits i o ho' hd r (h r (List.mem_filter.2 ⟨hsub r hrr,by rw [Bool.not_eq_true',Bool.eq_false_iff]; exact fun hm=>hro (mem_iff.1 hm)⟩))) (unl r hrr)
   have hiX:=hsub i hirem
   obtain ⟨e,hp⟩:=lookE_some hiX
   obtain ⟨heX,rfl⟩:=lookE_mem hp
   obtain ⟨q,u,hq,hu',hstep⟩:=stepsE_get X uses steps heX
   have huse:=eUses_spec c9 q e u hq hu'
   obtain ⟨hucons,hcs⟩:=eCons_spec c10 q e u hq hu'
   obtain ⟨l'',h4,o2,vs,ho2,hvs,h5⟩:=depsE_elim hM u l hM.agr (fun j hj=>⟨hbits _ o ho' hd j (huse j hj).1,fun q' hq' hc=>absurd (List.mem_flatMap.2 ⟨q',hq',hc⟩) (hucons j hj)⟩) (hstep w1 hM.below)
   obtain rfl:o=o2:=by rw [ho'] at ho2; simpa using ho2
   have hvs':=looks_agr h4 hvs
   obtain ⟨o3,d,g0,h8,h9,_,h10⟩:=xDsts_spec os l _ _ c2 e.i hiX
   obtain rfl:o=o3:=by rw [ho'] at g0; simpa using g0
   have hrd:∀q∈X,lst lis q.i∨q.i=e.i→∀t∈q.rs,∃j∈idsE X,j≠e.i∧dstOf os j=some t:=fun q' hq' hS t ht=>by
    obtain ⟨j,hj,hb,hjt⟩:=eReads_spec c8 q' hq' t ht
    have hjl:lst lis j:=by
     rcases hS with hS | hS
     ·obtain ⟨oq,_,hoq,_⟩:=xDsts_spec os l _ _ c2 q'.i (List.mem_map.2 ⟨q',hq',rfl⟩)
      exact hbits _ oq hoq (fun e he hb=>hcl _ oq hoq hS e he hb) j hb
     ·rw [hS] at hb
      exact hbits _ o ho' hd j hb
    exact ⟨j,hj,fun h=>hu.2 (h ▸ hjl),hjt⟩
   have done:∀(Fc:List Nat),((∀b∈Fc,w.heap.size≤b∧b<w1.heap.size)∧∀j∈idsE X,liveE X (lst lis) j→j ∉ e.cs→∀b∈Fc,b ∉ G j)→∀l3,Agr n l3 a→WL P n os.toArray (FinE o (e.p vs) w1 Fc) [o] l3 w1 →
     wpOp P os.toArray (fun e a w=>e=.normal∧∃l',Agr n l' a∧K l' w) e.i (wpAny P .any os.toArray (fun e a w=>e=.normal∧∃l',Agr n l' a∧K l' w) (k+f) (lis.setIfInBounds e.i true)) a w1:=by
    intro Fc hFc l3 hl3 h6
    refine wpOp_mono ?_ (wpOp_of_WL ho hl3 h6)
    rintro a' w' ⟨⟨v,hv⟩,l4,h7,h8'⟩
    rw [←hvs'] at h8'
    obtain ⟨G',hM'⟩:=hM.next hnd hu.1 hu.2 ho' heX ⟨d,h8,h9,fun j hj hji=>h10 hnd j hj hji⟩ hrd hFc hv ⟨h7.defers,h7.size,h7.look⟩ h8'
    have hlen:(rem.erase e.i).length=k:=by rw [List.length_erase_of_mem hirem,hk]; rfl
    refine ih (rem.erase e.i) hlen _ a' w' G' ((List.erase_sublist ..).trans hrs) (by simp [hs]) (fun j=>?_) (fun j oj hoj hl' e' he hb=>?_) hM'
    ·rw [lst_set hu.1,hl,hr.mem_erase_iff]
     by_cases e':j=e.i
     ·subst e'; simp [hiX]
     ·simp [e']
    ·rw [lst_set hu.1]
     rcases (lst_set hu.1).1 hl' with h | h
     ·subst h
      rw [ho'] at hoj; simp at hoj; subst hoj
      exact .inr (hd e' he hb)
     ·exact .inr (hcl j oj hoj h e' he hb)
   rcases hcs with hcs | ⟨c,hcs,hcm,hcX,hce⟩
   ·rw [hcs] at h5
    exact done [] ⟨by simp,by simp⟩ l'' h4 h5
   ·rw [hcs] at h5
    simp only at h5
    obtain ⟨ec,hec⟩:=lookE_some hcX
    obtain ⟨hecX,rfl⟩:=lookE_mem hec
    have hlive:liveE X (lst lis) ec.i:=⟨hbits _ o ho' hd _ hcm,fun q' hq' hc hS=>by
     have:=consE_uniq hcn hq' heX hc (by rw [hcs]; simp)
     subst this
     exact hu.2 hS⟩
    obtain ⟨oc,dc,k1,k2,k3,k4⟩:=hM.posts ec hecX hlive
    rw [hec] at h5
    simp only [dstOf,k1,Option.bind_some,k2] at h5
    cases hl2:looks l'' ec.rs with
    | none=>rw [hl2] at h5; exact h5.elim
    | some vc =>
     rw [hl2] at h5
     rw [looks_agr h4 hl2] at k3
     refine done (G ec.i) ⟨k4.2,fun j hj hlj hjc b hb=>hM.apart _ j hcX hj hlive hlj (fun h=>hjc (by rw [hcs,←h]; simp)) b hb⟩ _ (agr_cons h4 rfl) (h5 _ _ k3 k4)
 have hlenX:X.length=(idsE X).length:=by simp [idsE]
 rw [hlenX]
 exact key (idsE X) listed a w (fun _=>[]) (List.Sublist.refl _) hsz (fun i=>by simp) (fun i o ho hi e he hb=>hclL i o ho (by simpa using hi) e he hb)
  ⟨Below.refl _ _,ha,fun e he hS=>absurd hS.1 (hun e.i (List.mem_map.2 ⟨e,he,rfl⟩)).2,fun i j hi hj hS=>absurd hS.1 (hun i hi).2⟩
end
end Go.Gx
