/- Plain laws: the frame of the laws at each type, printed by program. Conditions: none. -/
import Derived.Test.YthidohmobbomfaaGreatPlL
set_option linter.unusedVariables false
set_option linter.unusedSimpArgs false
namespace Go.Gx.Px
open Option renaming bind_some→qb
open List renaming getElem_mem→qc,length_set→qe,drop_zero→qf,set_set→qg
open Int renaming toNat_natCast→qd
theorem eqIntS_refl (a:List Int) (h:SZ.sm a):Q.eqIntS a a=some true:=by
 have ha:=(sm_list h).1
 unfold Q.eqIntS
 rw [if_neg (by simp),eq_loop (Q.eqIntS_l1 a a) a.length (by omega) (fun k=>by rw [Q.eqIntS_l1,if_neg (by simp)]) (fun k i hi=>by
  rw [Q.eqIntS_l1,if_pos (by simpa using hi),idx_nat a hi]; simp [w64_succ (show i<4611686018427387904 by omega)])]
 rfl
theorem markIntS_eq (a:List Int) (c:Int) (h:SZ.sm a) (h0:0≤c) (hb:c+mszL a≤2305843009213693952):Q.markIntS a c=some (c+mszL a,mkL a c):=by
 have hn:=(sm_list h).1
 unfold Q.markIntS
 rw [mark_loop Q.markIntS_l1 a c (by omega) h0 hb (fun k x c=>by rw [Q.markIntS_l1,if_neg (by simp)]) (fun k x c i hi _ h1 h2 h3=>by
  rw [Q.markIntS_l1,if_pos (by simpa using hi),idx_nat x hi]
  have h3':c+1≤2305843009213693952:=h3
  simp only [qb,qd,w64_succ (show i<4611686018427387904 by omega),w64_sm (show -4611686018427387904≤c+1 by omega) (by omega)]
  rfl)]
 rfl
theorem heldIntS_eq (a:List Int) (c:Int) (h:SZ.sm a) (h0:0≤c) (hb:c+mszL a≤2305843009213693952):Q.heldIntS (mkL a c) c=some (c+mszL a):=by
 have hn:=(sm_list h).1
 unfold Q.heldIntS
 rw [held_loop (Q.heldIntS_l1 (mkL a c)) a c (by omega) h0 hb (fun k c'=>by rw [Q.heldIntS_l1,if_neg (by simp [mkL_length])]) (fun k c' i hi hx h2 h3=>by
  have h3':c'+1≤2305843009213693952:=h3
  rw [Q.heldIntS_l1,if_pos (by simpa [mkL_length] using hi),hx]
  simp only [qb,w64_succ (show i<4611686018427387904 by omega),w64_sm (show -4611686018427387904≤c'+1 by omega) (by omega)]
  rw [if_neg (by simp [MT.mq])]
  rfl)]
 rfl
theorem toIntS_id (a:List Int) (h:SZ.sm a):Q.toIntS a=some a:=by
 have ha:=(sm_list h).1
 unfold Q.toIntS mk
 rw [if_pos (by rw [LIM_eq]; omega),qb,to_loop (Q.toIntS_l1 a) a _ (by simp) (by omega) (fun k x=>by rw [Q.toIntS_l1,if_neg (by simp)]) (fun k x i hi hl=>by
  rw [Q.toIntS_l1,if_pos (by simpa using hi),idx_nat a hi,qb,idx_nat x (by omega),qb,w64_succ (by omega),qd])]
 rfl
theorem szIntS_eq (a:(List Int)) (x:Int) (h0:0≤x) (h1:x≤1048576) (hr:Rng.r a):Q.szIntS a x=some (left (SZ.sz a) x):=by
 have ha:a.length≤maxLen:=hr.1
 unfold Q.szIntS left
 rw [sz_flat (fun e=>rfl),w64_id (by simp only [maxLen] at ha; omega) (by omega)]
 by_cases h:(a.length:Int)≤x
 ·rw [if_neg (by simp; omega),if_pos h]
 ·rw [if_pos (by simp; omega),if_neg h]
theorem szAccess_eq (e:(Int × (List Int))) (x:Int) (h0:0≤x) (h1:x≤1048576) (hr:Rng.r e):Q.szAccess e x=some (left (SZ.sz e) x):=by
 have he:SZ.sz e=(0+SZ.sz e.2):=rfl
 unfold Q.szAccess
 have e0:Q.szIntS e.2 (x)=some (left (SZ.sz e.2) (x)):=szIntS_eq _ _ (by omega) (by omega) hr.2
 rw [e0,qb]
 by_cases c0:(SZ.sz e.2:Int)≤x
 ·rw [if_neg (by rw [show left (SZ.sz e.2) (x)=x-SZ.sz e.2 from if_pos c0]; simp <;> omega),show left (SZ.sz e.2) (x)=x-SZ.sz e.2 from if_pos c0]
  unfold left; rw [he,if_pos (by omega)]; exact congrArg some (by omega)
 ·rw [if_pos (by rw [show left (SZ.sz e.2) _=-1 from if_neg c0]; simp)]; unfold left; rw [he,if_neg (by omega)]
theorem toAccess_id (e:(Int × (List Int))) (h:SZ.sm e):Q.toAccess e=some e:=by
 unfold Q.toAccess
 simp only [toIntS_id e.2 h.2,qb]
theorem eqAccess_refl (e:(Int × (List Int))) (h:SZ.sm e):Q.eqAccess e e=some true:=by
 unfold Q.eqAccess
 simp [eqIntS_refl e.2 h.2]
theorem szAtom_eq (e:(Int × (List Int))) (x:Int) (h0:0≤x) (h1:x≤1048576) (hr:Rng.r e):Q.szAtom e x=some (left (SZ.sz e) x):=by
 have he:SZ.sz e=(0+SZ.sz e.2):=rfl
 unfold Q.szAtom
 have e0:Q.szIntS e.2 (x)=some (left (SZ.sz e.2) (x)):=szIntS_eq _ _ (by omega) (by omega) hr.2
 rw [e0,qb]
 by_cases c0:(SZ.sz e.2:Int)≤x
 ·rw [if_neg (by rw [show left (SZ.sz e.2) (x)=x-SZ.sz e.2 from if_pos c0]; simp <;> omega),show left (SZ.sz e.2) (x)=x-SZ.sz e.2 from if_pos c0]
  unfold left; rw [he,if_pos (by omega)]; exact congrArg some (by omega)
 ·rw [if_pos (by rw [show left (SZ.sz e.2) _=-1 from if_neg c0]; simp)]; unfold left; rw [he,if_neg (by omega)]
theorem toAtom_id (e:(Int × (List Int))) (h:SZ.sm e):Q.toAtom e=some e:=by
 unfold Q.toAtom
 simp only [toIntS_id e.2 h.2,qb]
theorem eqAtom_refl (e:(Int × (List Int))) (h:SZ.sm e):Q.eqAtom e e=some true:=by
 unfold Q.eqAtom
 simp [eqIntS_refl e.2 h.2]
theorem szFact_eq (e:(Int × (List Int))) (x:Int) (h0:0≤x) (h1:x≤1048576) (hr:Rng.r e):Q.szFact e x=some (left (SZ.sz e) x):=by
 have he:SZ.sz e=(0+SZ.sz e.2):=rfl
 unfold Q.szFact
 have e0:Q.szIntS e.2 (x)=some (left (SZ.sz e.2) (x)):=szIntS_eq _ _ (by omega) (by omega) hr.2
 rw [e0,qb]
 by_cases c0:(SZ.sz e.2:Int)≤x
 ·rw [if_neg (by rw [show left (SZ.sz e.2) (x)=x-SZ.sz e.2 from if_pos c0]; simp <;> omega),show left (SZ.sz e.2) (x)=x-SZ.sz e.2 from if_pos c0]
  unfold left; rw [he,if_pos (by omega)]; exact congrArg some (by omega)
 ·rw [if_pos (by rw [show left (SZ.sz e.2) _=-1 from if_neg c0]; simp)]; unfold left; rw [he,if_neg (by omega)]
theorem toFact_id (e:(Int × (List Int))) (h:SZ.sm e):Q.toFact e=some e:=by
 unfold Q.toFact
 simp only [toIntS_id e.2 h.2,qb]
theorem eqFact_refl (e:(Int × (List Int))) (h:SZ.sm e):Q.eqFact e e=some true:=by
 unfold Q.eqFact
 simp [eqIntS_refl e.2 h.2]
instance:MT (List Int):=⟨fun e c=>mkL e c,fun e=>mszL e,1048576*MT.bd Int,fun e h=>mszL_bd h⟩
theorem szMethod_eq (e:(Int × (List Int) × Int × Int × Int)) (x:Int) (h0:0≤x) (h1:x≤1048576) (hr:Rng.r e):Q.szMethod e x=some (left (SZ.sz e) x):=by
 have he:SZ.sz e=(0+(SZ.sz e.2.1+(0+(0+0)))):=rfl
 unfold Q.szMethod
 have e0:Q.szIntS e.2.1 (x)=some (left (SZ.sz e.2.1) (x)):=szIntS_eq _ _ (by omega) (by omega) hr.2.1
 rw [e0,qb]
 by_cases c0:(SZ.sz e.2.1:Int)≤x
 ·rw [if_neg (by rw [show left (SZ.sz e.2.1) (x)=x-SZ.sz e.2.1 from if_pos c0]; simp <;> omega),show left (SZ.sz e.2.1) (x)=x-SZ.sz e.2.1 from if_pos c0]
  unfold left; rw [he,if_pos (by omega)]; exact congrArg some (by omega)
 ·rw [if_pos (by rw [show left (SZ.sz e.2.1) _=-1 from if_neg c0]; simp)]; unfold left; rw [he,if_neg (by omega)]
theorem toMethod_id (e:(Int × (List Int) × Int × Int × Int)) (h:SZ.sm e):Q.toMethod e=some e:=by
 unfold Q.toMethod
 simp only [toIntS_id e.2.1 h.2.1,qb]
theorem eqMethod_refl (e:(Int × (List Int) × Int × Int × Int)) (h:SZ.sm e):Q.eqMethod e e=some true:=by
 unfold Q.eqMethod
 simp [eqIntS_refl e.2.1 h.2.1]
theorem szAtomS_eq (a:(List (Int × (List Int)))) (x:Int) (h0:0≤x) (h1:x≤1048576) (hr:Rng.r a):Q.szAtomS a x=some (left (SZ.sz a) x):=by
 obtain ⟨ha,he⟩:a.length≤maxLen∧∀e∈a,Rng.r e:=hr
 unfold Q.szAtomS left
 have e:SZ.sz a=a.length+szs a:=rfl
 rw [w64_id (by simp only [maxLen] at ha; omega) (by omega)]
 by_cases h:(a.length:Int)≤x
 ·have hl:=sz_loop (Q.szAtomS_l1 a) a (by omega) (fun k x=>by rw [Q.szAtomS_l1,if_neg (by simp)]) (fun k x i hi h2 h3=>by
   rw [Q.szAtomS_l1,if_pos (by simpa using hi),idx_nat a hi,qb,szAtom_eq _ x h2 h3 (he _ (qc hi)),qb]
   by_cases h4:(SZ.sz a[i]:Int)≤x
   ·rw [if_neg (by simp [left_neg h2]; exact h4),if_pos h4,w64_succ (by omega)]; unfold left; rw [if_pos h4]
   ·rw [if_pos (by simp [left_neg h2]; omega),if_neg h4]) FUEL 0 (x-a.length) (by omega) (by rw [FUEL_eq]; omega) (by omega) (by omega)
  rw [if_neg (by simp; omega),show (0:Int)=((0:Nat):Int) from rfl,hl,qf]
  by_cases h5:(szs a:Int)≤x-a.length
  ·rw [if_pos h5,if_pos (by omega),qb]; simp only; congr 1; omega
  ·rw [if_neg h5,if_neg (by omega),qb]
 ·rw [if_pos (by simp; omega),if_neg (by omega)]
theorem toAtomS_id (a:(List (Int × (List Int)))) (h:SZ.sm a):Q.toAtomS a=some a:=by
 obtain ⟨ha,he⟩:=sm_list h
 unfold Q.toAtomS mk
 rw [if_pos (by rw [LIM_eq]; omega),qb,to_loop (Q.toAtomS_l1 a) a _ (by simp) (by omega) (fun k x=>by rw [Q.toAtomS_l1,if_neg (by simp)]) (fun k x i hi hl=>by
  rw [Q.toAtomS_l1,if_pos (by simpa using hi),idx_nat a hi,qb,toAtom_id _ (he _ (qc hi)),qb,idx_nat x (by omega),qb,w64_succ (by omega),qd])]
 rfl
theorem eqAtomS_refl (a:(List (Int × (List Int)))) (h:SZ.sm a):Q.eqAtomS a a=some true:=by
 obtain ⟨ha,he⟩:=sm_list h
 unfold Q.eqAtomS
 rw [if_neg (by simp),eq_loop (Q.eqAtomS_l1 a a) a.length (by omega) (fun k=>by rw [Q.eqAtomS_l1,if_neg (by simp)]) (fun k i hi=>by
  rw [Q.eqAtomS_l1,if_pos (by simpa using hi),idx_nat a hi,qb,qb,eqAtom_refl _ (he _ (qc hi)),qb]
  simp [w64_succ (show i<4611686018427387904 by omega)])]
 rfl
instance:MT (Int × (List Int)):=⟨fun e c=>(c,mkL e.2 (c+1)),fun e=>1+mszL e.2,1+1048576*MT.bd Int,fun e h=>by
 have:=mszL_bd h.2; omega⟩
theorem markAtomS_eq (a:(List (Int × (List Int)))) (c:Int) (h:SZ.sm a) (h0:0≤c) (hb:c+mszL a≤2305843009213693952):Q.markAtomS a c=some (c+mszL a,mkL a c):=by
 obtain ⟨ha,he⟩:=sm_list h
 unfold Q.markAtomS
 rw [mark_loop Q.markAtomS_l1 a c (by omega) h0 hb (fun k x c=>by rw [Q.markAtomS_l1,if_neg (by simp)]) (fun k x c i hi hx h1 h2 h3=>by
  have h3':c+((1+mszL x[i].2:Nat):Int)≤2305843009213693952:=h3
  have hse:=he _ hx
  rw [Q.markAtomS_l1,if_pos (by simpa using hi),idx_nat x hi]
  simp only [qb,qd,idx_set,qe,hi,qg,w64_succ (show i<4611686018427387904 by omega),w64_sm (show -4611686018427387904≤c+1 by omega) (by omega),markIntS_eq x[i].2 (c+1) hse.2 (by omega) (by omega)]
  rw [show c+1+(mszL x[i].2:Int)=c+((1+mszL x[i].2:Nat):Int) by omega]
  rfl)]
 rfl
theorem szFactS_eq (a:(List (Int × (List Int)))) (x:Int) (h0:0≤x) (h1:x≤1048576) (hr:Rng.r a):Q.szFactS a x=some (left (SZ.sz a) x):=by
 obtain ⟨ha,he⟩:a.length≤maxLen∧∀e∈a,Rng.r e:=hr
 unfold Q.szFactS left
 have e:SZ.sz a=a.length+szs a:=rfl
 rw [w64_id (by simp only [maxLen] at ha; omega) (by omega)]
 by_cases h:(a.length:Int)≤x
 ·have hl:=sz_loop (Q.szFactS_l1 a) a (by omega) (fun k x=>by rw [Q.szFactS_l1,if_neg (by simp)]) (fun k x i hi h2 h3=>by
   rw [Q.szFactS_l1,if_pos (by simpa using hi),idx_nat a hi,qb,szFact_eq _ x h2 h3 (he _ (qc hi)),qb]
   by_cases h4:(SZ.sz a[i]:Int)≤x
   ·rw [if_neg (by simp [left_neg h2]; exact h4),if_pos h4,w64_succ (by omega)]; unfold left; rw [if_pos h4]
   ·rw [if_pos (by simp [left_neg h2]; omega),if_neg h4]) FUEL 0 (x-a.length) (by omega) (by rw [FUEL_eq]; omega) (by omega) (by omega)
  rw [if_neg (by simp; omega),show (0:Int)=((0:Nat):Int) from rfl,hl,qf]
  by_cases h5:(szs a:Int)≤x-a.length
  ·rw [if_pos h5,if_pos (by omega),qb]; simp only; congr 1; omega
  ·rw [if_neg h5,if_neg (by omega),qb]
 ·rw [if_pos (by simp; omega),if_neg (by omega)]
theorem toFactS_id (a:(List (Int × (List Int)))) (h:SZ.sm a):Q.toFactS a=some a:=by
 obtain ⟨ha,he⟩:=sm_list h
 unfold Q.toFactS mk
 rw [if_pos (by rw [LIM_eq]; omega),qb,to_loop (Q.toFactS_l1 a) a _ (by simp) (by omega) (fun k x=>by rw [Q.toFactS_l1,if_neg (by simp)]) (fun k x i hi hl=>by
  rw [Q.toFactS_l1,if_pos (by simpa using hi),idx_nat a hi,qb,toFact_id _ (he _ (qc hi)),qb,idx_nat x (by omega),qb,w64_succ (by omega),qd])]
 rfl
theorem eqFactS_refl (a:(List (Int × (List Int)))) (h:SZ.sm a):Q.eqFactS a a=some true:=by
 obtain ⟨ha,he⟩:=sm_list h
 unfold Q.eqFactS
 rw [if_neg (by simp),eq_loop (Q.eqFactS_l1 a a) a.length (by omega) (fun k=>by rw [Q.eqFactS_l1,if_neg (by simp)]) (fun k i hi=>by
  rw [Q.eqFactS_l1,if_pos (by simpa using hi),idx_nat a hi,qb,qb,eqFact_refl _ (he _ (qc hi)),qb]
  simp [w64_succ (show i<4611686018427387904 by omega)])]
 rfl
theorem markFactS_eq (a:(List (Int × (List Int)))) (c:Int) (h:SZ.sm a) (h0:0≤c) (hb:c+mszL a≤2305843009213693952):Q.markFactS a c=some (c+mszL a,mkL a c):=by
 obtain ⟨ha,he⟩:=sm_list h
 unfold Q.markFactS
 rw [mark_loop Q.markFactS_l1 a c (by omega) h0 hb (fun k x c=>by rw [Q.markFactS_l1,if_neg (by simp)]) (fun k x c i hi hx h1 h2 h3=>by
  have h3':c+((1+mszL x[i].2:Nat):Int)≤2305843009213693952:=h3
  have hse:=he _ hx
  rw [Q.markFactS_l1,if_pos (by simpa using hi),idx_nat x hi]
  simp only [qb,qd,idx_set,qe,hi,qg,w64_succ (show i<4611686018427387904 by omega),w64_sm (show -4611686018427387904≤c+1 by omega) (by omega),markIntS_eq x[i].2 (c+1) hse.2 (by omega) (by omega)]
  rw [show c+1+(mszL x[i].2:Int)=c+((1+mszL x[i].2:Nat):Int) by omega]
  rfl)]
 rfl
theorem szMethodS_eq (a:(List (Int × (List Int) × Int × Int × Int))) (x:Int) (h0:0≤x) (h1:x≤1048576) (hr:Rng.r a):Q.szMethodS a x=some (left (SZ.sz a) x):=by
 obtain ⟨ha,he⟩:a.length≤maxLen∧∀e∈a,Rng.r e:=hr
 unfold Q.szMethodS left
 have e:SZ.sz a=a.length+szs a:=rfl
 rw [w64_id (by simp only [maxLen] at ha; omega) (by omega)]
 by_cases h:(a.length:Int)≤x
 ·have hl:=sz_loop (Q.szMethodS_l1 a) a (by omega) (fun k x=>by rw [Q.szMethodS_l1,if_neg (by simp)]) (fun k x i hi h2 h3=>by
   rw [Q.szMethodS_l1,if_pos (by simpa using hi),idx_nat a hi,qb,szMethod_eq _ x h2 h3 (he _ (qc hi)),qb]
   by_cases h4:(SZ.sz a[i]:Int)≤x
   ·rw [if_neg (by simp [left_neg h2]; exact h4),if_pos h4,w64_succ (by omega)]; unfold left; rw [if_pos h4]
   ·rw [if_pos (by simp [left_neg h2]; omega),if_neg h4]) FUEL 0 (x-a.length) (by omega) (by rw [FUEL_eq]; omega) (by omega) (by omega)
  rw [if_neg (by simp; omega),show (0:Int)=((0:Nat):Int) from rfl,hl,qf]
  by_cases h5:(szs a:Int)≤x-a.length
  ·rw [if_pos h5,if_pos (by omega),qb]; simp only; congr 1; omega
  ·rw [if_neg h5,if_neg (by omega),qb]
 ·rw [if_pos (by simp; omega),if_neg (by omega)]
theorem toMethodS_id (a:(List (Int × (List Int) × Int × Int × Int))) (h:SZ.sm a):Q.toMethodS a=some a:=by
 obtain ⟨ha,he⟩:=sm_list h
 unfold Q.toMethodS mk
 rw [if_pos (by rw [LIM_eq]; omega),qb,to_loop (Q.toMethodS_l1 a) a _ (by simp) (by omega) (fun k x=>by rw [Q.toMethodS_l1,if_neg (by simp)]) (fun k x i hi hl=>by
  rw [Q.toMethodS_l1,if_pos (by simpa using hi),idx_nat a hi,qb,toMethod_id _ (he _ (qc hi)),qb,idx_nat x (by omega),qb,w64_succ (by omega),qd])]
 rfl
theorem eqMethodS_refl (a:(List (Int × (List Int) × Int × Int × Int))) (h:SZ.sm a):Q.eqMethodS a a=some true:=by
 obtain ⟨ha,he⟩:=sm_list h
 unfold Q.eqMethodS
 rw [if_neg (by simp),eq_loop (Q.eqMethodS_l1 a a) a.length (by omega) (fun k=>by rw [Q.eqMethodS_l1,if_neg (by simp)]) (fun k i hi=>by
  rw [Q.eqMethodS_l1,if_pos (by simpa using hi),idx_nat a hi,qb,qb,eqMethod_refl _ (he _ (qc hi)),qb]
  simp [w64_succ (show i<4611686018427387904 by omega)])]
 rfl
instance:MT (Int × (List Int) × Int × Int × Int):=⟨fun e c=>(c,mkL e.2.1 (c+1),c+1+(mszL e.2.1:Int),c+1+(mszL e.2.1:Int)+1,c+1+(mszL e.2.1:Int)+1+1),fun e=>1+mszL e.2.1+1+1+1,1+1048576*MT.bd Int+1+1+1,fun e h=>by
 have:=mszL_bd h.2.1; omega⟩
theorem markMethodS_eq (a:(List (Int × (List Int) × Int × Int × Int))) (c:Int) (h:SZ.sm a) (h0:0≤c) (hb:c+mszL a≤2305843009213693952):Q.markMethodS a c=some (c+mszL a,mkL a c):=by
 obtain ⟨ha,he⟩:=sm_list h
 unfold Q.markMethodS
 rw [mark_loop Q.markMethodS_l1 a c (by omega) h0 hb (fun k x c=>by rw [Q.markMethodS_l1,if_neg (by simp)]) (fun k x c i hi hx h1 h2 h3=>by
  have h3':c+((1+mszL x[i].2.1+1+1+1:Nat):Int)≤2305843009213693952:=h3
  have hse:=he _ hx
  rw [Q.markMethodS_l1,if_pos (by simpa using hi),idx_nat x hi]
  simp only [qb,qd,idx_set,qe,hi,qg,w64_succ (show i<4611686018427387904 by omega),w64_sm (show -4611686018427387904≤c+1 by omega) (by omega),markIntS_eq x[i].2.1 (c+1) hse.2.1 (by omega) (by omega),w64_sm (show -4611686018427387904≤c+1+(mszL x[i].2.1:Int)+1 by omega) (by omega),w64_sm (show -4611686018427387904≤c+1+(mszL x[i].2.1:Int)+1+1 by omega) (by omega),w64_sm (show -4611686018427387904≤c+1+(mszL x[i].2.1:Int)+1+1+1 by omega) (by omega)]
  rw [show c+1+(mszL x[i].2.1:Int)+1+1+1=c+((1+mszL x[i].2.1+1+1+1:Nat):Int) by omega]
  rfl)]
 rfl
theorem szQuery_eq (e:((List Int) × (List (Int × (List Int))))) (x:Int) (h0:0≤x) (h1:x≤1048576) (hr:Rng.r e):Q.szQuery e x=some (left (SZ.sz e) x):=by
 have he:SZ.sz e=(SZ.sz e.1+SZ.sz e.2):=rfl
 unfold Q.szQuery
 have e0:Q.szIntS e.1 (x)=some (left (SZ.sz e.1) (x)):=szIntS_eq _ _ (by omega) (by omega) hr.1
 rw [e0,qb]
 by_cases c0:(SZ.sz e.1:Int)≤x
 ·rw [if_neg (by rw [show left (SZ.sz e.1) (x)=x-SZ.sz e.1 from if_pos c0]; simp <;> omega),show left (SZ.sz e.1) (x)=x-SZ.sz e.1 from if_pos c0]
  have e1:Q.szAtomS e.2 (x-SZ.sz e.1)=some (left (SZ.sz e.2) (x-SZ.sz e.1)):=szAtomS_eq _ _ (by omega) (by omega) hr.2
  rw [e1,qb]
  by_cases c1:(SZ.sz e.2:Int)≤x-SZ.sz e.1
  ·rw [if_neg (by rw [show left (SZ.sz e.2) (x-SZ.sz e.1)=x-SZ.sz e.1-SZ.sz e.2 from if_pos c1]; simp <;> omega),show left (SZ.sz e.2) (x-SZ.sz e.1)=x-SZ.sz e.1-SZ.sz e.2 from if_pos c1]
   unfold left; rw [he,if_pos (by omega)]; exact congrArg some (by omega)
  ·rw [if_pos (by rw [show left (SZ.sz e.2) _=-1 from if_neg c1]; simp)]; unfold left; rw [he,if_neg (by omega)]
 ·rw [if_pos (by rw [show left (SZ.sz e.1) _=-1 from if_neg c0]; simp)]; unfold left; rw [he,if_neg (by omega)]
theorem toQuery_id (e:((List Int) × (List (Int × (List Int))))) (h:SZ.sm e):Q.toQuery e=some e:=by
 unfold Q.toQuery
 simp only [toIntS_id e.1 h.1,toAtomS_id e.2 h.2,qb]
theorem eqQuery_refl (e:((List Int) × (List (Int × (List Int))))) (h:SZ.sm e):Q.eqQuery e e=some true:=by
 unfold Q.eqQuery
 simp [eqIntS_refl e.1 h.1,eqAtomS_refl e.2 h.2]
def mvQuery (e:((List Int) × (List (Int × (List Int))))) (c:Int):((List Int) × (List (Int × (List Int)))):=(mkL e.1 (c),mkL e.2 (c+(mszL e.1:Int)))
def nvQuery (e:((List Int) × (List (Int × (List Int))))):Nat:=mszL e.1+mszL e.2
theorem markQuery_eq (e:((List Int) × (List (Int × (List Int))))) (c:Int) (h:SZ.sm e) (h0:0≤c) (hb:c+nvQuery e≤2305843009213693952):Q.markQuery e c=some (c+nvQuery e,mvQuery e c):=by
 have hb':c+((mszL e.1+mszL e.2:Nat):Int)≤2305843009213693952:=hb
 unfold Q.markQuery nvQuery mvQuery
 simp only [markIntS_eq e.1 (c) h.1 (by omega) (by omega),markAtomS_eq e.2 (c+(mszL e.1:Int)) h.2 (by omega) (by omega),qb,Prod.eta]
 all_goals exact congrArg some (Prod.ext (show c+(mszL e.1:Int)+(mszL e.2:Int)=_ by omega) rfl)
theorem szTold_eq (e:((Int × (List Int)) × (List (Int × (List Int))))) (x:Int) (h0:0≤x) (h1:x≤1048576) (hr:Rng.r e):Q.szTold e x=some (left (SZ.sz e) x):=by
 have he:SZ.sz e=(SZ.sz e.1+SZ.sz e.2):=rfl
 unfold Q.szTold
 have e0:Q.szAccess e.1 (x)=some (left (SZ.sz e.1) (x)):=szAccess_eq _ _ (by omega) (by omega) hr.1
 rw [e0,qb]
 by_cases c0:(SZ.sz e.1:Int)≤x
 ·rw [if_neg (by rw [show left (SZ.sz e.1) (x)=x-SZ.sz e.1 from if_pos c0]; simp <;> omega),show left (SZ.sz e.1) (x)=x-SZ.sz e.1 from if_pos c0]
  have e1:Q.szFactS e.2 (x-SZ.sz e.1)=some (left (SZ.sz e.2) (x-SZ.sz e.1)):=szFactS_eq _ _ (by omega) (by omega) hr.2
  rw [e1,qb]
  by_cases c1:(SZ.sz e.2:Int)≤x-SZ.sz e.1
  ·rw [if_neg (by rw [show left (SZ.sz e.2) (x-SZ.sz e.1)=x-SZ.sz e.1-SZ.sz e.2 from if_pos c1]; simp <;> omega),show left (SZ.sz e.2) (x-SZ.sz e.1)=x-SZ.sz e.1-SZ.sz e.2 from if_pos c1]
   unfold left; rw [he,if_pos (by omega)]; exact congrArg some (by omega)
  ·rw [if_pos (by rw [show left (SZ.sz e.2) _=-1 from if_neg c1]; simp)]; unfold left; rw [he,if_neg (by omega)]
 ·rw [if_pos (by rw [show left (SZ.sz e.1) _=-1 from if_neg c0]; simp)]; unfold left; rw [he,if_neg (by omega)]
theorem toTold_id (e:((Int × (List Int)) × (List (Int × (List Int))))) (h:SZ.sm e):Q.toTold e=some e:=by
 unfold Q.toTold
 simp only [toAccess_id e.1 h.1,toFactS_id e.2 h.2,qb]
theorem eqTold_refl (e:((Int × (List Int)) × (List (Int × (List Int))))) (h:SZ.sm e):Q.eqTold e e=some true:=by
 unfold Q.eqTold
 simp [eqAccess_refl e.1 h.1,eqFactS_refl e.2 h.2]
theorem szToldS_eq (a:(List ((Int × (List Int)) × (List (Int × (List Int)))))) (x:Int) (h0:0≤x) (h1:x≤1048576) (hr:Rng.r a):Q.szToldS a x=some (left (SZ.sz a) x):=by
 obtain ⟨ha,he⟩:a.length≤maxLen∧∀e∈a,Rng.r e:=hr
 unfold Q.szToldS left
 have e:SZ.sz a=a.length+szs a:=rfl
 rw [w64_id (by simp only [maxLen] at ha; omega) (by omega)]
 by_cases h:(a.length:Int)≤x
 ·have hl:=sz_loop (Q.szToldS_l1 a) a (by omega) (fun k x=>by rw [Q.szToldS_l1,if_neg (by simp)]) (fun k x i hi h2 h3=>by
   rw [Q.szToldS_l1,if_pos (by simpa using hi),idx_nat a hi,qb,szTold_eq _ x h2 h3 (he _ (qc hi)),qb]
   by_cases h4:(SZ.sz a[i]:Int)≤x
   ·rw [if_neg (by simp [left_neg h2]; exact h4),if_pos h4,w64_succ (by omega)]; unfold left; rw [if_pos h4]
   ·rw [if_pos (by simp [left_neg h2]; omega),if_neg h4]) FUEL 0 (x-a.length) (by omega) (by rw [FUEL_eq]; omega) (by omega) (by omega)
  rw [if_neg (by simp; omega),show (0:Int)=((0:Nat):Int) from rfl,hl,qf]
  by_cases h5:(szs a:Int)≤x-a.length
  ·rw [if_pos h5,if_pos (by omega),qb]; simp only; congr 1; omega
  ·rw [if_neg h5,if_neg (by omega),qb]
 ·rw [if_pos (by simp; omega),if_neg (by omega)]
theorem toToldS_id (a:(List ((Int × (List Int)) × (List (Int × (List Int)))))) (h:SZ.sm a):Q.toToldS a=some a:=by
 obtain ⟨ha,he⟩:=sm_list h
 unfold Q.toToldS mk
 rw [if_pos (by rw [LIM_eq]; omega),qb,to_loop (Q.toToldS_l1 a) a _ (by simp) (by omega) (fun k x=>by rw [Q.toToldS_l1,if_neg (by simp)]) (fun k x i hi hl=>by
  rw [Q.toToldS_l1,if_pos (by simpa using hi),idx_nat a hi,qb,toTold_id _ (he _ (qc hi)),qb,idx_nat x (by omega),qb,w64_succ (by omega),qd])]
 rfl
theorem eqToldS_refl (a:(List ((Int × (List Int)) × (List (Int × (List Int)))))) (h:SZ.sm a):Q.eqToldS a a=some true:=by
 obtain ⟨ha,he⟩:=sm_list h
 unfold Q.eqToldS
 rw [if_neg (by simp),eq_loop (Q.eqToldS_l1 a a) a.length (by omega) (fun k=>by rw [Q.eqToldS_l1,if_neg (by simp)]) (fun k i hi=>by
  rw [Q.eqToldS_l1,if_pos (by simpa using hi),idx_nat a hi,qb,qb,eqTold_refl _ (he _ (qc hi)),qb]
  simp [w64_succ (show i<4611686018427387904 by omega)])]
 rfl
instance:MT ((Int × (List Int)) × (List (Int × (List Int)))):=⟨fun e c=>((c,mkL e.1.2 (c+1)),mkL e.2 (c+1+(mszL e.1.2:Int))),fun e=>1+mszL e.1.2+mszL e.2,1+1048576*MT.bd Int+1048576*MT.bd (Int × (List Int)),fun e h=>by
 have:=mszL_bd h.1.2; have:=mszL_bd h.2; omega⟩
theorem markToldS_eq (a:(List ((Int × (List Int)) × (List (Int × (List Int)))))) (c:Int) (h:SZ.sm a) (h0:0≤c) (hb:c+mszL a≤2305843009213693952):Q.markToldS a c=some (c+mszL a,mkL a c):=by
 obtain ⟨ha,he⟩:=sm_list h
 unfold Q.markToldS
 rw [mark_loop Q.markToldS_l1 a c (by omega) h0 hb (fun k x c=>by rw [Q.markToldS_l1,if_neg (by simp)]) (fun k x c i hi hx h1 h2 h3=>by
  have h3':c+((1+mszL x[i].1.2+mszL x[i].2:Nat):Int)≤2305843009213693952:=h3
  have hse:=he _ hx
  rw [Q.markToldS_l1,if_pos (by simpa using hi),idx_nat x hi]
  simp only [qb,qd,idx_set,qe,hi,qg,w64_succ (show i<4611686018427387904 by omega),w64_sm (show -4611686018427387904≤c+1 by omega) (by omega),markIntS_eq x[i].1.2 (c+1) hse.1.2 (by omega) (by omega),markFactS_eq x[i].2 (c+1+(mszL x[i].1.2:Int)) hse.2 (by omega) (by omega)]
  rw [show c+1+(mszL x[i].1.2:Int)+(mszL x[i].2:Int)=c+((1+mszL x[i].1.2+mszL x[i].2:Nat):Int) by omega]
  rfl)]
 rfl
end Go.Gx.Px
