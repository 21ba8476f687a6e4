/- Rules: regions in whatever order, what is done told by the bits of a number. Conditions: none. -/
import Derived.Test.YtngpabaocflipaaGreatGxZn
set_option linter.unusedVariables false
set_option linter.unusedSimpArgs false
namespace Go.Gx
open Go.RowKit
def arr (n m : Nat) : Array Bool := ((List.range n).map fun j => m.testBit j).toArray
theorem arr_size (n m : Nat) : (arr n m).size = n := by simp [arr]
theorem arr_getD (n m j : Nat) (d : Bool) : (arr n m).getD j d = if j < n then m.testBit j else d := by
 unfold arr
 by_cases h : j < n
 ·simp [Array.getD, h]
 ·simp [Array.getD, h]
theorem arr_get {n m j : Nat} (h : j < (arr n m).size) : (arr n m)[j] = m.testBit j := by simp [arr]
theorem arr_set (n m i : Nat) : (arr n m).setIfInBounds i true = arr n (m ||| 2 ^ i) := by
 apply Array.ext
 ·rw [Array.size_setIfInBounds, arr_size, arr_size]
 ·intro j h1 h2
  have hj : j < (arr n m).size := by rw [arr_size] at h2 ⊢; exact h2
  rw [Array.getElem_setIfInBounds hj, arr_get h2, arr_get hj, Nat.testBit_or, Nat.testBit_two_pow]
  by_cases hi : i = j
  ·subst hi; simp
  ·simp [hi]
theorem arr_zero (n : Nat) : Array.replicate n false = arr n 0 := by
 apply Array.ext
 ·simp [arr]
 ·intro j h1 h2
  simp [arr]
def rdM (ops : Array Oper) (n m i : Nat) : Bool :=
 !m.testBit i && ((ops[i]?).map (·.after.all fun e => !Region.binds .any e || (Nat.blt e.on n && m.testBit e.on))).getD false
def frM (ops : Array Oper) (n m i : Nat) : Bool :=
 match ops[i]? with
 | none => false
 | some oi => (List.range n).all fun j => j == i || m.testBit j || match ops[j]? with
   | some oj => oj.after.any (fun e => Region.binds .any e && e.on == i) || oi.apart ops oj
   | none => true
def chkM (ops : Array Oper) (n m i : Nat) : Bool := Nat.beq ops.size n && (Nat.blt i n && (Region.noSelect ops && (frM ops n m i && rdM ops n m i)))
theorem rdM_ok {ops : Array Oper} {n m : Nat} (hn : ops.size = n) (i : Nat) (hi : i < n) : (!(arr n m).getD i true && ((ops[i]?).map (·.after.all fun e => !Region.binds .any e || (arr n m).getD e.on false)).getD false) = rdM ops n m i := by
 unfold rdM
 have e : (fun e : Edge => !Region.binds .any e || (arr n m).getD e.on false) = fun e => !Region.binds .any e || (Nat.blt e.on n && m.testBit e.on) := by
  funext e
  rw [arr_getD]
  by_cases h : e.on < n
  ·rw [if_pos h, show Nat.blt e.on n = true from Nat.blt_eq.mpr h, Bool.true_and]
  ·rw [if_neg h, show Nat.blt e.on n = false by rw [Bool.eq_false_iff]; intro h2; exact h (Nat.blt_eq.mp h2), Bool.false_and]
 rw [e, arr_getD, if_pos hi]
theorem ready_eq {ops : Array Oper} {n m : Nat} (hn : ops.size = n) : Region.ready .any ops (arr n m) = (List.range n).filter fun i => rdM ops n m i := by
 unfold Region.ready
 rw [hn]
 exact List.filter_congr fun i hi => rdM_ok hn i (List.mem_range.1 hi)
theorem chkM_ok {ops : Array Oper} {n m i : Nat} (h : chkM ops n m i = true) : (Region.noSelect ops && (Region.free .any ops (arr n m) i && (Region.ready .any ops (arr n m)).contains i)) = true := by
 unfold chkM at h
 simp only [Bool.and_eq_true] at h
 obtain ⟨h1, h2, h3, h4, h5⟩ := h
 have hn : ops.size = n := Nat.eq_of_beq_eq_true h1
 have hi : i < n := Nat.blt_eq.mp h2
 rw [ready_eq hn, h3, Bool.true_and, Bool.and_eq_true]
 refine ⟨?_, by simp [hi, h5]⟩
 unfold frM at h4
 unfold Region.free
 cases ho : ops[i]? with
 | none => rw [ho] at h4; cases h4
 | some oi =>
  rw [ho] at h4
  simp only [List.all_eq_true, List.mem_range] at h4 ⊢
  intro j hj
  rw [hn] at hj
  rw [arr_getD, if_pos hj]
  exact h4 j hj
section
variable {P : Program} {n : Nat} {l : Env} {w : World} {K : Env → World → Prop} {d : Nat} {T U : TypeId} {pos : String} {aft : Array Edge} {x y q : Operand} {v : Value}
variable {j : Nat} {want : Bool} {t : Nat} {u : Value} {op : Op} {f : Nat} {o : Oper} {ops : Array Oper} {N m : Nat}
theorem wASM {l' : Env} (hs : SubL l' l) (h : WA P n ops K f (arr N m) l' w) : WA P n ops K f (arr N m) l w := h.sub hs
theorem skM (i : Nat) (ho : ops[i]? = some ⟨some d, op, T, pos, aft, some (j, want)⟩) (hj : ((ops[j]?).bind (·.dst)) = some t) (ht : look l t = some u) (hu : nb u want = true) (hdn : Nat.blt d n = true)
  (h : WA P n ops K f (arr N (m ||| 2 ^ i)) ((d, undef) :: l) w) (hb : chkM ops N m i = true := by kernel_rfl) : WA P n ops K (f + 1) (arr N m) l w :=
 sk i ho hj ht hu hdn (by rw [arr_set]; exact h) (chkM_ok hb)
theorem tmM (i : Nat) (ho : ops[i]? = some ⟨some d, .move x, T, pos, aft, none⟩) (hd : Nat.blt d n = true) (hx : ev l x = some v) (h : WA P n ops K f (arr N (m ||| 2 ^ i)) ((d, v) :: l) w)
  (hb : chkM ops N m i = true := by kernel_rfl) : WA P n ops K (f + 1) (arr N m) l w := tm i ho hd hx (by rw [arr_set]; exact h) (chkM_ok hb)
theorem taM (i : Nat) (ho : ops[i]? = some ⟨some d, .assign x, T, pos, aft, none⟩) (hd : Nat.blt d n = true) (hx : ev l x = some v) (h : WA P n ops K f (arr N (m ||| 2 ^ i)) ((d, v) :: l) w)
  (hb : chkM ops N m i = true := by kernel_rfl) : WA P n ops K (f + 1) (arr N m) l w := ta i ho hd hx (by rw [arr_set]; exact h) (chkM_ok hb)
theorem tpM (i : Nat) (ho : ops[i]? = some ⟨some d, .pick x y q, T, pos, aft, none⟩) (hd : Nat.blt d n = true) (hx : ev l x = some (.bool true)) (hy : ev l y = some v) (h : WA P n ops K f (arr N (m ||| 2 ^ i)) ((d, v) :: l) w)
  (hb : chkM ops N m i = true := by kernel_rfl) : WA P n ops K (f + 1) (arr N m) l w := tp i ho hd hx hy (by rw [arr_set]; exact h) (chkM_ok hb)
theorem tqM (i : Nat) (ho : ops[i]? = some ⟨some d, .pick x y q, T, pos, aft, none⟩) (hd : Nat.blt d n = true) (hx : ev l x = some (.bool false)) (hy : ev l q = some v) (h : WA P n ops K f (arr N (m ||| 2 ^ i)) ((d, v) :: l) w)
  (hb : chkM ops N m i = true := by kernel_rfl) : WA P n ops K (f + 1) (arr N m) l w := tq i ho hd hx hy (by rw [arr_set]; exact h) (chkM_ok hb)
theorem tgM (i : Nat) (ho : ops[i]? = some o) (hg : o.guard = some (j, want)) (hj : ((ops[j]?).bind (·.dst)) = some t) (ht : look l t = some (.bool want)) (hfl : Fl P l o)
  (h : WL P n ops (fun l' w' => WA P n ops K f (arr N (m ||| 2 ^ i)) l' w') [o] l w) (hb : chkM ops N m i = true := by kernel_rfl) : WA P n ops K (f + 1) (arr N m) l w :=
 tg i ho hg hj ht hfl (by rw [arr_set]; exact h) (chkM_ok hb)
theorem tnM (i : Nat) (ho : ops[i]? = some ⟨some d, .move x, T, pos, aft, some (j, want)⟩) (hj : ((ops[j]?).bind (·.dst)) = some t) (ht : look l t = some (.bool want)) (hd : Nat.blt d n = true) (hx : ev l x = some v)
  (h : WA P n ops K f (arr N (m ||| 2 ^ i)) ((d, v) :: l) w) (hb : chkM ops N m i = true := by kernel_rfl) : WA P n ops K (f + 1) (arr N m) l w :=
 tn i ho hj ht hd hx (by rw [arr_set]; exact h) (chkM_ok hb)
def noneM (ops : Array Oper) (N m : Nat) : Bool := Nat.beq ops.size N && (List.range N).all fun j => !rdM ops N m j
def oneM (ops : Array Oper) (N m i : Nat) : Bool := Nat.beq ops.size N && (Nat.blt i N && (List.range N).all fun j => rdM ops N m j == Nat.beq j i)
theorem filter_one (i : Nat) : ∀ N, i < N → (List.range N).filter (fun j => Nat.beq j i) = [i] := by
 intro N
 induction N with
 | zero => intro h; omega
 | succ N ih =>
  intro h
  rw [List.range_succ, List.filter_append]
  by_cases hi : i = N
  ·subst hi
   have e : (List.range i).filter (fun j => Nat.beq j i) = [] := by
    rw [List.filter_eq_nil_iff]
    intro j hj h2
    have := Nat.eq_of_beq_eq_true h2
    have := List.mem_range.1 hj
    omega
   rw [e]; simp
  ·rw [ih (by omega)]
   have : Nat.beq N i = false := by
    rw [Bool.eq_false_iff]; intro h2; exact hi (Nat.eq_of_beq_eq_true h2).symm
   simp [this]
theorem dnM (h : K l w) (hr : noneM ops N m = true := by kernel_rfl) : WA P n ops K f (arr N m) l w := dn h (by
 unfold noneM at hr
 rw [Bool.and_eq_true, List.all_eq_true] at hr
 rw [ready_eq (Nat.eq_of_beq_eq_true hr.1), List.filter_eq_nil_iff]
 intro j hj h2
 have := hr.2 j hj
 rw [h2] at this; cases this)
theorem oeM (i : Nat) (ho : ops[i]? = some o) (h : WL P n ops (fun l' w' => WA P n ops K f (arr N (m ||| 2 ^ i)) l' w') [o] l w)
  (hr : oneM ops N m i = true := by kernel_rfl) : WA P n ops K (f + 1) (arr N m) l w := oe i ho (by rw [arr_set]; exact h) (by
 unfold oneM at hr
 rw [Bool.and_eq_true, Bool.and_eq_true, List.all_eq_true] at hr
 rw [ready_eq (Nat.eq_of_beq_eq_true hr.1), ← filter_one i N (Nat.blt_eq.mp hr.2.1)]
 exact List.filter_congr fun j hj => by simpa using hr.2.2 j hj)
theorem W_drawnM {id : Nat} {os : List Oper} {Q : Post} (m : Nat) (hmm : os.length = m) (hm : P.follows .mixedOrders = true)
 (h : ∀ w', Below w.heap.size w w' → WA P n os.toArray (fun l w => Q .normal l w) m (arr m 0) l w') : W P n (.region id os.toArray true) Q l w :=
 W_drawn m hmm hm fun w' hB => by rw [arr_zero]; exact h w' hB
def orB (m : Nat) : List Nat → Nat
 | [] => m
 | i :: is => orB (m ||| 2 ^ i) is
theorem setX_arr (N : Nat) : ∀ (is : List Nat) (m : Nat), setX (arr N m) is = arr N (orB m is)
 | [], _ => rfl
 | i :: is, m => by
  have := setX_arr N is (m ||| 2 ^ i)
  rw [← arr_set] at this
  exact this
theorem WA_postsEM {os : List Oper} {g : Nat} {m' : Nat} (X : List XE) (uses : List (List Nat)) (f : Nat) (hg : X.length + f = g) (hsz : (arr N m).size = os.length) (hchk : eOk os l (arr N m) X uses = true) (hL : orB m (idsE X) = m')
  (steps : StepsE P n os X w l X uses)
  (rest : ∀ w', Below w.heap.size w w' → AllE os w w' (consE X) X l [] (fun l' Fs => (Fs.flatten).Nodup → (∀ b ∈ Fs.flatten, w.heap.size ≤ b ∧ b < w'.heap.size) → WA P n os.toArray K f (arr N m') l' w')) :
  WA P n os.toArray K g (arr N m) l w :=
 WA_postsE X uses f hg hsz hchk (by rw [setX_arr, hL]) steps rest
end
end Go.Gx
