/- Rules: '==' and '!=' on structs of numbers, bools and strings. Conditions: none. -/
import Derived.Test.YtdkfiadoiapnbaaGreatGxX
import Derived.Laws.StructEq
import Derived.ChangeKeysEq
set_option linter.unusedVariables false
set_option linter.unusedSimpArgs false
namespace Go.Gx
open Go.RowKit
section
variable {P : Program} {w : World} {d : Nat} {xs ys : Array Value} {f : Field} {fs : List Field} {r : Bool}
theorem eqF_nil : (Op.eqFields d xs ys []).run P w = .ok true w := by simp [Op.eqFields]
theorem eqF_cons {e : TypeId} {u v : Value} {b : Bool} (hn : f.name ≠ "_") (hk : P.plainKey f.type = true) (hx : xs[f.offset]? = some u) (hy : ys[f.offset]? = some v) (hq : (Op.equalIn d f.type u v).run P w = .ok b w) (h : (Op.eqFields d xs ys fs).run P w = .ok r w) :
  (Op.eqFields d xs ys (f :: fs)).run P w = .ok (b && r) w := by
 simp only [Op.eqFields, hn, ne_eq, not_false_eq_true, if_true, Sem.run_bind, run_part_plain w hk hx, run_part_plain w hk hy, Result.andThen_ok, hq]
 cases b
 ·simp
 ·simp [h]
theorem eqF_int {k : IntKind} {k1 : IntKind} {a b : Int} (hn : f.name ≠ "_") (hu : P.underlying f.type = some (.int k)) (hx : xs[f.offset]? = some (.int k1 a)) (hy : ys[f.offset]? = some (.int k1 b)) (h : (Op.eqFields (d + 1) xs ys fs).run P w = .ok r w) :
  (Op.eqFields (d + 1) xs ys (f :: fs)).run P w = .ok (decide (a = b) && r) w :=
 eqF_cons (e := f.type) hn (by simp [Program.plainKey, hu]) hx hy (by rw [run_equalIn_int w d f.type k1 k a b hu]; congr 1) h
end
section
variable {P : Program} {w : World} {n : Nat} {l : Env} {ops : Array Oper} {K : Env → World → Prop} {os : List Oper} {d : Nat} {T U : TypeId} {pos : String} {aft : Array Edge} {x y : Operand}
theorem fl_agg_neq {V : TypeId} {fs : Array Field} {xs ys : Array Value} {b : Bool} {g : Option (Nat × Bool)} (hu : P.underlying U = some (.struct fs)) (hp : P.stoodInHeld U = false) (hm : P.eqGuardType P.depth U = false) (hq : ∀ w, (Op.eqFields 9999 xs ys fs.toList).run P w = .ok b w)
  (hx : ev l x = some (.agg xs)) (hy : ev l y = some (.agg ys)) : Fl P l (⟨some d, .binOp .neq U x y V, T, pos, aft, g⟩) :=
 ⟨.bool (!b), fun w ρ hρ => by
  have hf : P.fieldsOf U = fs := by simp [Program.fieldsOf, hu]
  have he : (Op.equalIn 10000 U (.agg xs) (.agg ys)).run P w = .ok b w := by
   rw [show (10000 : Nat) = 9999 + 1 from rfl, run_equalIn_struct w 9999 U xs ys (by rw [hf]; exact hu) hp, hf]; exact hq w
  simp only [execOp, hρ x _ hx, hρ y _ hy, Sem.run_bind, run_eqGuard_agg w .neq U x y xs ys hm, Result.andThen_ok, run_neq_struct, he, Sem.run_pure]⟩
theorem WL_agg_neq {V : TypeId} {fs : Array Field} {xs ys : Array Value} {b : Bool} (hu : P.underlying U = some (.struct fs)) (hp : P.stoodInHeld U = false) (hm : P.eqGuardType P.depth U = false) (hq : ∀ w, (Op.eqFields 9999 xs ys fs.toList).run P w = .ok b w)
  (hd : Nat.blt d n = true) (hx : ev l x = some (.agg xs)) (hy : ev l y = some (.agg ys)) (h : WL P n ops K os ((d, .bool (!b)) :: l) w) : WL P n ops K (⟨some d, .binOp .neq U x y V, T, pos, aft, none⟩ :: os) l w :=
 WL_val rfl rfl hd (fun ρ hρ => by
  have hf : P.fieldsOf U = fs := by simp [Program.fieldsOf, hu]
  have he : (Op.equalIn 10000 U (.agg xs) (.agg ys)).run P w = .ok b w := by
   rw [show (10000 : Nat) = 9999 + 1 from rfl, run_equalIn_struct w 9999 U xs ys (by rw [hf]; exact hu) hp, hf]; exact hq w
  simp only [execOp, hρ x _ hx, hρ y _ hy, Sem.run_bind, run_eqGuard_agg w .neq U x y xs ys hm, Result.andThen_ok, run_neq_struct, he, Sem.run_pure]) h
end
section
variable {D : List Nat} {w0 w : World}
theorem Ctx.f1 {a0 a1 : Item} {l : List Item} (h : Ctx D w0 w (a0 :: a1 :: l)) : Ctx D w0 w (a1 :: a0 :: l) := h.front 1 rfl
theorem Ctx.f2 {a0 a1 a2 : Item} {l : List Item} (h : Ctx D w0 w (a0 :: a1 :: a2 :: l)) : Ctx D w0 w (a2 :: a0 :: a1 :: l) := h.front 2 rfl
theorem Ctx.f3 {a0 a1 a2 a3 : Item} {l : List Item} (h : Ctx D w0 w (a0 :: a1 :: a2 :: a3 :: l)) : Ctx D w0 w (a3 :: a0 :: a1 :: a2 :: l) := h.front 3 rfl
theorem Ctx.f4 {a0 a1 a2 a3 a4 : Item} {l : List Item} (h : Ctx D w0 w (a0 :: a1 :: a2 :: a3 :: a4 :: l)) : Ctx D w0 w (a4 :: a0 :: a1 :: a2 :: a3 :: l) := h.front 4 rfl
theorem Ctx.f5 {a0 a1 a2 a3 a4 a5 : Item} {l : List Item} (h : Ctx D w0 w (a0 :: a1 :: a2 :: a3 :: a4 :: a5 :: l)) : Ctx D w0 w (a5 :: a0 :: a1 :: a2 :: a3 :: a4 :: l) := h.front 5 rfl
theorem Ctx.f6 {a0 a1 a2 a3 a4 a5 a6 : Item} {l : List Item} (h : Ctx D w0 w (a0 :: a1 :: a2 :: a3 :: a4 :: a5 :: a6 :: l)) : Ctx D w0 w (a6 :: a0 :: a1 :: a2 :: a3 :: a4 :: a5 :: l) := h.front 6 rfl
theorem Ctx.f7 {a0 a1 a2 a3 a4 a5 a6 a7 : Item} {l : List Item} (h : Ctx D w0 w (a0 :: a1 :: a2 :: a3 :: a4 :: a5 :: a6 :: a7 :: l)) : Ctx D w0 w (a7 :: a0 :: a1 :: a2 :: a3 :: a4 :: a5 :: a6 :: l) := h.front 7 rfl
theorem Ctx.f8 {a0 a1 a2 a3 a4 a5 a6 a7 a8 : Item} {l : List Item} (h : Ctx D w0 w (a0 :: a1 :: a2 :: a3 :: a4 :: a5 :: a6 :: a7 :: a8 :: l)) : Ctx D w0 w (a8 :: a0 :: a1 :: a2 :: a3 :: a4 :: a5 :: a6 :: a7 :: l) := h.front 8 rfl
theorem Ctx.f10 {a0 a1 a2 a3 a4 a5 a6 a7 a8 a9 a10 : Item} {l : List Item} (h : Ctx D w0 w (a0 :: a1 :: a2 :: a3 :: a4 :: a5 :: a6 :: a7 :: a8 :: a9 :: a10 :: l)) : Ctx D w0 w (a10 :: a0 :: a1 :: a2 :: a3 :: a4 :: a5 :: a6 :: a7 :: a8 :: a9 :: l) := h.front 10 rfl
theorem Ctx.f20 {a0 a1 a2 a3 a4 a5 a6 a7 a8 a9 a10 a11 a12 a13 a14 a15 a16 a17 a18 a19 a20 : Item} {l : List Item} (h : Ctx D w0 w (a0 :: a1 :: a2 :: a3 :: a4 :: a5 :: a6 :: a7 :: a8 :: a9 :: a10 :: a11 :: a12 :: a13 :: a14 :: a15 :: a16 :: a17 :: a18 :: a19 :: a20 :: l)) : Ctx D w0 w (a20 :: a0 :: a1 :: a2 :: a3 :: a4 :: a5 :: a6 :: a7 :: a8 :: a9 :: a10 :: a11 :: a12 :: a13 :: a14 :: a15 :: a16 :: a17 :: a18 :: a19 :: l) := h.front 20 rfl
theorem Ctx.h1 {a0 : Item} {l : List Item} (h : Ctx D w0 w (a0 :: l)) : Ctx D w0 w [a0] := h.headN 1
theorem Ctx.h2 {a0 a1 : Item} {l : List Item} (h : Ctx D w0 w (a0 :: a1 :: l)) : Ctx D w0 w [a0, a1] := h.headN 2
theorem Ctx.h3 {a0 a1 a2 : Item} {l : List Item} (h : Ctx D w0 w (a0 :: a1 :: a2 :: l)) : Ctx D w0 w [a0, a1, a2] := h.headN 3
theorem Ctx.h4 {a0 a1 a2 a3 : Item} {l : List Item} (h : Ctx D w0 w (a0 :: a1 :: a2 :: a3 :: l)) : Ctx D w0 w [a0, a1, a2, a3] := h.headN 4
theorem Ctx.h5 {a0 a1 a2 a3 a4 : Item} {l : List Item} (h : Ctx D w0 w (a0 :: a1 :: a2 :: a3 :: a4 :: l)) : Ctx D w0 w [a0, a1, a2, a3, a4] := h.headN 5
theorem Ctx.h6 {a0 a1 a2 a3 a4 a5 : Item} {l : List Item} (h : Ctx D w0 w (a0 :: a1 :: a2 :: a3 :: a4 :: a5 :: l)) : Ctx D w0 w [a0, a1, a2, a3, a4, a5] := h.headN 6
theorem Ctx.h7 {a0 a1 a2 a3 a4 a5 a6 : Item} {l : List Item} (h : Ctx D w0 w (a0 :: a1 :: a2 :: a3 :: a4 :: a5 :: a6 :: l)) : Ctx D w0 w [a0, a1, a2, a3, a4, a5, a6] := h.headN 7
theorem Ctx.h8 {a0 a1 a2 a3 a4 a5 a6 a7 : Item} {l : List Item} (h : Ctx D w0 w (a0 :: a1 :: a2 :: a3 :: a4 :: a5 :: a6 :: a7 :: l)) : Ctx D w0 w [a0, a1, a2, a3, a4, a5, a6, a7] := h.headN 8
theorem Ctx.h9 {a0 a1 a2 a3 a4 a5 a6 a7 a8 : Item} {l : List Item} (h : Ctx D w0 w (a0 :: a1 :: a2 :: a3 :: a4 :: a5 :: a6 :: a7 :: a8 :: l)) : Ctx D w0 w [a0, a1, a2, a3, a4, a5, a6, a7, a8] := h.headN 9
theorem Ctx.h10 {a0 a1 a2 a3 a4 a5 a6 a7 a8 a9 : Item} {l : List Item} (h : Ctx D w0 w (a0 :: a1 :: a2 :: a3 :: a4 :: a5 :: a6 :: a7 :: a8 :: a9 :: l)) : Ctx D w0 w [a0, a1, a2, a3, a4, a5, a6, a7, a8, a9] := h.headN 10
theorem Ctx.h11 {a0 a1 a2 a3 a4 a5 a6 a7 a8 a9 a10 : Item} {l : List Item} (h : Ctx D w0 w (a0 :: a1 :: a2 :: a3 :: a4 :: a5 :: a6 :: a7 :: a8 :: a9 :: a10 :: l)) : Ctx D w0 w [a0, a1, a2, a3, a4, a5, a6, a7, a8, a9, a10] := h.headN 11
theorem Ctx.h12 {a0 a1 a2 a3 a4 a5 a6 a7 a8 a9 a10 a11 : Item} {l : List Item} (h : Ctx D w0 w (a0 :: a1 :: a2 :: a3 :: a4 :: a5 :: a6 :: a7 :: a8 :: a9 :: a10 :: a11 :: l)) : Ctx D w0 w [a0, a1, a2, a3, a4, a5, a6, a7, a8, a9, a10, a11] := h.headN 12
theorem Ctx.h0 {l : List Item} (h : Ctx D w0 w l) : Ctx D w0 w [] := h.headN 0
end
section
variable {P : Program} {n : Nat} {l : Env} {ops : Array Oper} {K : Env → World → Prop} {w : World} {listed : Array Bool} {f : Nat} {o : Oper}
theorem WA_tk (i : Nat) (hb : (Region.noSelect ops && (Region.free .any ops listed i && (Region.ready .any ops listed).contains i)) = true) (ho : ops[i]? = some o) (hg : o.guard = none) (hfl : Fl P l o)
  (h : WL P n ops (fun l' w' => WA P n ops K f (listed.setIfInBounds i true) l' w') [o] l w) : WA P n ops K (f + 1) listed l w := by
 simp only [Bool.and_eq_true] at hb
 exact WA_take i ho hb.1 hb.2.1 hb.2.2 hg hfl h
theorem WA_sk (i : Nat) {d : Nat} {j : Nat} {want : Bool} {t : Nat} {u : Value} (hb : (Region.noSelect ops && (Region.free .any ops listed i && (Region.ready .any ops listed).contains i)) = true) (ho : ops[i]? = some o)
  (hg : o.guard = some (j, want)) (hj : ((ops[j]?).bind (·.dst)) = some t) (ht : look l t = some u) (hu : u ≠ .bool want) (hd : o.dst = some d) (hdn : Nat.blt d n = true)
  (h : WA P n ops K f (listed.setIfInBounds i true) ((d, undef) :: l) w) : WA P n ops K (f + 1) listed l w := by
 simp only [Bool.and_eq_true] at hb
 exact WA_skip i ho hb.1 hb.2.1 hb.2.2 hg hj ht hu hd hdn h
end
end Go.Gx
