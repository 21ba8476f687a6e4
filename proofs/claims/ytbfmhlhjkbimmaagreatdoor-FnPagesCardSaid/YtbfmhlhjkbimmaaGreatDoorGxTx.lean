/- Library functions on texts by the kit's contracts: cut, split, trimmed, numbers read. Conditions: each says them. -/
import Derived.Test.YtbfmhlhjkbimmaaGreatDoorGxTd
import Derived.Test.YtbfmhlhjkbimmaaGreatDoorGxSh
import Derived.Shelf.Strings.Prefix
import Derived.Shelf.Strings.Cut
import Derived.Shelf.Strings.Split
import Derived.Shelf.Strconv.AtoiAll
import Derived.Shelf.Vars
set_option linter.unusedVariables false
set_option linter.unusedSimpArgs false
namespace Go.Gx
open Go.RowKit Go.Proofs Go.Shelf
def ErrB (q : Value) (b : Bool) : Prop := (b = false ∧ q = .nilIface) ∨ (b = true ∧ ∃ t p, q = .iface t (.pointer p))
def ResE (w : World) (rr : Int × Bool) (v : Value) (w' : World) : Prop := Below w.heap.size w w' ∧ ∃ q, v = .tuple #[.int .i64 rr.1, q] ∧ ErrB q rr.2
theorem below_bytes (w : World) (T : TypeId) (t : ByteArray) : Below w.heap.size w (Lib.bytesWorld w T t) := Lib.bytesWorld_below _ _ _
theorem below_drewN (w : World) (n : Nat) : Below w.heap.size w (w.drewN n) := ⟨rfl, rfl, rfl, Nat.le_refl _, fun _ _ => rfl⟩
theorem cell_keep {w w' : World} {a : Nat} {v : Value} (h : w.cell? ⟨a, 0, none⟩ = some v) (K : Keep [] w w') : w'.cell? ⟨a, 0, none⟩ = some v := by
 have hlt : a < w.heap.size := Lib.lt_of_cell h
 have := K.block a hlt (by simp)
 unfold World.cell? at h ⊢
 rw [this]; exact h
def IsErr (ev : Value) : Prop := ev = .nilIface ∨ ∃ te pe, ev = .iface te pe
def SomeInt (g : Nat) (w : World) : Prop := ∃ m, w.cell? ⟨g, 0, none⟩ = some (.int .i64 m)
def SomeErr (g : Nat) (w : World) : Prop := ∃ ev, w.cell? ⟨g, 0, none⟩ = some ev ∧ IsErr ev
theorem SomeInt.keep {g : Nat} {w w' : World} (h : SomeInt g w) (K : Keep [] w w') : SomeInt g w' := h.imp fun _ h => cell_keep h K
theorem SomeErr.keep {g : Nat} {w w' : World} (h : SomeErr g w) (K : Keep [] w w') : SomeErr g w' := h.imp fun _ h => ⟨cell_keep h.1 K, h.2⟩
theorem str_elems {m : Bool} {w : World} : ∀ l : List Str, elems m w (l.map sv) l []
 | [] => ⟨rfl, rfl⟩
 | a :: l => ⟨[sv a], l.map sv, [], [], rfl, rfl, ⟨rfl, rfl⟩, str_elems l⟩
theorem strs_val {w : World} {b n : Nat} {T : TypeId} {Ls : List Str} (hn : Ls.length = n) (hm : n ≤ maxLen) (h : w.heap[b]? = some (.cells (Ls.map sv).toArray T (0, 0))) :
  Val true w (.slice (some ⟨b, 0, none⟩) n n) Ls [b] := by
 subst hn
 exact ⟨[_], rfl, some ⟨b, 0, none⟩, Ls.length, rfl, Nat.le_refl _, hm, .inr (.inr ⟨b, 0, _, T, (0, 0), _, [], rfl, h, rfl, str_elems Ls, by
  rw [List.drop_zero]; exact List.take_of_length_le (by rw [List.length_map]; exact Nat.le_of_eq (Nat.mul_one _).symm), fun _ => ⟨rfl, rfl, by rw [List.size_toArray, List.length_map]; exact (Nat.mul_one _).symm⟩⟩)⟩
section
variable {P : Program} {ρ : Shelf.Ren} {w0 : World}
theorem cut_calls (L : Lays.n145 P ρ) (hm : SomeInt (ρ.g 1) w0) (a1 a2 : Str) (rr : Str × Str × Bool) (hF : cutS a1 a2 = some rr) :
  Calls P (ρ.f 145) [sv a1, sv a2].toArray w0 fun e w' => ∃ v, e = .returned v ∧ Res3 w0 rr.1 rr.2.1 rr.2.2 v w' := by
 unfold cutS at hF
 split at hF
 ·rename_i h
  obtain rfl := Option.some.inj hF
  obtain ⟨m, hm⟩ := hm
  refine (Any.strings_Cut L (bytesOf a1) (bytesOf a2) m w0 h hm).mono ?_
  rintro e w' ⟨rfl, n, rfl⟩
  exact ⟨_, rfl, below_drewN _ _, _, _, _, [], [], [], rfl, str_val _, str_val _, bool_val _, by simp, by simp⟩
 ·cases hF
theorem suffix_calls (L : Lays.n100 P ρ) (a1 a2 : Str) (rr : Bool) (hF : hasSuffixS a1 a2 = some rr) :
  Calls P (ρ.f 100) [sv a1, sv a2].toArray w0 fun e w' => ∃ v, e = .returned v ∧ Res w0 rr v w' := by
 unfold hasSuffixS at hF
 split at hF
 ·rename_i h
  obtain rfl := Option.some.inj hF
  refine (Any.strings_HasSuffix L (bytesOf a1) (bytesOf a2) w0 (Nat.le_trans (Nat.le_of_lt (show (bytesOf a1).size < 4294967281 from h)) (by decide))).mono ?_
  rintro e w' ⟨rfl, rfl⟩
  exact ⟨_, rfl, Below.refl _ _, [], bool_val _, by simp, by simp⟩
 ·cases hF
theorem trimp_calls (L : Lays.n101 P ρ) (a1 a2 : Str) (rr : Str) (hF : trimPrefixS a1 a2 = some rr) :
  Calls P (ρ.f 101) [sv a1, sv a2].toArray w0 fun e w' => ∃ v, e = .returned v ∧ Res w0 rr v w' := by
 obtain rfl := Option.some.inj hF
 refine (Any.strings_TrimPrefix L (bytesOf a1) (bytesOf a2) w0).mono ?_
 rintro e w' ⟨rfl, rfl⟩
 exact ⟨_, rfl, str_done (Below.refl _ _) _⟩
theorem trimx_calls (L : Lays.n102 P ρ) (a1 a2 : Str) (rr : Str) (hF : trimSuffixS a1 a2 = some rr) :
  Calls P (ρ.f 102) [sv a1, sv a2].toArray w0 fun e w' => ∃ v, e = .returned v ∧ Res w0 rr v w' := by
 unfold trimSuffixS at hF
 split at hF
 ·rename_i h
  obtain rfl := Option.some.inj hF
  refine (Any.strings_TrimSuffix L (bytesOf a1) (bytesOf a2) w0 (Nat.le_trans (Nat.le_of_lt (show (bytesOf a1).size < 4294967281 from h)) (by decide))).mono ?_
  rintro e w' ⟨rfl, rfl⟩
  exact ⟨_, rfl, str_done (Below.refl _ _) _⟩
 ·cases hF
theorem split_calls (L : Lays.n146 P ρ) (hi9 : (P.info? (ρ.t 9)).map (fun i => (i.zero, i.size, i.bytes)) = some (some (.string ByteArray.empty), 1, 16)) (hm : SomeInt (ρ.g 1) w0) (a1 a2 : Str) (rr : List Str) (hF : splitS a1 a2 = some rr) :
  Calls P (ρ.f 146) [sv a1, sv a2].toArray w0 fun e w' => ∃ v, e = .returned v ∧ Res w0 rr v w' := by
 unfold splitS at hF
 split at hF
 ·rename_i h
  obtain rfl := Option.some.inj hF
  obtain ⟨m, hm⟩ := hm
  refine (Any.strings_Split L hi9 (bytesOf a1) (bytesOf a2) m w0 h.1 hm h.2).mono ?_
  rintro e w' ⟨rfl, rfl⟩
  have hd : (Lib.splitB (bytesOf a2) 0 (Lib.countB (bytesOf a1) (bytesOf a2)) (bytesOf a1)).map (fun x => x.data.toList) = Lib.splitK a2 0 (Lib.count a1 a2) a1 := Lib.splitB_data (bytesOf a2) 0 _ (bytesOf a1)
  have hl : (Lib.splitB (bytesOf a2) 0 (Lib.countB (bytesOf a1) (bytesOf a2)) (bytesOf a1)).length = Lib.countB (bytesOf a1) (bytesOf a2) + 1 := Lib.splitB_all (bytesOf a2) h.2 0 _ (bytesOf a1) rfl
  have hc := Lib.countB_le (bytesOf a2) h.2 (bytesOf a1).size (bytesOf a1) (Nat.le_refl _)
  have hs : (bytesOf a1).size < 4294967281 := h.1
  have hl2 : (Lib.splitK a2 0 (Lib.count a1 a2) a1).length = Lib.countB (bytesOf a1) (bytesOf a2) + 1 := by rw [← hd, List.length_map, hl]
  have hcells : (Lib.splitB (bytesOf a2) 0 (Lib.countB (bytesOf a1) (bytesOf a2)) (bytesOf a1)).map Value.string = (Lib.splitK a2 0 (Lib.count a1 a2) a1 : List Str).map sv := by
   rw [← hd]
   erw [List.map_map]
   rfl
  refine ⟨_, rfl, below_alloc _ _, [w0.heap.size], ?_, by simp, by simp⟩
  refine strs_val (T := ρ.t 9) (Ls := Lib.splitK a2 0 (Lib.count a1 a2) a1) hl2 (by simp only [maxLen]; omega) ?_
  rw [← hcells]
  show (w0.heap.push _)[w0.heap.size]? = _
  simp
 ·cases hF
theorem atoi_calls (L : LaysC.n172 P ρ) (h15 : SomeErr (ρ.g 15) w0) (h16 : SomeErr (ρ.g 16) w0) (a1 : Str) (rr : Int × Bool) (hF : atoiP a1 = some rr) :
  Calls P (ρ.f 172) [sv a1].toArray w0 fun e w' => ∃ v, e = .returned v ∧ ResE w0 rr v w' := by
 unfold atoiP at hF
 split at hF
 ·rename_i h
  obtain rfl := Option.some.inj hF
  have hs : (bytesOf a1).size < 4294967281 := h
  obtain ⟨e1, h1, h1'⟩ := h15
  obtain ⟨e2, h2, h2'⟩ := h16
  cases hA : Lib.atoiAll a1 with
  | ok v =>
   refine (Any.strconv_Atoi_ok L (bytesOf a1) (by omega) v hA w0).mono ?_
   rintro e w' ⟨rfl, hw⟩
   refine ⟨_, rfl, ?_, _, rfl, .inl ⟨rfl, rfl⟩⟩
   rcases hw with rfl | ⟨t, rfl⟩
   ·exact Below.refl _ _
   ·exact below_bytes _ _ _
  | range =>
   refine (Any.strconv_Atoi_range L (bytesOf a1) (by omega) hA e2 w0 h2 h2').mono ?_
   rintro e w' ⟨N, rfl, -, -, hB⟩
   exact ⟨_, rfl, hB, _, rfl, .inr ⟨rfl, _, _, rfl⟩⟩
  | _ =>
   refine (Any.strconv_Atoi_syntax L (bytesOf a1) (by omega) hA e1 w0 h1 h1').mono ?_
   rintro e w' ⟨N, rfl, -, -, hB⟩
   exact ⟨_, rfl, hB, _, rfl, .inr ⟨rfl, _, _, rfl⟩⟩
 ·cases hF
end
section
variable {P : Program} {n : Nat} {l : Env} {w : World} {ops : Array Oper} {K : Env → World → Prop} {os : List Oper} {d : Nat} {T U V : TypeId} {pos : String} {aft : Array Edge} {x : Operand}
theorem run_err {q : Value} {b : Bool} {ms : Array (String × TypeId)} (hu : P.underlying U = some (.interface ms)) (h : ErrB q b) : (Op.equal U q .nilIface).run P w = .ok (!b) w := by
 unfold Op.equal Op.maxDepth Op.equalIn
 rcases h with ⟨rfl, rfl⟩ | ⟨rfl, t, p, rfl⟩ <;> simp [run_underlying hu]
theorem WL_err_neq {q : Value} {b : Bool} {ms : Array (String × TypeId)} (hu : P.underlying U = some (.interface ms)) (hq : ErrB q b) (hd : Nat.blt d n = true) (hx : ev l x = some q) (h : WL P n ops K os ((d, .bool b) :: l) w) :
  WL P n ops K (⟨some d, .binOp .neq U x (.const .nilIface) V, T, pos, aft, none⟩ :: os) l w := by
 have hr := run_err (w := w) hu hq
 have hg : (eqGuard .neq U x (.const .nilIface) q .nilIface).run P w = .ok () w := by
  rcases hq with ⟨rfl, rfl⟩ | ⟨rfl, t, p, rfl⟩ <;> simp [eqGuard]
 refine WL_val rfl rfl hd (fun ρ hρ => ?_) h
 have hc : ρ (.const .nilIface) = .nilIface := hρ _ _ rfl
 have hb : binOp .neq U q .nilIface = (do pure (.bool (!(← Op.equal U q .nilIface)))) := by rcases hq with ⟨rfl, rfl⟩ | ⟨rfl, t, p, rfl⟩ <;> rfl
 simp only [execOp, hρ x _ hx, hc, Sem.run_bind, hg, Result.andThen_ok, hb, hr, Sem.run_pure, Bool.not_not]
end
end Go.Gx
