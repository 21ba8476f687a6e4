/- FnPages: for every input the law answers true, and each argument reads as it did. Conditions: none. -/
import Derived.Test.YtbfmhlhjkbimmaaGreatDoorC3
import Derived.Test.YtbfmhlhjkbimmaaGreatDoorPqs9
import Derived.Test.YtbfmhlhjkbimmaaGreatDoorRows
import Derived.Test.YtbfmhlhjkbimmaaGreatDoorGxG
import Derived.WalkKit
import Derived.ProofKit
import Derived.OpenShut
import Derived.ShutString
import Derived.Carry
import Derived.Test.YtbfmhlhjkbimmaaGreatDoorCards
import Derived.Test.YtbfmhlhjkbimmaaGreatDoorTie
import Derived.SevenTiedAt
import Derived.LaidMore
import Derived.Stop.Joined
import Derived.Test.YtbfmhlhjkbimmaaGreatDoorGxLw
import Derived.LaidLaws
import Derived.Lay
namespace Go.Proofs.YtbfmhlhjkbimmaaGreatDoor.fnPages
open Go.ChangeShapes Go.WideShapes Go.ChangeAt Go.RowKit Go.Gx Go.Gx.Px
open Go.ChangeMaps (open_string shut_string)
set_option linter.unusedVariables false
set_option linter.unusedSimpArgs false

theorem own : ownKnob Tryz.prog.godebug = none := by kernel_rfl
theorem laid : laidOutB Tryz.prog = true := by kernel_rfl
theorem opens5 : Opens Tryz.prog 5 UInt8 := opens_u8 Tryz.underlying5
theorem opens32 : Opens Tryz.prog 32 (List UInt8) := opens_slice Tryz.underlying32 opens5 (by kernel_rfl) (by decide)
theorem tabE : (Rows.laid_internal_strconv_uint64pow10 : DataW Unit) = Lib.tabData .u64 Lib.pow10Tab := by kernel_rfl
theorem tabG : Tryz.prog.globalNamed pwN = some 3 := by kernel_rfl
theorem tabT : (Tryz.prog.globals[3]?).map (·.type) = some 166 := by kernel_rfl
theorem glR : Tryz.prog.globalNamed (Rows.fnPagesRow.named.getD 5 "") = some 2 := by kernel_rfl
theorem tyR : (Tryz.prog.globals[2]?).map (·.type) = some 83 := by kernel_rfl
theorem glS : Tryz.prog.globalNamed (Rows.fnPagesRow.named.getD 4 "") = some 1 := by kernel_rfl
theorem tyS : (Tryz.prog.globals[1]?).map (·.type) = some 83 := by kernel_rfl
theorem err_of {n : String} {W : World} {g t fu : Nat} {cs : Array Value} {nm : String} {d : DataW Unit} {p : List MemPlace} {ms : Array (String × TypeId)} (hi : Tryz.prog.underlying t = some (.interface ms)) (hg : Tryz.prog.globalNamed n = some g) (hv : W.var? Tryz.prog n = some cs)
    (hd : ∃ enc : TypeId × Value → Unit, DataW.trod enc Tryz.prog W 0 (fun _ => true) false fu t cs.toList = some (.iface nm d, p)) : SomeErr g W := by
  obtain ⟨enc, hd⟩ := hd
  obtain ⟨_, u, v, e, _⟩ := iface_of_trod hi hd
  have c := World.var?_cell hg hv 0
  have e2 : cs[0]? = some (.iface u v) := by rw [← Array.getElem?_toList, e]; rfl
  exact ⟨.iface u v, c.trans e2, .inr ⟨u, v, rfl⟩⟩
theorem tab_of_laid {W : World} (h : laidMetH Tryz.prog Rows.fnPagesRow.laid W) (hS : W.ShapedOpen Tryz.prog) : HasTab W := by
  rw [MakeChecks.laidMetH_plain _ _ _ (by kernel_rfl)] at h
  obtain ⟨ps, ⟨_, _, _, _, _, _, _, _, _, _, ⟨_, _, _, _, _, _, _, _, _, _, ⟨g, t, cs, fu, p, q, hg, ht, hv, hd, ⟨_, _, _, _, _, _, _, _, _, _, ⟨gR, tR, csR, fuR, pR, qR, hgR, htR, hvR, hdR, ⟨gS, tS, csS, fuS, pS, qS, hgS, htS, hvS, hdS, _, _⟩, _⟩, _⟩, _⟩, _⟩, _⟩, _⟩ := h
  obtain rfl := Option.some.inj (tabG.symm.trans hg)
  obtain rfl := Option.some.inj (tabT.symm.trans ht)
  rw [tabE] at hd
  obtain rfl := Option.some.inj (glR.symm.trans hgR)
  obtain rfl := Option.some.inj (glS.symm.trans hgS)
  obtain rfl := Option.some.inj (tyR.symm.trans htR)
  obtain rfl := Option.some.inj (tyS.symm.trans htS)
  refine ⟨?_, Tryz.laysM145.s1_3 W hS, err_of Tryz.underlying83 hgS hvS ⟨_, hdS⟩, err_of Tryz.underlying83 hgR hvR ⟨_, hdR⟩⟩
  show W.var? Tryz.prog pwN = _
  rw [show W.var? Tryz.prog pwN = _ from hv, ← Lib.cells_of_tab Tryz.underlying166 Tryz.underlying143 (by kernel_rfl) (by kernel_rfl) hd]

set_option maxRecDepth 100000 in
theorem lifted (os : Os) (started : os.Started) (H : Type) (enc : TypeId × Value → H) :
    ReturnsInHanded {} Tryz.checked os 4 .any (fun w args => (Rows.fnPagesSpec.pre enc Tryz.prog Tryz.f4 [] false w args ∧ laidMetH Tryz.prog Rows.fnPagesRow.laid w) ∧ sizedMet enc Tryz.prog Tryz.f4 (OpenSpec.ofChange Rows.fnPagesSpec) false w args) (Rows.fnPagesSpec.post enc Tryz.prog Tryz.f4 false true false false) := by
  refine Go.Gx.returns_shaped (C := Tryz.checked) (X := fun w _ => laidMetH Tryz.prog Rows.fnPagesRow.laid w) (fun _ _ _ hh h => h.of_heap hh) own started (by kernel_rfl) Tryz.func4
    (ChangeSpec.witness_shaped (enc := enc) (C := Tryz.checked) (os := os) (X := fun w _ => laidMetH Tryz.prog Rows.fnPagesRow.laid w) false (World.laidAll Tryz.prog os Rows.fnPagesRow.laid) #[.slice none 0 0] 8 (World.laidAll_os _ _ _) (World.shaped_of_ZipB (by kernel_rfl) (by kernel_rfl)) (by kernel_rfl) (by kernel_rfl) (by kernel_rfl) (by rw [MakeChecks.laidMetH_plain _ _ _ (by kernel_rfl)]; exact laidMet_laidAll _ (by kernel_rfl) (by kernel_rfl))) ?_
  intro W base args ds gs before hval0 hW hL hS
  have hval : ∀ (j : Nat) t v, Tryz.f4.params[j]? = some t → args[j]? = some v → Value.okWide Tryz.prog W .any base t v := hval0
  have hW' := hW
  obtain ⟨p, q, hA0, hV, rfl, hfz, hnd⟩ := hW
  have hA : DataW.TrodAll enc Tryz.prog W 0 (fun _ => true) true Tryz.f4.params.toList args.toList ds p := hA0
  rw [Tryz.params4] at hA hval
  obtain ⟨v0, vs0, d0, ds0, p0, q0, hargs, rfl, rfl, h0, r0⟩ := trodAll_cons hA
  obtain ⟨rfl, rfl, rfl⟩ := trodAll_nil r0
  obtain rfl : args = #[v0] := by cases args; simp_all
  obtain ⟨rfl, rfl⟩ := trodVars_none hV
  clear hA0 hval0
  simp only [List.append_nil] at hW'
  have hlt := hW'.lt
  have k0 := h0
  obtain ⟨a0, len0, cap0, rfl⟩ := okWide_slice Tryz.underlying32 (hval 0 32 v0 rfl rfl)
  obtain ⟨x0, g0, b0⟩ := ro_of_trod (v := .slice a0 len0 cap0) opens32 rfl h0
  refine (c_Q_FnPages (tab_of_laid hL hS) x0 _ g0 true (p_FnPages x0 b0)).mono ?_
  rintro e W' ⟨v, rfl, hres⟩
  obtain ⟨rfl, hb⟩ := res_bool hres
  exact ⟨_, rfl, _, _, _, [], _, [], hW', trodAll_cons_mk (shut_bool Tryz.underlying4 _) trodAll_mk0, (trodAll_cons_mk (Below.trod laid (by kernel_rfl) (of_decide_eq_true (by kernel_rfl)) k0 hb (fun x hx => hlt x (by simp [hx]))) trodAll_mk0), rfl, hb.frame _, fun h => by cases h⟩

theorem over : Rows.fnPagesRow.holds Tryz.pinned (OpenSpec.ofChange Rows.fnPagesSpec) :=
  OpenClaim.holds_of_wide 4 Tryz.f4 rfl rfl rfl rfl rfl rfl rfl ⟨rfl, rfl, rfl, rfl, rfl⟩ rfl rfl rfl rfl rfl (by kernel_rfl) Tryz.func4 (by kernel_rfl)
    (of_decide_eq_true (by kernel_rfl)) (by unfold Func.isWrapper; first | (rw [if_pos (by decide +kernel)]; kernel_rfl) | (rw [if_neg (by decide +kernel)]; exact ⟨rfl, rfl⟩))
    (fun os started H enc _ => lifted os started H enc)

theorem proved : Rows.FnPagesCardSaid :=
  Claim7.holds_tied_plain_at .later [] [.data, .data, .data, .data, .sentinel, .sentinel, .pinned] true (true, "55e819e5f2d9b21a55050118edf6684071b1b20302c500e614404509cf8fc674") true
    over (fun _ h => by cases h) (by kernel_rfl) (fun _ h => by cases h) fnPages_row_tie rfl ⟨rfl, rfl⟩ (by kernel_rfl) rfl
    (fun f fn hf hfn => by
      obtain rfl : f = 4 := Option.some.inj ((show Tryz.prog.funcNamed Rows.fnPagesRow.func = some 4 by kernel_rfl).symm.trans hf) |>.symm
      obtain rfl : fn = Tryz.f4 := (Option.some.inj (Tryz.func4.symm.trans hfn)).symm
      exact ⟨by kernel_rfl, fun j t ht => by
        rw [Tryz.params4] at ht
        have hm : t ∈ [32] := by simpa using Array.mem_of_getElem? ht
        have hall : ([32].all fun u => !Tryz.prog.wantsStandIn u) = true := by kernel_rfl
        exact (show Tryz.prog.wantsStandIn t = false by simpa using List.all_eq_true.1 hall t hm)⟩)
    (by kernel_rfl)
#print axioms proved
end Go.Proofs.YtbfmhlhjkbimmaaGreatDoor.fnPages
