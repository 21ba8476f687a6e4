/- FnRepairs: for every input the law answers true, and each argument reads as it did. Conditions: none. -/
import Derived.Test.YthidohmobbomfaaGreatC8
import Derived.Test.YthidohmobbomfaaGreatPqs11r
import Derived.Test.YthidohmobbomfaaGreatRows
import Derived.Test.YthidohmobbomfaaGreatGxG
import Derived.WalkKit
import Derived.ProofKit
import Derived.OpenShut
import Derived.ShutString
import Derived.Carry
namespace Go.Proofs.YthidohmobbomfaaGreat.fnRepairs
open Go.ChangeShapes Go.WideShapes Go.ChangeAt Go.RowKit Go.Gx Go.Gx.Px
open Go.ChangeMaps (open_string shut_string)
set_option linter.unusedVariables false
set_option linter.unusedSimpArgs false

theorem own:ownKnob Tryz.prog.godebug=none:=by kernel_rfl
theorem laid:laidOutB Tryz.prog=true:=by kernel_rfl
theorem opens5:Opens Tryz.prog 5 UInt8:=opens_u8 Tryz.underlying5
theorem opens22:Opens Tryz.prog 22 (List UInt8):=opens_slice Tryz.underlying22 opens5 (by kernel_rfl) (by decide)

set_option maxRecDepth 100000 in
theorem lifted (os:Os) (started:os.Started) (H:Type) (enc:TypeId × Value→H) :
    ReturnsInHanded {} Tryz.checked os 3 .any (Rows.fnRepairsSpec.pre6 enc Tryz.prog Tryz.f3 Rows.fnRepairsRow.domain false) (Rows.fnRepairsSpec.post enc Tryz.prog Tryz.f3 false true false false):=by
  refine returnsInHanded_of_change (C:=Tryz.checked) own started (by kernel_rfl) Tryz.func3
    (ChangeSpec.witness6 (enc:=enc) (C:=Tryz.checked) false ⟨#[],#[.slice none 0 0],[]⟩ 8 (by kernel_rfl) (by kernel_rfl) (by kernel_rfl) (by kernel_rfl)) ?_
  intro W base args ds gs before hval0 hW hcnd _
  have hval:∀(j:Nat) t v,Tryz.f3.params[j]?=some t→args[j]?=some v→Value.okWide Tryz.prog W .any base t v:=hval0
  have hW':=hW
  obtain ⟨p,q,hA0,hV,rfl,hfz,hnd⟩:=hW
  have hA:DataW.TrodAll enc Tryz.prog W 0 (fun _=>true) true Tryz.f3.params.toList args.toList ds p:=hA0
  rw [Tryz.params3] at hA hval
  obtain ⟨v0,vs0,d0,ds0,p0,q0,hargs,rfl,rfl,h0,r0⟩:=trodAll_cons hA
  obtain ⟨rfl,rfl,rfl⟩:=trodAll_nil r0
  obtain rfl:args=#[v0]:=by cases args; simp_all
  obtain ⟨rfl,rfl⟩:=trodVars_none hV
  clear hA0 hval0
  simp only [List.append_nil] at hW'
  have hlt:=hW'.lt
  have k0:=h0
  obtain ⟨a0,len0,cap0,rfl⟩:=okWide_slice Tryz.underlying22 (hval 0 22 v0 rfl rfl)
  obtain ⟨x0,g0,b0⟩:=ro_of_trod (v:=.slice a0 len0 cap0) opens22 rfl h0
  refine (c_Q_FnRepairs x0 _ g0 true (p_FnRepairs x0 b0)).mono ?_
  rintro e W' ⟨v,rfl,hres⟩
  obtain ⟨rfl,hb⟩:=res_bool hres
  exact ⟨_,rfl,_,_,_,[],_,[],hW',trodAll_cons_mk (shut_bool Tryz.underlying4 _) trodAll_mk0,(trodAll_cons_mk (Below.trod laid (by kernel_rfl) (of_decide_eq_true (by kernel_rfl)) k0 hb (fun x hx=>hlt x (by simp [hx]))) trodAll_mk0),rfl,hb.frame _,fun h=>by cases h⟩

theorem over:Rows.fnRepairsRow.holds Tryz.pinned (OpenSpec.ofChange Rows.fnRepairsSpec) :=
  OpenClaim.holds_of_wide 3 Tryz.f3 rfl rfl rfl rfl rfl rfl rfl ⟨rfl,rfl,rfl,rfl,rfl⟩ rfl rfl rfl rfl rfl (by kernel_rfl) Tryz.func3 (by kernel_rfl)
    (of_decide_eq_true (by kernel_rfl)) (by unfold Func.isWrapper; first | (rw [if_pos (by decide +kernel)]; kernel_rfl) | (rw [if_neg (by decide +kernel)]; exact ⟨rfl,rfl⟩))
    (fun os started H enc _=>lifted os started H enc)

theorem proved:Rows.FnRepairsSaid :=
  over
#print axioms proved
end Go.Proofs.YthidohmobbomfaaGreat.fnRepairs
