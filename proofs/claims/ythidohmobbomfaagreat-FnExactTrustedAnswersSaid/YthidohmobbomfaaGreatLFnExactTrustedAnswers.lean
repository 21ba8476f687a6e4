/- FnExactTrustedAnswers: for every input the law answers true, and each argument reads as it did. Conditions: none. -/
import Derived.Test.YthidohmobbomfaaGreatC7
import Derived.Test.YthidohmobbomfaaGreatPqs11
import Derived.Test.YthidohmobbomfaaGreatRows
import Derived.Test.YthidohmobbomfaaGreatGxG
import Derived.WalkKit
import Derived.ProofKit
import Derived.OpenShut
import Derived.ShutString
import Derived.Carry
namespace Go.Proofs.YthidohmobbomfaaGreat.fnExactTrustedAnswers
open Go.ChangeShapes Go.WideShapes Go.ChangeAt Go.RowKit Go.Gx Go.Gx.Px
open Go.ChangeMaps (open_string shut_string)
set_option linter.unusedVariables false
set_option linter.unusedSimpArgs false

theorem own:ownKnob Tryz.prog.godebug=none:=by kernel_rfl
theorem laid:laidOutB Tryz.prog=true:=by kernel_rfl
theorem opens3:Opens Tryz.prog 3 Int:=opens_int Tryz.underlying3
theorem opens24:Opens Tryz.prog 24 (List Int):=opens_slice Tryz.underlying24 opens3 (by kernel_rfl) (by decide)
theorem opens103:Opens Tryz.prog 103 (Int × (List Int) × Int × Int × Int):=opens_struct Tryz.underlying103 (opensFs_cons opens3 rfl (by kernel_rfl) (opensFs_cons opens24 rfl (by kernel_rfl) (opensFs_cons opens3 rfl (by kernel_rfl) (opensFs_cons opens3 rfl (by kernel_rfl) (opensFs_one opens3 rfl (by kernel_rfl)))))) (by kernel_rfl)
theorem opens47:Opens Tryz.prog 47 (List (Int × (List Int) × Int × Int × Int)):=opens_slice Tryz.underlying47 opens103 (by kernel_rfl) (by decide)
theorem opens152:Opens Tryz.prog 152 (Int × (List Int)):=opens_struct Tryz.underlying152 (opensFs_cons opens3 rfl (by kernel_rfl) (opensFs_one opens24 rfl (by kernel_rfl))) (by kernel_rfl)
theorem opens48:Opens Tryz.prog 48 (List (Int × (List Int))):=opens_slice Tryz.underlying48 opens152 (by kernel_rfl) (by decide)
theorem opens50:Opens Tryz.prog 50 ((List Int) × (List (Int × (List Int)))):=opens_struct Tryz.underlying50 (opensFs_cons opens24 rfl (by kernel_rfl) (opensFs_one opens48 rfl (by kernel_rfl))) (by kernel_rfl)
theorem opens106:Opens Tryz.prog 106 (Int × (List Int)):=opens_struct Tryz.underlying106 (opensFs_cons opens3 rfl (by kernel_rfl) (opensFs_one opens24 rfl (by kernel_rfl))) (by kernel_rfl)
theorem opens188:Opens Tryz.prog 188 (Int × (List Int)):=opens_struct Tryz.underlying188 (opensFs_cons opens3 rfl (by kernel_rfl) (opensFs_one opens24 rfl (by kernel_rfl))) (by kernel_rfl)
theorem opens107:Opens Tryz.prog 107 (List (Int × (List Int))):=opens_slice Tryz.underlying107 opens188 (by kernel_rfl) (by decide)
theorem opens109:Opens Tryz.prog 109 ((Int × (List Int)) × (List (Int × (List Int)))):=opens_struct Tryz.underlying109 (opensFs_cons opens106 rfl (by kernel_rfl) (opensFs_one opens107 rfl (by kernel_rfl))) (by kernel_rfl)
theorem opens51:Opens Tryz.prog 51 (List ((Int × (List Int)) × (List (Int × (List Int))))):=opens_slice Tryz.underlying51 opens109 (by kernel_rfl) (by decide)

set_option maxRecDepth 100000 in
theorem lifted (os:Os) (started:os.Started) (H:Type) (enc:TypeId × Value→H) :
    ReturnsInHanded {} Tryz.checked os 4 .any (Rows.fnExactTrustedAnswersSpec.pre6 enc Tryz.prog Tryz.f4 Rows.fnExactTrustedAnswersRow.domain false) (Rows.fnExactTrustedAnswersSpec.post enc Tryz.prog Tryz.f4 false true false false):=by
  refine returnsInHanded_of_change (C:=Tryz.checked) own started (by kernel_rfl) Tryz.func4
    (ChangeSpec.witness6 (enc:=enc) (C:=Tryz.checked) false ⟨#[],#[.slice none 0 0,.slice none 0 0,.agg #[.slice none 0 0,.slice none 0 0],.slice none 0 0],[]⟩ 8 (by kernel_rfl) (by kernel_rfl) (by kernel_rfl) (by kernel_rfl)) ?_
  intro W base args ds gs before hval0 hW hcnd _
  have hval:∀(j:Nat) t v,Tryz.f4.params[j]?=some t→args[j]?=some v→Value.okWide Tryz.prog W .any base t v:=hval0
  have hW':=hW
  obtain ⟨p,q,hA0,hV,rfl,hfz,hnd⟩:=hW
  have hA:DataW.TrodAll enc Tryz.prog W 0 (fun _=>true) true Tryz.f4.params.toList args.toList ds p:=hA0
  rw [Tryz.params4] at hA hval
  obtain ⟨v0,vs0,d0,ds0,p0,q0,hargs,rfl,rfl,h0,r0⟩:=trodAll_cons hA
  obtain ⟨v1,vs1,d1,ds1,p1,q1,rfl,rfl,rfl,h1,r1⟩:=trodAll_cons r0
  obtain ⟨v2,vs2,d2,ds2,p2,q2,rfl,rfl,rfl,h2,r2⟩:=trodAll_cons r1
  obtain ⟨v3,vs3,d3,ds3,p3,q3,rfl,rfl,rfl,h3,r3⟩:=trodAll_cons r2
  obtain ⟨rfl,rfl,rfl⟩:=trodAll_nil r3
  obtain rfl:args=#[v0,v1,v2,v3]:=by cases args; simp_all
  obtain ⟨rfl,rfl⟩:=trodVars_none hV
  clear hA0 hval0
  simp only [List.append_nil] at hW'
  have hlt:=hW'.lt
  have k0:=h0
  obtain ⟨a0,len0,cap0,rfl⟩:=okWide_slice Tryz.underlying24 (hval 0 24 v0 rfl rfl)
  obtain ⟨x0,g0,b0⟩:=ro_of_trod (v:=.slice a0 len0 cap0) opens24 rfl h0
  have k1:=h1
  obtain ⟨a1,len1,cap1,rfl⟩:=okWide_slice Tryz.underlying47 (hval 1 47 v1 rfl rfl)
  obtain ⟨x1,g1,b1⟩:=ro_of_trod (v:=.slice a1 len1 cap1) opens47 rfl h1
  have k2:=h2
  obtain ⟨cs2,rfl,_,_⟩:∃cs,v2=.agg cs∧cs.size=Tryz.prog.cellsOf 50∧Row.okWide Tryz.prog W .any base 50 cs:=by have h:=(hval 2 50 v2 rfl rfl); unfold Value.okWide at h; rw [Tryz.underlying50] at h; exact h
  obtain ⟨x2,g2,b2⟩:=ro_of_trod opens50 ⟨_,rfl⟩ h2
  obtain ⟨u2_0,u2_1,e2,g2_0,g2_1⟩:=ro_st50 g2
  rw [e2]
  have k3:=h3
  obtain ⟨a3,len3,cap3,rfl⟩:=okWide_slice Tryz.underlying51 (hval 3 51 v3 rfl rfl)
  obtain ⟨x3,g3,b3⟩:=ro_of_trod (v:=.slice a3 len3 cap3) opens51 rfl h3
  refine (c_Q_FnExactTrustedAnswers x0 _ g0 x1 _ g1 x2 _ g2_0 _ g2_1 x3 _ g3 true (p_FnExactTrustedAnswers x0 x1 x2 x3 b0 b1 b2 b3)).mono ?_
  rintro e W' ⟨v,rfl,hres⟩
  obtain ⟨rfl,hb⟩:=res_bool hres
  rw [←e2]
  exact ⟨_,rfl,_,_,_,[],_,[],hW',trodAll_cons_mk (shut_bool Tryz.underlying4 _) trodAll_mk0,(trodAll_cons_mk (Below.trod laid (by kernel_rfl) (of_decide_eq_true (by kernel_rfl)) k0 hb (fun x hx=>hlt x (by simp [hx]))) (trodAll_cons_mk (Below.trod laid (by kernel_rfl) (of_decide_eq_true (by kernel_rfl)) k1 hb (fun x hx=>hlt x (by simp [hx]))) (trodAll_cons_mk (Below.trod laid (by kernel_rfl) (of_decide_eq_true (by kernel_rfl)) k2 hb (fun x hx=>hlt x (by simp [hx]))) (trodAll_cons_mk (Below.trod laid (by kernel_rfl) (of_decide_eq_true (by kernel_rfl)) k3 hb (fun x hx=>hlt x (by simp [hx]))) trodAll_mk0)))),rfl,hb.frame _,fun h=>by cases h⟩

theorem over:Rows.fnExactTrustedAnswersRow.holds Tryz.pinned (OpenSpec.ofChange Rows.fnExactTrustedAnswersSpec) :=
  OpenClaim.holds_of_wide 4 Tryz.f4 rfl rfl rfl rfl rfl rfl rfl ⟨rfl,rfl,rfl,rfl,rfl⟩ rfl rfl rfl rfl rfl (by kernel_rfl) Tryz.func4 (by kernel_rfl)
    (of_decide_eq_true (by kernel_rfl)) (by unfold Func.isWrapper; first | (rw [if_pos (by decide +kernel)]; kernel_rfl) | (rw [if_neg (by decide +kernel)]; exact ⟨rfl,rfl⟩))
    (fun os started H enc _=>lifted os started H enc)

theorem proved:Rows.FnExactTrustedAnswersSaid :=
  over
#print axioms proved
end Go.Proofs.YthidohmobbomfaaGreat.fnExactTrustedAnswers
