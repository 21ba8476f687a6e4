/-
  No cell of these rows narrows 'for every input' (looked for: loops, veiled, ifaces, maps, wideKeys, modest, calm, conditions, laid).
  DERIVED. THE GIVEN ROWS OF THIS SEAT. 6 by the template 'for every input the law returns true; each argument reads behind the call as it read before'; 0 by the template 'total and deterministic' (their statements: YtngpabaocflipaaGreatTotals.lean).
  GIVEN WITH THE SEED: the statements are not yours to turn. If you find one false, say at which input.
  Laid BY PROGRAM, IN A SANDBOX (cutbox-rows.mjs): the forced cells as the released guide's own fill.sh prints them over the translation 5a25e7a625173ac1… (all of the seat's roots in one cut). By AI agents, Wed Nov 11 2026. No macro, syntax, notation, axiom, sorry.
-/
import Derived.Test.YtngpabaocflipaaGreatChecked
import GoSem.Claim
import GoSem.ClaimJoined
import GoSem.ClaimMapViews
import Derived.JoinedTies
import Derived.KernelRfl
namespace Go.Proofs.YtngpabaocflipaaGreat
/- THE CELL 'sum', in the pinned program and in every row, IS THE sha256 OF THE DUMP (.gsa) THAT YtngpabaocflipaaGreatProg.lean LOADS. Nothing in Lean hashes anything: it is a label: what it is worth is what the hold of that sum in a sandbox is worth. -/
noncomputable def Tryz.pinned : Pinned := { name := "ytngpabaocflipaagreat", sum := "5a25e7a625173ac10422eb4337c4ade4ceac5678ecddf32c76f783f84a7400e0", checked := Tryz.checked }
namespace Rows
def none {H : Type} : Left H := { results := [], args := [] }

/-- 'laws.FnConflicts': WHATEVER THE INPUT: true; the input reads as it did. -/
def fnConflictsSpec : ChangeSpec := { name := "fnConflicts", fn := fun _ => fun
  | [d] => { results := [.lit (.bool true)], args := [d] }
  | _ => none }
def fnConflictsRow : OpenClaim := { program := "ytngpabaocflipaagreat", sum := "5a25e7a625173ac10422eb4337c4ade4ceac5678ecddf32c76f783f84a7400e0", func := "loop.example/g01989/laws.FnConflicts", spec := "fnConflicts", inPlace := ["slices.overlaps[loop.example/g01989/impl.Fact]"], unfollowed := true, recurses := true, apart := false }
def FnConflictsSaid : Prop := fnConflictsRow.holds Tryz.pinned (OpenSpec.ofChange fnConflictsSpec)

/-- ITS FALSE NEIGHBOUR: 'it returns false'. Refute it at one input. -/
def fnConflictsWrong : ChangeSpec := { name := "fnConflicts", fn := fun _ => fun
  | [d] => { results := [.lit (.bool false)], args := [d] }
  | _ => none }
def FnConflictsWrongFalsely : Prop := fnConflictsRow.holds Tryz.pinned (OpenSpec.ofChange fnConflictsWrong)

/-- 'laws.FnExactSmallestRemoval': WHATEVER THE INPUT: true; the input reads as it did. -/
def fnExactSmallestRemovalSpec : ChangeSpec := { name := "fnExactSmallestRemoval", fn := fun _ => fun
  | [d1, d2, d3] => { results := [.lit (.bool true)], args := [d1, d2, d3] }
  | _ => none }
def fnExactSmallestRemovalRow : OpenClaim := { program := "ytngpabaocflipaagreat", sum := "5a25e7a625173ac10422eb4337c4ade4ceac5678ecddf32c76f783f84a7400e0", func := "loop.example/g01989/laws.FnExactSmallestRemoval", spec := "fnExactSmallestRemoval", inPlace := ["slices.overlaps[[]int]"], unfollowed := true, recurses := true, apart := false }
def FnExactSmallestRemovalSaid : Prop := fnExactSmallestRemovalRow.holds Tryz.pinned (OpenSpec.ofChange fnExactSmallestRemovalSpec)

/-- ITS FALSE NEIGHBOUR: 'it returns false'. Refute it at one input. -/
def fnExactSmallestRemovalWrong : ChangeSpec := { name := "fnExactSmallestRemoval", fn := fun _ => fun
  | [d1, d2, d3] => { results := [.lit (.bool false)], args := [d1, d2, d3] }
  | _ => none }
def FnExactSmallestRemovalWrongFalsely : Prop := fnExactSmallestRemovalRow.holds Tryz.pinned (OpenSpec.ofChange fnExactSmallestRemovalWrong)

/-- 'laws.FnExactBrokenRules': WHATEVER THE INPUT: true; the input reads as it did. -/
def fnExactBrokenRulesSpec : ChangeSpec := { name := "fnExactBrokenRules", fn := fun _ => fun
  | [d1, d2, d3, d4] => { results := [.lit (.bool true)], args := [d1, d2, d3, d4] }
  | _ => none }
def fnExactBrokenRulesRow : OpenClaim := { program := "ytngpabaocflipaagreat", sum := "5a25e7a625173ac10422eb4337c4ade4ceac5678ecddf32c76f783f84a7400e0", func := "loop.example/g01989/laws.FnExactBrokenRules", spec := "fnExactBrokenRules", inPlace := ["slices.overlaps[loop.example/g01989/impl.Fact]"], unfollowed := true, recurses := true, apart := false }
def FnExactBrokenRulesSaid : Prop := fnExactBrokenRulesRow.holds Tryz.pinned (OpenSpec.ofChange fnExactBrokenRulesSpec)

/-- ITS FALSE NEIGHBOUR: 'it returns false'. Refute it at one input. -/
def fnExactBrokenRulesWrong : ChangeSpec := { name := "fnExactBrokenRules", fn := fun _ => fun
  | [d1, d2, d3, d4] => { results := [.lit (.bool false)], args := [d1, d2, d3, d4] }
  | _ => none }
def FnExactBrokenRulesWrongFalsely : Prop := fnExactBrokenRulesRow.holds Tryz.pinned (OpenSpec.ofChange fnExactBrokenRulesWrong)

/-- 'laws.FnExactAllRemovals': WHATEVER THE INPUT: true; the input reads as it did. -/
def fnExactAllRemovalsSpec : ChangeSpec := { name := "fnExactAllRemovals", fn := fun _ => fun
  | [d1, d2, d3] => { results := [.lit (.bool true)], args := [d1, d2, d3] }
  | _ => none }
def fnExactAllRemovalsRow : OpenClaim := { program := "ytngpabaocflipaagreat", sum := "5a25e7a625173ac10422eb4337c4ade4ceac5678ecddf32c76f783f84a7400e0", func := "loop.example/g01989/laws.FnExactAllRemovals", spec := "fnExactAllRemovals", inPlace := ["slices.overlaps[[]int]"], unfollowed := true, recurses := true, apart := false }
def FnExactAllRemovalsSaid : Prop := fnExactAllRemovalsRow.holds Tryz.pinned (OpenSpec.ofChange fnExactAllRemovalsSpec)

/-- ITS FALSE NEIGHBOUR: 'it returns false'. Refute it at one input. -/
def fnExactAllRemovalsWrong : ChangeSpec := { name := "fnExactAllRemovals", fn := fun _ => fun
  | [d1, d2, d3] => { results := [.lit (.bool false)], args := [d1, d2, d3] }
  | _ => none }
def FnExactAllRemovalsWrongFalsely : Prop := fnExactAllRemovalsRow.holds Tryz.pinned (OpenSpec.ofChange fnExactAllRemovalsWrong)

/-- 'laws.FnExactTrustedFacts': WHATEVER THE INPUT: true; the input reads as it did. -/
def fnExactTrustedFactsSpec : ChangeSpec := { name := "fnExactTrustedFacts", fn := fun _ => fun
  | [d1, d2, d3] => { results := [.lit (.bool true)], args := [d1, d2, d3] }
  | _ => none }
def fnExactTrustedFactsRow : OpenClaim := { program := "ytngpabaocflipaagreat", sum := "5a25e7a625173ac10422eb4337c4ade4ceac5678ecddf32c76f783f84a7400e0", func := "loop.example/g01989/laws.FnExactTrustedFacts", spec := "fnExactTrustedFacts", inPlace := ["slices.overlaps[[]int]", "slices.overlaps[loop.example/g01989/impl.Fact]"], unfollowed := true, recurses := true, apart := false }
def FnExactTrustedFactsSaid : Prop := fnExactTrustedFactsRow.holds Tryz.pinned (OpenSpec.ofChange fnExactTrustedFactsSpec)

/-- ITS FALSE NEIGHBOUR: 'it returns false'. Refute it at one input. -/
def fnExactTrustedFactsWrong : ChangeSpec := { name := "fnExactTrustedFacts", fn := fun _ => fun
  | [d1, d2, d3] => { results := [.lit (.bool false)], args := [d1, d2, d3] }
  | _ => none }
def FnExactTrustedFactsWrongFalsely : Prop := fnExactTrustedFactsRow.holds Tryz.pinned (OpenSpec.ofChange fnExactTrustedFactsWrong)

/-- 'laws.FnExactDoubtedFacts': WHATEVER THE INPUT: true; the input reads as it did. -/
def fnExactDoubtedFactsSpec : ChangeSpec := { name := "fnExactDoubtedFacts", fn := fun _ => fun
  | [d1, d2, d3] => { results := [.lit (.bool true)], args := [d1, d2, d3] }
  | _ => none }
def fnExactDoubtedFactsRow : OpenClaim := { program := "ytngpabaocflipaagreat", sum := "5a25e7a625173ac10422eb4337c4ade4ceac5678ecddf32c76f783f84a7400e0", func := "loop.example/g01989/laws.FnExactDoubtedFacts", spec := "fnExactDoubtedFacts", inPlace := ["slices.overlaps[[]int]", "slices.overlaps[loop.example/g01989/impl.Fact]"], unfollowed := true, recurses := true, apart := false }
def FnExactDoubtedFactsSaid : Prop := fnExactDoubtedFactsRow.holds Tryz.pinned (OpenSpec.ofChange fnExactDoubtedFactsSpec)

/-- ITS FALSE NEIGHBOUR: 'it returns false'. Refute it at one input. -/
def fnExactDoubtedFactsWrong : ChangeSpec := { name := "fnExactDoubtedFacts", fn := fun _ => fun
  | [d1, d2, d3] => { results := [.lit (.bool false)], args := [d1, d2, d3] }
  | _ => none }
def FnExactDoubtedFactsWrongFalsely : Prop := fnExactDoubtedFactsRow.holds Tryz.pinned (OpenSpec.ofChange fnExactDoubtedFactsWrong)

/- THE SECOND FORM. 'bulk': how many values and letters a reading holds, each counted each time it is reached (what is shared counts as often as it is met; a slice's spare places count too). A statement '..UptoSaid' is the law's where the arguments, and the package variables that the reading takes, are together of bulk at most 1048576: NARROWER than '..Said'. Prove '..Said' where nothing that the law and all that it calls make is longer than what came in: it says more and counts as full. Else prove '..UptoSaid'. A law counts once. -/
mutual
def uptoBulk {H : Type} : DataW H → Nat
  | .lit (.string bytes) => bytes.length + 1
  | .lit _ => 1
  | .nil => 1
  | .ptr d => uptoBulk d + 1
  | .slice elems spare => uptoBulkAll elems + uptoBulkAll spare + 1
  | .agg parts => uptoBulkAll parts + 1
  | .iface _ d => uptoBulk d + 1
  | .map entries => uptoBulkEntries entries + 1
  | .held _ => 1
def uptoBulkAll {H : Type} : List (DataW H) → Nat
  | [] => 0
  | d :: r => uptoBulk d + uptoBulkAll r
def uptoBulkEntries {H : Type} : List (Lit × DataW H) → Nat
  | [] => 0
  | x :: r => uptoBulkEntry x + uptoBulkEntries r
def uptoBulkEntry {H : Type} : Lit × DataW H → Nat
  | (.string bytes, d) => bytes.length + uptoBulk d + 1
  | (_, d) => uptoBulk d + 1
 end
def uptoSmall : (H : Type) → List (DataW H) → Bool := fun _ ds => decide (uptoBulkAll ds ≤ 1048576)
def OpenSpec.upto (s : _root_.Go.ChangeSpec) : _root_.Go.OpenSpec := { _root_.Go.OpenSpec.ofChange s with cond := some uptoSmall }

/-- 'laws.FnConflicts', WHERE WHAT IT READS IS OF BULK AT MOST 1048576: true; the input reads as it did. -/
def fnConflictsUptoRow : OpenClaim := { program := "ytngpabaocflipaagreat", sum := "5a25e7a625173ac10422eb4337c4ade4ceac5678ecddf32c76f783f84a7400e0", func := "loop.example/g01989/laws.FnConflicts", spec := "fnConflicts", inPlace := ["slices.overlaps[loop.example/g01989/impl.Fact]"], unfollowed := true, recurses := true, apart := false, narrowed := true }
def FnConflictsUptoSaid : Prop := fnConflictsUptoRow.holds Tryz.pinned (OpenSpec.upto fnConflictsSpec)

/-- 'laws.FnExactSmallestRemoval', WHERE WHAT IT READS IS OF BULK AT MOST 1048576: true; the input reads as it did. -/
def fnExactSmallestRemovalUptoRow : OpenClaim := { program := "ytngpabaocflipaagreat", sum := "5a25e7a625173ac10422eb4337c4ade4ceac5678ecddf32c76f783f84a7400e0", func := "loop.example/g01989/laws.FnExactSmallestRemoval", spec := "fnExactSmallestRemoval", inPlace := ["slices.overlaps[[]int]"], unfollowed := true, recurses := true, apart := false, narrowed := true }
def FnExactSmallestRemovalUptoSaid : Prop := fnExactSmallestRemovalUptoRow.holds Tryz.pinned (OpenSpec.upto fnExactSmallestRemovalSpec)

/-- 'laws.FnExactBrokenRules', WHERE WHAT IT READS IS OF BULK AT MOST 1048576: true; the input reads as it did. -/
def fnExactBrokenRulesUptoRow : OpenClaim := { program := "ytngpabaocflipaagreat", sum := "5a25e7a625173ac10422eb4337c4ade4ceac5678ecddf32c76f783f84a7400e0", func := "loop.example/g01989/laws.FnExactBrokenRules", spec := "fnExactBrokenRules", inPlace := ["slices.overlaps[loop.example/g01989/impl.Fact]"], unfollowed := true, recurses := true, apart := false, narrowed := true }
def FnExactBrokenRulesUptoSaid : Prop := fnExactBrokenRulesUptoRow.holds Tryz.pinned (OpenSpec.upto fnExactBrokenRulesSpec)

/-- 'laws.FnExactAllRemovals', WHERE WHAT IT READS IS OF BULK AT MOST 1048576: true; the input reads as it did. -/
def fnExactAllRemovalsUptoRow : OpenClaim := { program := "ytngpabaocflipaagreat", sum := "5a25e7a625173ac10422eb4337c4ade4ceac5678ecddf32c76f783f84a7400e0", func := "loop.example/g01989/laws.FnExactAllRemovals", spec := "fnExactAllRemovals", inPlace := ["slices.overlaps[[]int]"], unfollowed := true, recurses := true, apart := false, narrowed := true }
def FnExactAllRemovalsUptoSaid : Prop := fnExactAllRemovalsUptoRow.holds Tryz.pinned (OpenSpec.upto fnExactAllRemovalsSpec)

/-- 'laws.FnExactTrustedFacts', WHERE WHAT IT READS IS OF BULK AT MOST 1048576: true; the input reads as it did. -/
def fnExactTrustedFactsUptoRow : OpenClaim := { program := "ytngpabaocflipaagreat", sum := "5a25e7a625173ac10422eb4337c4ade4ceac5678ecddf32c76f783f84a7400e0", func := "loop.example/g01989/laws.FnExactTrustedFacts", spec := "fnExactTrustedFacts", inPlace := ["slices.overlaps[[]int]", "slices.overlaps[loop.example/g01989/impl.Fact]"], unfollowed := true, recurses := true, apart := false, narrowed := true }
def FnExactTrustedFactsUptoSaid : Prop := fnExactTrustedFactsUptoRow.holds Tryz.pinned (OpenSpec.upto fnExactTrustedFactsSpec)

/-- 'laws.FnExactDoubtedFacts', WHERE WHAT IT READS IS OF BULK AT MOST 1048576: true; the input reads as it did. -/
def fnExactDoubtedFactsUptoRow : OpenClaim := { program := "ytngpabaocflipaagreat", sum := "5a25e7a625173ac10422eb4337c4ade4ceac5678ecddf32c76f783f84a7400e0", func := "loop.example/g01989/laws.FnExactDoubtedFacts", spec := "fnExactDoubtedFacts", inPlace := ["slices.overlaps[[]int]", "slices.overlaps[loop.example/g01989/impl.Fact]"], unfollowed := true, recurses := true, apart := false, narrowed := true }
def FnExactDoubtedFactsUptoSaid : Prop := fnExactDoubtedFactsUptoRow.holds Tryz.pinned (OpenSpec.upto fnExactDoubtedFactsSpec)

end Rows
end Go.Proofs.YtngpabaocflipaaGreat
