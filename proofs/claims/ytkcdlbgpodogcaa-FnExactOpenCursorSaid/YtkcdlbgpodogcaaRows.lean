/-
  No cell of these rows narrows 'for every input' (looked for: loops, veiled, ifaces, maps, wideKeys, modest, calm, conditions, laid).
  DERIVED. THE GIVEN ROWS OF THIS SEAT. 9 by the template 'for every input the law returns true; each argument reads behind the call as it read before'; 0 by the template 'total and deterministic' (their statements: YtkcdlbgpodogcaaTotals.lean).
  GIVEN WITH THE SEED: the statements are not yours to turn. If you find one false, say at which input.
  Laid BY PROGRAM, IN A SANDBOX (cutbox-rows.mjs): the forced cells as the released guide's own fill.sh prints them over the translation aaddd2db8a842340… (all of the seat's roots in one cut). By AI agents, Wed Nov 11 2026. No macro, syntax, notation, axiom, sorry.
-/
import Derived.Test.YtkcdlbgpodogcaaChecked
import GoSem.Claim
import GoSem.ClaimJoined
import GoSem.ClaimMapViews
import Derived.JoinedTies
import Derived.KernelRfl
namespace Go.Proofs.Ytkcdlbgpodogcaa
/- THE CELL 'sum', in the pinned program and in every row, IS THE sha256 OF THE DUMP (.gsa) THAT YtkcdlbgpodogcaaProg.lean LOADS. Nothing in Lean hashes anything: it is a label: what it is worth is what the hold of that sum in a sandbox is worth. -/
noncomputable def Try.pinned : Pinned := { name := "ytkcdlbgpodogcaa", sum := "aaddd2db8a8423407ab10f052a07daca390e23e9ba8ec1ad289327178cf357c4", checked := Try.checked }
namespace Rows
def none {H : Type} : Left H := { results := [], args := [] }

/-- 'laws.FnExactFitsSelf': WHATEVER THE INPUT: true; the input reads as it did. -/
def fnExactFitsSelfSpec : ChangeSpec := { name := "fnExactFitsSelf", fn := fun _ => fun
  | [d1, d2, d3] => { results := [.lit (.bool true)], args := [d1, d2, d3] }
  | _ => none }
def fnExactFitsSelfRow : OpenClaim := { program := "ytkcdlbgpodogcaa", sum := "aaddd2db8a8423407ab10f052a07daca390e23e9ba8ec1ad289327178cf357c4", func := "loop.example/g01989/laws.FnExactFitsSelf", spec := "fnExactFitsSelf", unfollowed := true, recurses := true, apart := false }
def FnExactFitsSelfSaid : Prop := fnExactFitsSelfRow.holds Try.pinned (OpenSpec.ofChange fnExactFitsSelfSpec)

/-- ITS FALSE NEIGHBOUR: 'it returns false'. Refute it at one input. -/
def fnExactFitsSelfWrong : ChangeSpec := { name := "fnExactFitsSelf", fn := fun _ => fun
  | [d1, d2, d3] => { results := [.lit (.bool false)], args := [d1, d2, d3] }
  | _ => none }
def FnExactFitsSelfWrongFalsely : Prop := fnExactFitsSelfRow.holds Try.pinned (OpenSpec.ofChange fnExactFitsSelfWrong)

/-- 'laws.FnExactUnionOf': WHATEVER THE INPUT: true; the input reads as it did. -/
def fnExactUnionOfSpec : ChangeSpec := { name := "fnExactUnionOf", fn := fun _ => fun
  | [d] => { results := [.lit (.bool true)], args := [d] }
  | _ => none }
def fnExactUnionOfRow : OpenClaim := { program := "ytkcdlbgpodogcaa", sum := "aaddd2db8a8423407ab10f052a07daca390e23e9ba8ec1ad289327178cf357c4", func := "loop.example/g01989/laws.FnExactUnionOf", spec := "fnExactUnionOf", inPlace := ["slices.overlaps[loop.example/g01989/impl.Fact]"], unfollowed := true, recurses := true, apart := false }
def FnExactUnionOfSaid : Prop := fnExactUnionOfRow.holds Try.pinned (OpenSpec.ofChange fnExactUnionOfSpec)

/-- ITS FALSE NEIGHBOUR: 'it returns false'. Refute it at one input. -/
def fnExactUnionOfWrong : ChangeSpec := { name := "fnExactUnionOf", fn := fun _ => fun
  | [d] => { results := [.lit (.bool false)], args := [d] }
  | _ => none }
def FnExactUnionOfWrongFalsely : Prop := fnExactUnionOfRow.holds Try.pinned (OpenSpec.ofChange fnExactUnionOfWrong)

/-- 'laws.FnExactDisagree': WHATEVER THE INPUT: true; the input reads as it did. -/
def fnExactDisagreeSpec : ChangeSpec := { name := "fnExactDisagree", fn := fun _ => fun
  | [d1, d2, d3, d4] => { results := [.lit (.bool true)], args := [d1, d2, d3, d4] }
  | _ => none }
def fnExactDisagreeRow : OpenClaim := { program := "ytkcdlbgpodogcaa", sum := "aaddd2db8a8423407ab10f052a07daca390e23e9ba8ec1ad289327178cf357c4", func := "loop.example/g01989/laws.FnExactDisagree", spec := "fnExactDisagree", unfollowed := true, recurses := true, apart := false }
def FnExactDisagreeSaid : Prop := fnExactDisagreeRow.holds Try.pinned (OpenSpec.ofChange fnExactDisagreeSpec)

/-- ITS FALSE NEIGHBOUR: 'it returns false'. Refute it at one input. -/
def fnExactDisagreeWrong : ChangeSpec := { name := "fnExactDisagree", fn := fun _ => fun
  | [d1, d2, d3, d4] => { results := [.lit (.bool false)], args := [d1, d2, d3, d4] }
  | _ => none }
def FnExactDisagreeWrongFalsely : Prop := fnExactDisagreeRow.holds Try.pinned (OpenSpec.ofChange fnExactDisagreeWrong)

/-- 'laws.FnExactFirstConflict': WHATEVER THE INPUT: true; the input reads as it did. -/
def fnExactFirstConflictSpec : ChangeSpec := { name := "fnExactFirstConflict", fn := fun _ => fun
  | [d1, d2, d3] => { results := [.lit (.bool true)], args := [d1, d2, d3] }
  | _ => none }
def fnExactFirstConflictRow : OpenClaim := { program := "ytkcdlbgpodogcaa", sum := "aaddd2db8a8423407ab10f052a07daca390e23e9ba8ec1ad289327178cf357c4", func := "loop.example/g01989/laws.FnExactFirstConflict", spec := "fnExactFirstConflict", unfollowed := true, recurses := true, apart := false }
def FnExactFirstConflictSaid : Prop := fnExactFirstConflictRow.holds Try.pinned (OpenSpec.ofChange fnExactFirstConflictSpec)

/-- ITS FALSE NEIGHBOUR: 'it returns false'. Refute it at one input. -/
def fnExactFirstConflictWrong : ChangeSpec := { name := "fnExactFirstConflict", fn := fun _ => fun
  | [d1, d2, d3] => { results := [.lit (.bool false)], args := [d1, d2, d3] }
  | _ => none }
def FnExactFirstConflictWrongFalsely : Prop := fnExactFirstConflictRow.holds Try.pinned (OpenSpec.ofChange fnExactFirstConflictWrong)

/-- 'laws.FnExactIsConsistent': WHATEVER THE INPUT: true; the input reads as it did. -/
def fnExactIsConsistentSpec : ChangeSpec := { name := "fnExactIsConsistent", fn := fun _ => fun
  | [d1, d2, d3] => { results := [.lit (.bool true)], args := [d1, d2, d3] }
  | _ => none }
def fnExactIsConsistentRow : OpenClaim := { program := "ytkcdlbgpodogcaa", sum := "aaddd2db8a8423407ab10f052a07daca390e23e9ba8ec1ad289327178cf357c4", func := "loop.example/g01989/laws.FnExactIsConsistent", spec := "fnExactIsConsistent", unfollowed := true, recurses := true, apart := false }
def FnExactIsConsistentSaid : Prop := fnExactIsConsistentRow.holds Try.pinned (OpenSpec.ofChange fnExactIsConsistentSpec)

/-- ITS FALSE NEIGHBOUR: 'it returns false'. Refute it at one input. -/
def fnExactIsConsistentWrong : ChangeSpec := { name := "fnExactIsConsistent", fn := fun _ => fun
  | [d1, d2, d3] => { results := [.lit (.bool false)], args := [d1, d2, d3] }
  | _ => none }
def FnExactIsConsistentWrongFalsely : Prop := fnExactIsConsistentRow.holds Try.pinned (OpenSpec.ofChange fnExactIsConsistentWrong)

/-- 'laws.FnExactExplains': WHATEVER THE INPUT: true; the input reads as it did. -/
def fnExactExplainsSpec : ChangeSpec := { name := "fnExactExplains", fn := fun _ => fun
  | [d1, d2, d3, d4] => { results := [.lit (.bool true)], args := [d1, d2, d3, d4] }
  | _ => none }
def fnExactExplainsRow : OpenClaim := { program := "ytkcdlbgpodogcaa", sum := "aaddd2db8a8423407ab10f052a07daca390e23e9ba8ec1ad289327178cf357c4", func := "loop.example/g01989/laws.FnExactExplains", spec := "fnExactExplains", unfollowed := true, recurses := true, apart := false }
def FnExactExplainsSaid : Prop := fnExactExplainsRow.holds Try.pinned (OpenSpec.ofChange fnExactExplainsSpec)

/-- ITS FALSE NEIGHBOUR: 'it returns false'. Refute it at one input. -/
def fnExactExplainsWrong : ChangeSpec := { name := "fnExactExplains", fn := fun _ => fun
  | [d1, d2, d3, d4] => { results := [.lit (.bool false)], args := [d1, d2, d3, d4] }
  | _ => none }
def FnExactExplainsWrongFalsely : Prop := fnExactExplainsRow.holds Try.pinned (OpenSpec.ofChange fnExactExplainsWrong)

/-- 'laws.FnExactApplyChange': WHATEVER THE INPUT: true; the input reads as it did. -/
def fnExactApplyChangeSpec : ChangeSpec := { name := "fnExactApplyChange", fn := fun _ => fun
  | [d1, d2, d3] => { results := [.lit (.bool true)], args := [d1, d2, d3] }
  | _ => none }
def fnExactApplyChangeRow : OpenClaim := { program := "ytkcdlbgpodogcaa", sum := "aaddd2db8a8423407ab10f052a07daca390e23e9ba8ec1ad289327178cf357c4", func := "loop.example/g01989/laws.FnExactApplyChange", spec := "fnExactApplyChange", inPlace := ["slices.overlaps[loop.example/g01989/impl.Fact]"], unfollowed := true, recurses := true, apart := false }
def FnExactApplyChangeSaid : Prop := fnExactApplyChangeRow.holds Try.pinned (OpenSpec.ofChange fnExactApplyChangeSpec)

/-- ITS FALSE NEIGHBOUR: 'it returns false'. Refute it at one input. -/
def fnExactApplyChangeWrong : ChangeSpec := { name := "fnExactApplyChange", fn := fun _ => fun
  | [d1, d2, d3] => { results := [.lit (.bool false)], args := [d1, d2, d3] }
  | _ => none }
def FnExactApplyChangeWrongFalsely : Prop := fnExactApplyChangeRow.holds Try.pinned (OpenSpec.ofChange fnExactApplyChangeWrong)

/-- 'laws.FnExactApplyChanges': WHATEVER THE INPUT: true; the input reads as it did. -/
def fnExactApplyChangesSpec : ChangeSpec := { name := "fnExactApplyChanges", fn := fun _ => fun
  | [d1, d2, d3] => { results := [.lit (.bool true)], args := [d1, d2, d3] }
  | _ => none }
def fnExactApplyChangesRow : OpenClaim := { program := "ytkcdlbgpodogcaa", sum := "aaddd2db8a8423407ab10f052a07daca390e23e9ba8ec1ad289327178cf357c4", func := "loop.example/g01989/laws.FnExactApplyChanges", spec := "fnExactApplyChanges", inPlace := ["slices.overlaps[loop.example/g01989/impl.Fact]"], unfollowed := true, recurses := true, apart := false }
def FnExactApplyChangesSaid : Prop := fnExactApplyChangesRow.holds Try.pinned (OpenSpec.ofChange fnExactApplyChangesSpec)

/-- ITS FALSE NEIGHBOUR: 'it returns false'. Refute it at one input. -/
def fnExactApplyChangesWrong : ChangeSpec := { name := "fnExactApplyChanges", fn := fun _ => fun
  | [d1, d2, d3] => { results := [.lit (.bool false)], args := [d1, d2, d3] }
  | _ => none }
def FnExactApplyChangesWrongFalsely : Prop := fnExactApplyChangesRow.holds Try.pinned (OpenSpec.ofChange fnExactApplyChangesWrong)

/-- 'laws.FnExactOpenCursor': WHATEVER THE INPUT: true; the input reads as it did. -/
def fnExactOpenCursorSpec : ChangeSpec := { name := "fnExactOpenCursor", fn := fun _ => fun
  | [d1, d2, d3, d4] => { results := [.lit (.bool true)], args := [d1, d2, d3, d4] }
  | _ => none }
def fnExactOpenCursorRow : OpenClaim := { program := "ytkcdlbgpodogcaa", sum := "aaddd2db8a8423407ab10f052a07daca390e23e9ba8ec1ad289327178cf357c4", func := "loop.example/g01989/laws.FnExactOpenCursor", spec := "fnExactOpenCursor", unfollowed := true, recurses := true, apart := false }
def FnExactOpenCursorSaid : Prop := fnExactOpenCursorRow.holds Try.pinned (OpenSpec.ofChange fnExactOpenCursorSpec)

/-- ITS FALSE NEIGHBOUR: 'it returns false'. Refute it at one input. -/
def fnExactOpenCursorWrong : ChangeSpec := { name := "fnExactOpenCursor", fn := fun _ => fun
  | [d1, d2, d3, d4] => { results := [.lit (.bool false)], args := [d1, d2, d3, d4] }
  | _ => none }
def FnExactOpenCursorWrongFalsely : Prop := fnExactOpenCursorRow.holds Try.pinned (OpenSpec.ofChange fnExactOpenCursorWrong)

/- THE SECOND FORM. 'bulk': how many values and letters a reading holds, each counted each time it is reached (what is shared counts as often as it is met; a slice's spare places count too). A statement '..UptoSaid' is the law's where the arguments, and the package variables that the reading takes, are together of bulk at most 1048576: NARROWER than '..Said'. Prove '..Said' where nothing that the law and all that it calls make is longer than what came in: it says more and counts as full. Else prove '..UptoSaid'. A law counts once. -/
mutual
def uptoBulk {H : Type} : DataW H → Nat
  | .lit (.string bytes) => bytes.length + 1
  | .lit _ => 1
  | .nil => 1
  | .ptr d => uptoBulk d + 1
  | .slice elems spare => uptoBulkAll elems + uptoBulkAll spare + 1
  | .agg parts => uptoBulkAll parts + 1
  | .iface _ d => uptoBulk d + 1
  | .map entries => uptoBulkEntries entries + 1
  | .held _ => 1
def uptoBulkAll {H : Type} : List (DataW H) → Nat
  | [] => 0
  | d :: r => uptoBulk d + uptoBulkAll r
def uptoBulkEntries {H : Type} : List (Lit × DataW H) → Nat
  | [] => 0
  | x :: r => uptoBulkEntry x + uptoBulkEntries r
def uptoBulkEntry {H : Type} : Lit × DataW H → Nat
  | (.string bytes, d) => bytes.length + uptoBulk d + 1
  | (_, d) => uptoBulk d + 1
 end
def uptoSmall : (H : Type) → List (DataW H) → Bool := fun _ ds => decide (uptoBulkAll ds ≤ 1048576)
def OpenSpec.upto (s : _root_.Go.ChangeSpec) : _root_.Go.OpenSpec := { _root_.Go.OpenSpec.ofChange s with cond := some uptoSmall }

/-- 'laws.FnExactFitsSelf', WHERE WHAT IT READS IS OF BULK AT MOST 1048576: true; the input reads as it did. -/
def fnExactFitsSelfUptoRow : OpenClaim := { program := "ytkcdlbgpodogcaa", sum := "aaddd2db8a8423407ab10f052a07daca390e23e9ba8ec1ad289327178cf357c4", func := "loop.example/g01989/laws.FnExactFitsSelf", spec := "fnExactFitsSelf", unfollowed := true, recurses := true, apart := false, narrowed := true }
def FnExactFitsSelfUptoSaid : Prop := fnExactFitsSelfUptoRow.holds Try.pinned (OpenSpec.upto fnExactFitsSelfSpec)

/-- 'laws.FnExactUnionOf', WHERE WHAT IT READS IS OF BULK AT MOST 1048576: true; the input reads as it did. -/
def fnExactUnionOfUptoRow : OpenClaim := { program := "ytkcdlbgpodogcaa", sum := "aaddd2db8a8423407ab10f052a07daca390e23e9ba8ec1ad289327178cf357c4", func := "loop.example/g01989/laws.FnExactUnionOf", spec := "fnExactUnionOf", inPlace := ["slices.overlaps[loop.example/g01989/impl.Fact]"], unfollowed := true, recurses := true, apart := false, narrowed := true }
def FnExactUnionOfUptoSaid : Prop := fnExactUnionOfUptoRow.holds Try.pinned (OpenSpec.upto fnExactUnionOfSpec)

/-- 'laws.FnExactDisagree', WHERE WHAT IT READS IS OF BULK AT MOST 1048576: true; the input reads as it did. -/
def fnExactDisagreeUptoRow : OpenClaim := { program := "ytkcdlbgpodogcaa", sum := "aaddd2db8a8423407ab10f052a07daca390e23e9ba8ec1ad289327178cf357c4", func := "loop.example/g01989/laws.FnExactDisagree", spec := "fnExactDisagree", unfollowed := true, recurses := true, apart := false, narrowed := true }
def FnExactDisagreeUptoSaid : Prop := fnExactDisagreeUptoRow.holds Try.pinned (OpenSpec.upto fnExactDisagreeSpec)

/-- 'laws.FnExactFirstConflict', WHERE WHAT IT READS IS OF BULK AT MOST 1048576: true; the input reads as it did. -/
def fnExactFirstConflictUptoRow : OpenClaim := { program := "ytkcdlbgpodogcaa", sum := "aaddd2db8a8423407ab10f052a07daca390e23e9ba8ec1ad289327178cf357c4", func := "loop.example/g01989/laws.FnExactFirstConflict", spec := "fnExactFirstConflict", unfollowed := true, recurses := true, apart := false, narrowed := true }
def FnExactFirstConflictUptoSaid : Prop := fnExactFirstConflictUptoRow.holds Try.pinned (OpenSpec.upto fnExactFirstConflictSpec)

/-- 'laws.FnExactIsConsistent', WHERE WHAT IT READS IS OF BULK AT MOST 1048576: true; the input reads as it did. -/
def fnExactIsConsistentUptoRow : OpenClaim := { program := "ytkcdlbgpodogcaa", sum := "aaddd2db8a8423407ab10f052a07daca390e23e9ba8ec1ad289327178cf357c4", func := "loop.example/g01989/laws.FnExactIsConsistent", spec := "fnExactIsConsistent", unfollowed := true, recurses := true, apart := false, narrowed := true }
def FnExactIsConsistentUptoSaid : Prop := fnExactIsConsistentUptoRow.holds Try.pinned (OpenSpec.upto fnExactIsConsistentSpec)

/-- 'laws.FnExactExplains', WHERE WHAT IT READS IS OF BULK AT MOST 1048576: true; the input reads as it did. -/
def fnExactExplainsUptoRow : OpenClaim := { program := "ytkcdlbgpodogcaa", sum := "aaddd2db8a8423407ab10f052a07daca390e23e9ba8ec1ad289327178cf357c4", func := "loop.example/g01989/laws.FnExactExplains", spec := "fnExactExplains", unfollowed := true, recurses := true, apart := false, narrowed := true }
def FnExactExplainsUptoSaid : Prop := fnExactExplainsUptoRow.holds Try.pinned (OpenSpec.upto fnExactExplainsSpec)

/-- 'laws.FnExactApplyChange', WHERE WHAT IT READS IS OF BULK AT MOST 1048576: true; the input reads as it did. -/
def fnExactApplyChangeUptoRow : OpenClaim := { program := "ytkcdlbgpodogcaa", sum := "aaddd2db8a8423407ab10f052a07daca390e23e9ba8ec1ad289327178cf357c4", func := "loop.example/g01989/laws.FnExactApplyChange", spec := "fnExactApplyChange", inPlace := ["slices.overlaps[loop.example/g01989/impl.Fact]"], unfollowed := true, recurses := true, apart := false, narrowed := true }
def FnExactApplyChangeUptoSaid : Prop := fnExactApplyChangeUptoRow.holds Try.pinned (OpenSpec.upto fnExactApplyChangeSpec)

/-- 'laws.FnExactApplyChanges', WHERE WHAT IT READS IS OF BULK AT MOST 1048576: true; the input reads as it did. -/
def fnExactApplyChangesUptoRow : OpenClaim := { program := "ytkcdlbgpodogcaa", sum := "aaddd2db8a8423407ab10f052a07daca390e23e9ba8ec1ad289327178cf357c4", func := "loop.example/g01989/laws.FnExactApplyChanges", spec := "fnExactApplyChanges", inPlace := ["slices.overlaps[loop.example/g01989/impl.Fact]"], unfollowed := true, recurses := true, apart := false, narrowed := true }
def FnExactApplyChangesUptoSaid : Prop := fnExactApplyChangesUptoRow.holds Try.pinned (OpenSpec.upto fnExactApplyChangesSpec)

/-- 'laws.FnExactOpenCursor', WHERE WHAT IT READS IS OF BULK AT MOST 1048576: true; the input reads as it did. -/
def fnExactOpenCursorUptoRow : OpenClaim := { program := "ytkcdlbgpodogcaa", sum := "aaddd2db8a8423407ab10f052a07daca390e23e9ba8ec1ad289327178cf357c4", func := "loop.example/g01989/laws.FnExactOpenCursor", spec := "fnExactOpenCursor", unfollowed := true, recurses := true, apart := false, narrowed := true }
def FnExactOpenCursorUptoSaid : Prop := fnExactOpenCursorUptoRow.holds Try.pinned (OpenSpec.upto fnExactOpenCursorSpec)

end Rows
end Go.Proofs.Ytkcdlbgpodogcaa
