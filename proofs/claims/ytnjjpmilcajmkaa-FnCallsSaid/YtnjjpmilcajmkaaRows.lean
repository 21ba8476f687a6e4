/-
  No cell of these rows narrows 'for every input' (looked for: loops, veiled, ifaces, maps, wideKeys, modest, calm, conditions, laid).
  DERIVED. THE GIVEN ROWS OF THIS SEAT. 12 by the template 'for every input the law returns true; each argument reads behind the call as it read before'; 0 by the template 'total and deterministic' (their statements: YtnjjpmilcajmkaaTotals.lean).
  GIVEN WITH THE SEED: the statements are not yours to turn. If you find one false, say at which input.
  Laid BY PROGRAM, IN A SANDBOX (cutbox-rows.mjs): the forced cells as the released guide's own fill.sh prints them over the translation 47d48ccd3072a768… (all of the seat's roots in one cut). By AI agents, Wed Nov 11 2026. No macro, syntax, notation, axiom, sorry.
-/
import Derived.Test.YtnjjpmilcajmkaaChecked
import GoSem.Claim
import GoSem.ClaimJoined
import GoSem.ClaimMapViews
import Derived.JoinedTies
import Derived.KernelRfl
namespace Go.Proofs.Ytnjjpmilcajmkaa
/- THE CELL 'sum', in the pinned program and in every row, IS THE sha256 OF THE DUMP (.gsa) THAT YtnjjpmilcajmkaaProg.lean LOADS. Nothing in Lean hashes anything: it is a label: what it is worth is what the hold of that sum in a sandbox is worth. -/
noncomputable def Try.pinned : Pinned := { name := "ytnjjpmilcajmkaa", sum := "47d48ccd3072a7685f4057f7feaa31d318e7cc5e3ddf5a649f3af4f7ac1c19d2", checked := Try.checked }
namespace Rows
def none {H : Type} : Left H := { results := [], args := [] }

/-- 'laws.FnExactReceiveCall': WHATEVER THE INPUT: true; the input reads as it did. -/
def fnExactReceiveCallSpec : ChangeSpec := { name := "fnExactReceiveCall", fn := fun _ => fun
  | [d1, d2, d3] => { results := [.lit (.bool true)], args := [d1, d2, d3] }
  | _ => none }
def fnExactReceiveCallRow : OpenClaim := { program := "ytnjjpmilcajmkaa", sum := "47d48ccd3072a7685f4057f7feaa31d318e7cc5e3ddf5a649f3af4f7ac1c19d2", func := "loop.example/g01989/laws.FnExactReceiveCall", spec := "fnExactReceiveCall", inPlace := ["slices.overlaps[int]"], unfollowed := true, recurses := true, apart := false }
def FnExactReceiveCallSaid : Prop := fnExactReceiveCallRow.holds Try.pinned (OpenSpec.ofChange fnExactReceiveCallSpec)

/-- ITS FALSE NEIGHBOUR: 'it returns false'. Refute it at one input. -/
def fnExactReceiveCallWrong : ChangeSpec := { name := "fnExactReceiveCall", fn := fun _ => fun
  | [d1, d2, d3] => { results := [.lit (.bool false)], args := [d1, d2, d3] }
  | _ => none }
def FnExactReceiveCallWrongFalsely : Prop := fnExactReceiveCallRow.holds Try.pinned (OpenSpec.ofChange fnExactReceiveCallWrong)

/-- 'laws.FnExactTryCall': WHATEVER THE INPUT: true; the input reads as it did. -/
def fnExactTryCallSpec : ChangeSpec := { name := "fnExactTryCall", fn := fun _ => fun
  | [d1, d2, d3] => { results := [.lit (.bool true)], args := [d1, d2, d3] }
  | _ => none }
def fnExactTryCallRow : OpenClaim := { program := "ytnjjpmilcajmkaa", sum := "47d48ccd3072a7685f4057f7feaa31d318e7cc5e3ddf5a649f3af4f7ac1c19d2", func := "loop.example/g01989/laws.FnExactTryCall", spec := "fnExactTryCall", inPlace := ["slices.overlaps[int]"], unfollowed := true, recurses := true, apart := false }
def FnExactTryCallSaid : Prop := fnExactTryCallRow.holds Try.pinned (OpenSpec.ofChange fnExactTryCallSpec)

/-- ITS FALSE NEIGHBOUR: 'it returns false'. Refute it at one input. -/
def fnExactTryCallWrong : ChangeSpec := { name := "fnExactTryCall", fn := fun _ => fun
  | [d1, d2, d3] => { results := [.lit (.bool false)], args := [d1, d2, d3] }
  | _ => none }
def FnExactTryCallWrongFalsely : Prop := fnExactTryCallRow.holds Try.pinned (OpenSpec.ofChange fnExactTryCallWrong)

/-- 'laws.FnLedgers': WHATEVER THE INPUT: true; the input reads as it did. -/
def fnLedgersSpec : ChangeSpec := { name := "fnLedgers", fn := fun _ => fun
  | [d] => { results := [.lit (.bool true)], args := [d] }
  | _ => none }
def fnLedgersRow : OpenClaim := { program := "ytnjjpmilcajmkaa", sum := "47d48ccd3072a7685f4057f7feaa31d318e7cc5e3ddf5a649f3af4f7ac1c19d2", func := "loop.example/g01989/laws.FnLedgers", spec := "fnLedgers", inPlace := ["slices.overlaps[int]"], unfollowed := true, recurses := true, apart := false }
def FnLedgersSaid : Prop := fnLedgersRow.holds Try.pinned (OpenSpec.ofChange fnLedgersSpec)

/-- ITS FALSE NEIGHBOUR: 'it returns false'. Refute it at one input. -/
def fnLedgersWrong : ChangeSpec := { name := "fnLedgers", fn := fun _ => fun
  | [d] => { results := [.lit (.bool false)], args := [d] }
  | _ => none }
def FnLedgersWrongFalsely : Prop := fnLedgersRow.holds Try.pinned (OpenSpec.ofChange fnLedgersWrong)

/-- 'laws.FnExactFinishCall': WHATEVER THE INPUT: true; the input reads as it did. -/
def fnExactFinishCallSpec : ChangeSpec := { name := "fnExactFinishCall", fn := fun _ => fun
  | [d1, d2, d3] => { results := [.lit (.bool true)], args := [d1, d2, d3] }
  | _ => none }
def fnExactFinishCallRow : OpenClaim := { program := "ytnjjpmilcajmkaa", sum := "47d48ccd3072a7685f4057f7feaa31d318e7cc5e3ddf5a649f3af4f7ac1c19d2", func := "loop.example/g01989/laws.FnExactFinishCall", spec := "fnExactFinishCall", inPlace := ["slices.overlaps[int]"], unfollowed := true, recurses := true, apart := false }
def FnExactFinishCallSaid : Prop := fnExactFinishCallRow.holds Try.pinned (OpenSpec.ofChange fnExactFinishCallSpec)

/-- ITS FALSE NEIGHBOUR: 'it returns false'. Refute it at one input. -/
def fnExactFinishCallWrong : ChangeSpec := { name := "fnExactFinishCall", fn := fun _ => fun
  | [d1, d2, d3] => { results := [.lit (.bool false)], args := [d1, d2, d3] }
  | _ => none }
def FnExactFinishCallWrongFalsely : Prop := fnExactFinishCallRow.holds Try.pinned (OpenSpec.ofChange fnExactFinishCallWrong)

/-- 'laws.FnCalls': WHATEVER THE INPUT: true; the input reads as it did. -/
def fnCallsSpec : ChangeSpec := { name := "fnCalls", fn := fun _ => fun
  | [d] => { results := [.lit (.bool true)], args := [d] }
  | _ => none }
def fnCallsRow : OpenClaim := { program := "ytnjjpmilcajmkaa", sum := "47d48ccd3072a7685f4057f7feaa31d318e7cc5e3ddf5a649f3af4f7ac1c19d2", func := "loop.example/g01989/laws.FnCalls", spec := "fnCalls", inPlace := ["slices.overlaps[int]"], unfollowed := true, recurses := true, apart := false }
def FnCallsSaid : Prop := fnCallsRow.holds Try.pinned (OpenSpec.ofChange fnCallsSpec)

/-- ITS FALSE NEIGHBOUR: 'it returns false'. Refute it at one input. -/
def fnCallsWrong : ChangeSpec := { name := "fnCalls", fn := fun _ => fun
  | [d] => { results := [.lit (.bool false)], args := [d] }
  | _ => none }
def FnCallsWrongFalsely : Prop := fnCallsRow.holds Try.pinned (OpenSpec.ofChange fnCallsWrong)

/-- 'laws.FnExactRunCalls': WHATEVER THE INPUT: true; the input reads as it did. -/
def fnExactRunCallsSpec : ChangeSpec := { name := "fnExactRunCalls", fn := fun _ => fun
  | [d1, d2, d3] => { results := [.lit (.bool true)], args := [d1, d2, d3] }
  | _ => none }
def fnExactRunCallsRow : OpenClaim := { program := "ytnjjpmilcajmkaa", sum := "47d48ccd3072a7685f4057f7feaa31d318e7cc5e3ddf5a649f3af4f7ac1c19d2", func := "loop.example/g01989/laws.FnExactRunCalls", spec := "fnExactRunCalls", inPlace := ["slices.overlaps[int]"], unfollowed := true, recurses := true, apart := false }
def FnExactRunCallsSaid : Prop := fnExactRunCallsRow.holds Try.pinned (OpenSpec.ofChange fnExactRunCallsSpec)

/-- ITS FALSE NEIGHBOUR: 'it returns false'. Refute it at one input. -/
def fnExactRunCallsWrong : ChangeSpec := { name := "fnExactRunCalls", fn := fun _ => fun
  | [d1, d2, d3] => { results := [.lit (.bool false)], args := [d1, d2, d3] }
  | _ => none }
def FnExactRunCallsWrongFalsely : Prop := fnExactRunCallsRow.holds Try.pinned (OpenSpec.ofChange fnExactRunCallsWrong)

/-- 'laws.FnExactScheduleLog': WHATEVER THE INPUT: true; the input reads as it did. -/
def fnExactScheduleLogSpec : ChangeSpec := { name := "fnExactScheduleLog", fn := fun _ => fun
  | [d1, d2, d3, d4] => { results := [.lit (.bool true)], args := [d1, d2, d3, d4] }
  | _ => none }
def fnExactScheduleLogRow : OpenClaim := { program := "ytnjjpmilcajmkaa", sum := "47d48ccd3072a7685f4057f7feaa31d318e7cc5e3ddf5a649f3af4f7ac1c19d2", func := "loop.example/g01989/laws.FnExactScheduleLog", spec := "fnExactScheduleLog", apart := false }
def FnExactScheduleLogSaid : Prop := fnExactScheduleLogRow.holds Try.pinned (OpenSpec.ofChange fnExactScheduleLogSpec)

/-- ITS FALSE NEIGHBOUR: 'it returns false'. Refute it at one input. -/
def fnExactScheduleLogWrong : ChangeSpec := { name := "fnExactScheduleLog", fn := fun _ => fun
  | [d1, d2, d3, d4] => { results := [.lit (.bool false)], args := [d1, d2, d3, d4] }
  | _ => none }
def FnExactScheduleLogWrongFalsely : Prop := fnExactScheduleLogRow.holds Try.pinned (OpenSpec.ofChange fnExactScheduleLogWrong)

/-- 'laws.FnSchedules': WHATEVER THE INPUT: true; the input reads as it did. -/
def fnSchedulesSpec : ChangeSpec := { name := "fnSchedules", fn := fun _ => fun
  | [d] => { results := [.lit (.bool true)], args := [d] }
  | _ => none }
def fnSchedulesRow : OpenClaim := { program := "ytnjjpmilcajmkaa", sum := "47d48ccd3072a7685f4057f7feaa31d318e7cc5e3ddf5a649f3af4f7ac1c19d2", func := "loop.example/g01989/laws.FnSchedules", spec := "fnSchedules", apart := false }
def FnSchedulesSaid : Prop := fnSchedulesRow.holds Try.pinned (OpenSpec.ofChange fnSchedulesSpec)

/-- ITS FALSE NEIGHBOUR: 'it returns false'. Refute it at one input. -/
def fnSchedulesWrong : ChangeSpec := { name := "fnSchedules", fn := fun _ => fun
  | [d] => { results := [.lit (.bool false)], args := [d] }
  | _ => none }
def FnSchedulesWrongFalsely : Prop := fnSchedulesRow.holds Try.pinned (OpenSpec.ofChange fnSchedulesWrong)

/-- 'laws.FnExactIsSource': WHATEVER THE INPUT: true; the input reads as it did. -/
def fnExactIsSourceSpec : ChangeSpec := { name := "fnExactIsSource", fn := fun _ => fun
  | [d1, d2] => { results := [.lit (.bool true)], args := [d1, d2] }
  | _ => none }
def fnExactIsSourceRow : OpenClaim := { program := "ytnjjpmilcajmkaa", sum := "47d48ccd3072a7685f4057f7feaa31d318e7cc5e3ddf5a649f3af4f7ac1c19d2", func := "loop.example/g01989/laws.FnExactIsSource", spec := "fnExactIsSource", unfollowed := true, recurses := true, apart := false }
def FnExactIsSourceSaid : Prop := fnExactIsSourceRow.holds Try.pinned (OpenSpec.ofChange fnExactIsSourceSpec)

/-- ITS FALSE NEIGHBOUR: 'it returns false'. Refute it at one input. -/
def fnExactIsSourceWrong : ChangeSpec := { name := "fnExactIsSource", fn := fun _ => fun
  | [d1, d2] => { results := [.lit (.bool false)], args := [d1, d2] }
  | _ => none }
def FnExactIsSourceWrongFalsely : Prop := fnExactIsSourceRow.holds Try.pinned (OpenSpec.ofChange fnExactIsSourceWrong)

/-- 'laws.FnExactIsTold': WHATEVER THE INPUT: true; the input reads as it did. -/
def fnExactIsToldSpec : ChangeSpec := { name := "fnExactIsTold", fn := fun _ => fun
  | [d1, d2, d3] => { results := [.lit (.bool true)], args := [d1, d2, d3] }
  | _ => none }
def fnExactIsToldRow : OpenClaim := { program := "ytnjjpmilcajmkaa", sum := "47d48ccd3072a7685f4057f7feaa31d318e7cc5e3ddf5a649f3af4f7ac1c19d2", func := "loop.example/g01989/laws.FnExactIsTold", spec := "fnExactIsTold", unfollowed := true, recurses := true, apart := false }
def FnExactIsToldSaid : Prop := fnExactIsToldRow.holds Try.pinned (OpenSpec.ofChange fnExactIsToldSpec)

/-- ITS FALSE NEIGHBOUR: 'it returns false'. Refute it at one input. -/
def fnExactIsToldWrong : ChangeSpec := { name := "fnExactIsTold", fn := fun _ => fun
  | [d1, d2, d3] => { results := [.lit (.bool false)], args := [d1, d2, d3] }
  | _ => none }
def FnExactIsToldWrongFalsely : Prop := fnExactIsToldRow.holds Try.pinned (OpenSpec.ofChange fnExactIsToldWrong)

/-- 'laws.FnExactWithout': WHATEVER THE INPUT: true; the input reads as it did. -/
def fnExactWithoutSpec : ChangeSpec := { name := "fnExactWithout", fn := fun _ => fun
  | [d1, d2] => { results := [.lit (.bool true)], args := [d1, d2] }
  | _ => none }
def fnExactWithoutRow : OpenClaim := { program := "ytnjjpmilcajmkaa", sum := "47d48ccd3072a7685f4057f7feaa31d318e7cc5e3ddf5a649f3af4f7ac1c19d2", func := "loop.example/g01989/laws.FnExactWithout", spec := "fnExactWithout", apart := false }
def FnExactWithoutSaid : Prop := fnExactWithoutRow.holds Try.pinned (OpenSpec.ofChange fnExactWithoutSpec)

/-- ITS FALSE NEIGHBOUR: 'it returns false'. Refute it at one input. -/
def fnExactWithoutWrong : ChangeSpec := { name := "fnExactWithout", fn := fun _ => fun
  | [d1, d2] => { results := [.lit (.bool false)], args := [d1, d2] }
  | _ => none }
def FnExactWithoutWrongFalsely : Prop := fnExactWithoutRow.holds Try.pinned (OpenSpec.ofChange fnExactWithoutWrong)

/-- 'laws.FnExactSwapFacts': WHATEVER THE INPUT: true; the input reads as it did. -/
def fnExactSwapFactsSpec : ChangeSpec := { name := "fnExactSwapFacts", fn := fun _ => fun
  | [d1, d2, d3] => { results := [.lit (.bool true)], args := [d1, d2, d3] }
  | _ => none }
def fnExactSwapFactsRow : OpenClaim := { program := "ytnjjpmilcajmkaa", sum := "47d48ccd3072a7685f4057f7feaa31d318e7cc5e3ddf5a649f3af4f7ac1c19d2", func := "loop.example/g01989/laws.FnExactSwapFacts", spec := "fnExactSwapFacts", inPlace := ["slices.overlaps[loop.example/g01989/impl.Fact]"], unfollowed := true, recurses := true, apart := false }
def FnExactSwapFactsSaid : Prop := fnExactSwapFactsRow.holds Try.pinned (OpenSpec.ofChange fnExactSwapFactsSpec)

/-- ITS FALSE NEIGHBOUR: 'it returns false'. Refute it at one input. -/
def fnExactSwapFactsWrong : ChangeSpec := { name := "fnExactSwapFacts", fn := fun _ => fun
  | [d1, d2, d3] => { results := [.lit (.bool false)], args := [d1, d2, d3] }
  | _ => none }
def FnExactSwapFactsWrongFalsely : Prop := fnExactSwapFactsRow.holds Try.pinned (OpenSpec.ofChange fnExactSwapFactsWrong)

/- THE SECOND FORM. 'bulk': how many values and letters a reading holds, each counted each time it is reached (what is shared counts as often as it is met; a slice's spare places count too). A statement '..UptoSaid' is the law's where the arguments, and the package variables that the reading takes, are together of bulk at most 1048576: NARROWER than '..Said'. Prove '..Said' where nothing that the law and all that it calls make is longer than what came in: it says more and counts as full. Else prove '..UptoSaid'. A law counts once. -/
mutual
def uptoBulk {H : Type} : DataW H → Nat
  | .lit (.string bytes) => bytes.length + 1
  | .lit _ => 1
  | .nil => 1
  | .ptr d => uptoBulk d + 1
  | .slice elems spare => uptoBulkAll elems + uptoBulkAll spare + 1
  | .agg parts => uptoBulkAll parts + 1
  | .iface _ d => uptoBulk d + 1
  | .map entries => uptoBulkEntries entries + 1
  | .held _ => 1
def uptoBulkAll {H : Type} : List (DataW H) → Nat
  | [] => 0
  | d :: r => uptoBulk d + uptoBulkAll r
def uptoBulkEntries {H : Type} : List (Lit × DataW H) → Nat
  | [] => 0
  | x :: r => uptoBulkEntry x + uptoBulkEntries r
def uptoBulkEntry {H : Type} : Lit × DataW H → Nat
  | (.string bytes, d) => bytes.length + uptoBulk d + 1
  | (_, d) => uptoBulk d + 1
 end
def uptoSmall : (H : Type) → List (DataW H) → Bool := fun _ ds => decide (uptoBulkAll ds ≤ 1048576)
def OpenSpec.upto (s : _root_.Go.ChangeSpec) : _root_.Go.OpenSpec := { _root_.Go.OpenSpec.ofChange s with cond := some uptoSmall }

/-- 'laws.FnExactReceiveCall', WHERE WHAT IT READS IS OF BULK AT MOST 1048576: true; the input reads as it did. -/
def fnExactReceiveCallUptoRow : OpenClaim := { program := "ytnjjpmilcajmkaa", sum := "47d48ccd3072a7685f4057f7feaa31d318e7cc5e3ddf5a649f3af4f7ac1c19d2", func := "loop.example/g01989/laws.FnExactReceiveCall", spec := "fnExactReceiveCall", inPlace := ["slices.overlaps[int]"], unfollowed := true, recurses := true, apart := false, narrowed := true }
def FnExactReceiveCallUptoSaid : Prop := fnExactReceiveCallUptoRow.holds Try.pinned (OpenSpec.upto fnExactReceiveCallSpec)

/-- 'laws.FnExactTryCall', WHERE WHAT IT READS IS OF BULK AT MOST 1048576: true; the input reads as it did. -/
def fnExactTryCallUptoRow : OpenClaim := { program := "ytnjjpmilcajmkaa", sum := "47d48ccd3072a7685f4057f7feaa31d318e7cc5e3ddf5a649f3af4f7ac1c19d2", func := "loop.example/g01989/laws.FnExactTryCall", spec := "fnExactTryCall", inPlace := ["slices.overlaps[int]"], unfollowed := true, recurses := true, apart := false, narrowed := true }
def FnExactTryCallUptoSaid : Prop := fnExactTryCallUptoRow.holds Try.pinned (OpenSpec.upto fnExactTryCallSpec)

/-- 'laws.FnLedgers', WHERE WHAT IT READS IS OF BULK AT MOST 1048576: true; the input reads as it did. -/
def fnLedgersUptoRow : OpenClaim := { program := "ytnjjpmilcajmkaa", sum := "47d48ccd3072a7685f4057f7feaa31d318e7cc5e3ddf5a649f3af4f7ac1c19d2", func := "loop.example/g01989/laws.FnLedgers", spec := "fnLedgers", inPlace := ["slices.overlaps[int]"], unfollowed := true, recurses := true, apart := false, narrowed := true }
def FnLedgersUptoSaid : Prop := fnLedgersUptoRow.holds Try.pinned (OpenSpec.upto fnLedgersSpec)

/-- 'laws.FnExactFinishCall', WHERE WHAT IT READS IS OF BULK AT MOST 1048576: true; the input reads as it did. -/
def fnExactFinishCallUptoRow : OpenClaim := { program := "ytnjjpmilcajmkaa", sum := "47d48ccd3072a7685f4057f7feaa31d318e7cc5e3ddf5a649f3af4f7ac1c19d2", func := "loop.example/g01989/laws.FnExactFinishCall", spec := "fnExactFinishCall", inPlace := ["slices.overlaps[int]"], unfollowed := true, recurses := true, apart := false, narrowed := true }
def FnExactFinishCallUptoSaid : Prop := fnExactFinishCallUptoRow.holds Try.pinned (OpenSpec.upto fnExactFinishCallSpec)

/-- 'laws.FnCalls', WHERE WHAT IT READS IS OF BULK AT MOST 1048576: true; the input reads as it did. -/
def fnCallsUptoRow : OpenClaim := { program := "ytnjjpmilcajmkaa", sum := "47d48ccd3072a7685f4057f7feaa31d318e7cc5e3ddf5a649f3af4f7ac1c19d2", func := "loop.example/g01989/laws.FnCalls", spec := "fnCalls", inPlace := ["slices.overlaps[int]"], unfollowed := true, recurses := true, apart := false, narrowed := true }
def FnCallsUptoSaid : Prop := fnCallsUptoRow.holds Try.pinned (OpenSpec.upto fnCallsSpec)

/-- 'laws.FnExactRunCalls', WHERE WHAT IT READS IS OF BULK AT MOST 1048576: true; the input reads as it did. -/
def fnExactRunCallsUptoRow : OpenClaim := { program := "ytnjjpmilcajmkaa", sum := "47d48ccd3072a7685f4057f7feaa31d318e7cc5e3ddf5a649f3af4f7ac1c19d2", func := "loop.example/g01989/laws.FnExactRunCalls", spec := "fnExactRunCalls", inPlace := ["slices.overlaps[int]"], unfollowed := true, recurses := true, apart := false, narrowed := true }
def FnExactRunCallsUptoSaid : Prop := fnExactRunCallsUptoRow.holds Try.pinned (OpenSpec.upto fnExactRunCallsSpec)

/-- 'laws.FnExactScheduleLog', WHERE WHAT IT READS IS OF BULK AT MOST 1048576: true; the input reads as it did. -/
def fnExactScheduleLogUptoRow : OpenClaim := { program := "ytnjjpmilcajmkaa", sum := "47d48ccd3072a7685f4057f7feaa31d318e7cc5e3ddf5a649f3af4f7ac1c19d2", func := "loop.example/g01989/laws.FnExactScheduleLog", spec := "fnExactScheduleLog", apart := false, narrowed := true }
def FnExactScheduleLogUptoSaid : Prop := fnExactScheduleLogUptoRow.holds Try.pinned (OpenSpec.upto fnExactScheduleLogSpec)

/-- 'laws.FnSchedules', WHERE WHAT IT READS IS OF BULK AT MOST 1048576: true; the input reads as it did. -/
def fnSchedulesUptoRow : OpenClaim := { program := "ytnjjpmilcajmkaa", sum := "47d48ccd3072a7685f4057f7feaa31d318e7cc5e3ddf5a649f3af4f7ac1c19d2", func := "loop.example/g01989/laws.FnSchedules", spec := "fnSchedules", apart := false, narrowed := true }
def FnSchedulesUptoSaid : Prop := fnSchedulesUptoRow.holds Try.pinned (OpenSpec.upto fnSchedulesSpec)

/-- 'laws.FnExactIsSource', WHERE WHAT IT READS IS OF BULK AT MOST 1048576: true; the input reads as it did. -/
def fnExactIsSourceUptoRow : OpenClaim := { program := "ytnjjpmilcajmkaa", sum := "47d48ccd3072a7685f4057f7feaa31d318e7cc5e3ddf5a649f3af4f7ac1c19d2", func := "loop.example/g01989/laws.FnExactIsSource", spec := "fnExactIsSource", unfollowed := true, recurses := true, apart := false, narrowed := true }
def FnExactIsSourceUptoSaid : Prop := fnExactIsSourceUptoRow.holds Try.pinned (OpenSpec.upto fnExactIsSourceSpec)

/-- 'laws.FnExactIsTold', WHERE WHAT IT READS IS OF BULK AT MOST 1048576: true; the input reads as it did. -/
def fnExactIsToldUptoRow : OpenClaim := { program := "ytnjjpmilcajmkaa", sum := "47d48ccd3072a7685f4057f7feaa31d318e7cc5e3ddf5a649f3af4f7ac1c19d2", func := "loop.example/g01989/laws.FnExactIsTold", spec := "fnExactIsTold", unfollowed := true, recurses := true, apart := false, narrowed := true }
def FnExactIsToldUptoSaid : Prop := fnExactIsToldUptoRow.holds Try.pinned (OpenSpec.upto fnExactIsToldSpec)

/-- 'laws.FnExactWithout', WHERE WHAT IT READS IS OF BULK AT MOST 1048576: true; the input reads as it did. -/
def fnExactWithoutUptoRow : OpenClaim := { program := "ytnjjpmilcajmkaa", sum := "47d48ccd3072a7685f4057f7feaa31d318e7cc5e3ddf5a649f3af4f7ac1c19d2", func := "loop.example/g01989/laws.FnExactWithout", spec := "fnExactWithout", apart := false, narrowed := true }
def FnExactWithoutUptoSaid : Prop := fnExactWithoutUptoRow.holds Try.pinned (OpenSpec.upto fnExactWithoutSpec)

/-- 'laws.FnExactSwapFacts', WHERE WHAT IT READS IS OF BULK AT MOST 1048576: true; the input reads as it did. -/
def fnExactSwapFactsUptoRow : OpenClaim := { program := "ytnjjpmilcajmkaa", sum := "47d48ccd3072a7685f4057f7feaa31d318e7cc5e3ddf5a649f3af4f7ac1c19d2", func := "loop.example/g01989/laws.FnExactSwapFacts", spec := "fnExactSwapFacts", inPlace := ["slices.overlaps[loop.example/g01989/impl.Fact]"], unfollowed := true, recurses := true, apart := false, narrowed := true }
def FnExactSwapFactsUptoSaid : Prop := fnExactSwapFactsUptoRow.holds Try.pinned (OpenSpec.upto fnExactSwapFactsSpec)

end Rows
end Go.Proofs.Ytnjjpmilcajmkaa
