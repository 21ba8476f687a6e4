/-
  No cell of these rows narrows 'for every input' (looked for: loops, veiled, ifaces, maps, wideKeys, modest, calm, conditions, laid).
  DERIVED. THE GIVEN ROWS OF THIS SEAT. 12 by the template 'for every input the law returns true; each argument reads behind the call as it read before'; 0 by the template 'total and deterministic' (their statements: YtnccdhglieidhaaTotals.lean).
  GIVEN WITH THE SEED: the statements are not yours to turn. If you find one false, say at which input.
  Laid BY PROGRAM, IN A SANDBOX (cutbox-rows.mjs): the forced cells as the released guide's own fill.sh prints them over the translation 1ec8fea887606a99… (all of the seat's roots in one cut). By AI agents, Wed Nov 11 2026. No macro, syntax, notation, axiom, sorry.
-/
import Derived.Test.YtnccdhglieidhaaChecked
import GoSem.Claim
import GoSem.ClaimJoined
import GoSem.ClaimMapViews
import Derived.JoinedTies
import Derived.KernelRfl
namespace Go.Proofs.Ytnccdhglieidhaa
/- THE CELL 'sum', in the pinned program and in every row, IS THE sha256 OF THE DUMP (.gsa) THAT YtnccdhglieidhaaProg.lean LOADS. Nothing in Lean hashes anything: it is a label: what it is worth is what the hold of that sum in a sandbox is worth. -/
noncomputable def Try.pinned : Pinned := { name := "ytnccdhglieidhaa", sum := "1ec8fea887606a99707f9a065349a214380c874543642da8afabff77928deedb", checked := Try.checked }
namespace Rows
def none {H : Type} : Left H := { results := [], args := [] }

/-- 'laws.FnExactCheckByte': WHATEVER THE INPUT: true; the input reads as it did. -/
def fnExactCheckByteSpec : ChangeSpec := { name := "fnExactCheckByte", fn := fun _ => fun
  | [d] => { results := [.lit (.bool true)], args := [d] }
  | _ => none }
def fnExactCheckByteRow : OpenClaim := { program := "ytnccdhglieidhaa", sum := "1ec8fea887606a99707f9a065349a214380c874543642da8afabff77928deedb", func := "loop.example/g01989/laws.FnExactCheckByte", spec := "fnExactCheckByte", apart := false }
def FnExactCheckByteSaid : Prop := fnExactCheckByteRow.holds Try.pinned (OpenSpec.ofChange fnExactCheckByteSpec)

/-- ITS FALSE NEIGHBOUR: 'it returns false'. Refute it at one input. -/
def fnExactCheckByteWrong : ChangeSpec := { name := "fnExactCheckByte", fn := fun _ => fun
  | [d] => { results := [.lit (.bool false)], args := [d] }
  | _ => none }
def FnExactCheckByteWrongFalsely : Prop := fnExactCheckByteRow.holds Try.pinned (OpenSpec.ofChange fnExactCheckByteWrong)

/-- 'laws.FnExactWaitBefore': WHATEVER THE INPUT: true; the input reads as it did. -/
def fnExactWaitBeforeSpec : ChangeSpec := { name := "fnExactWaitBefore", fn := fun _ => fun
  | [d] => { results := [.lit (.bool true)], args := [d] }
  | _ => none }
def fnExactWaitBeforeRow : OpenClaim := { program := "ytnccdhglieidhaa", sum := "1ec8fea887606a99707f9a065349a214380c874543642da8afabff77928deedb", func := "loop.example/g01989/laws.FnExactWaitBefore", spec := "fnExactWaitBefore", apart := false }
def FnExactWaitBeforeSaid : Prop := fnExactWaitBeforeRow.holds Try.pinned (OpenSpec.ofChange fnExactWaitBeforeSpec)

/-- ITS FALSE NEIGHBOUR: 'it returns false'. Refute it at one input. -/
def fnExactWaitBeforeWrong : ChangeSpec := { name := "fnExactWaitBefore", fn := fun _ => fun
  | [d] => { results := [.lit (.bool false)], args := [d] }
  | _ => none }
def FnExactWaitBeforeWrongFalsely : Prop := fnExactWaitBeforeRow.holds Try.pinned (OpenSpec.ofChange fnExactWaitBeforeWrong)

/-- 'laws.FnExactFrameOf': WHATEVER THE INPUT: true; the input reads as it did. -/
def fnExactFrameOfSpec : ChangeSpec := { name := "fnExactFrameOf", fn := fun _ => fun
  | [d] => { results := [.lit (.bool true)], args := [d] }
  | _ => none }
def fnExactFrameOfRow : OpenClaim := { program := "ytnccdhglieidhaa", sum := "1ec8fea887606a99707f9a065349a214380c874543642da8afabff77928deedb", func := "loop.example/g01989/laws.FnExactFrameOf", spec := "fnExactFrameOf", apart := false }
def FnExactFrameOfSaid : Prop := fnExactFrameOfRow.holds Try.pinned (OpenSpec.ofChange fnExactFrameOfSpec)

/-- ITS FALSE NEIGHBOUR: 'it returns false'. Refute it at one input. -/
def fnExactFrameOfWrong : ChangeSpec := { name := "fnExactFrameOf", fn := fun _ => fun
  | [d] => { results := [.lit (.bool false)], args := [d] }
  | _ => none }
def FnExactFrameOfWrongFalsely : Prop := fnExactFrameOfRow.holds Try.pinned (OpenSpec.ofChange fnExactFrameOfWrong)

/-- 'laws.FnExactIsLedger': WHATEVER THE INPUT: true; the input reads as it did. -/
def fnExactIsLedgerSpec : ChangeSpec := { name := "fnExactIsLedger", fn := fun _ => fun
  | [d] => { results := [.lit (.bool true)], args := [d] }
  | _ => none }
def fnExactIsLedgerRow : OpenClaim := { program := "ytnccdhglieidhaa", sum := "1ec8fea887606a99707f9a065349a214380c874543642da8afabff77928deedb", func := "loop.example/g01989/laws.FnExactIsLedger", spec := "fnExactIsLedger", unfollowed := true, recurses := true, apart := false }
def FnExactIsLedgerSaid : Prop := fnExactIsLedgerRow.holds Try.pinned (OpenSpec.ofChange fnExactIsLedgerSpec)

/-- ITS FALSE NEIGHBOUR: 'it returns false'. Refute it at one input. -/
def fnExactIsLedgerWrong : ChangeSpec := { name := "fnExactIsLedger", fn := fun _ => fun
  | [d] => { results := [.lit (.bool false)], args := [d] }
  | _ => none }
def FnExactIsLedgerWrongFalsely : Prop := fnExactIsLedgerRow.holds Try.pinned (OpenSpec.ofChange fnExactIsLedgerWrong)

/-- 'laws.FnExactNextTime': WHATEVER THE INPUT: true; the input reads as it did. -/
def fnExactNextTimeSpec : ChangeSpec := { name := "fnExactNextTime", fn := fun _ => fun
  | [d1, d2, d3] => { results := [.lit (.bool true)], args := [d1, d2, d3] }
  | _ => none }
def fnExactNextTimeRow : OpenClaim := { program := "ytnccdhglieidhaa", sum := "1ec8fea887606a99707f9a065349a214380c874543642da8afabff77928deedb", func := "loop.example/g01989/laws.FnExactNextTime", spec := "fnExactNextTime", apart := false }
def FnExactNextTimeSaid : Prop := fnExactNextTimeRow.holds Try.pinned (OpenSpec.ofChange fnExactNextTimeSpec)

/-- ITS FALSE NEIGHBOUR: 'it returns false'. Refute it at one input. -/
def fnExactNextTimeWrong : ChangeSpec := { name := "fnExactNextTime", fn := fun _ => fun
  | [d1, d2, d3] => { results := [.lit (.bool false)], args := [d1, d2, d3] }
  | _ => none }
def FnExactNextTimeWrongFalsely : Prop := fnExactNextTimeRow.holds Try.pinned (OpenSpec.ofChange fnExactNextTimeWrong)

/-- 'laws.FnExactScheduleCalls': WHATEVER THE INPUT: true; the input reads as it did. -/
def fnExactScheduleCallsSpec : ChangeSpec := { name := "fnExactScheduleCalls", fn := fun _ => fun
  | [d1, d2, d3] => { results := [.lit (.bool true)], args := [d1, d2, d3] }
  | _ => none }
def fnExactScheduleCallsRow : OpenClaim := { program := "ytnccdhglieidhaa", sum := "1ec8fea887606a99707f9a065349a214380c874543642da8afabff77928deedb", func := "loop.example/g01989/laws.FnExactScheduleCalls", spec := "fnExactScheduleCalls", apart := false }
def FnExactScheduleCallsSaid : Prop := fnExactScheduleCallsRow.holds Try.pinned (OpenSpec.ofChange fnExactScheduleCallsSpec)

/-- ITS FALSE NEIGHBOUR: 'it returns false'. Refute it at one input. -/
def fnExactScheduleCallsWrong : ChangeSpec := { name := "fnExactScheduleCalls", fn := fun _ => fun
  | [d1, d2, d3] => { results := [.lit (.bool false)], args := [d1, d2, d3] }
  | _ => none }
def FnExactScheduleCallsWrongFalsely : Prop := fnExactScheduleCallsRow.holds Try.pinned (OpenSpec.ofChange fnExactScheduleCallsWrong)

/-- 'laws.FnExactPageAt': WHATEVER THE INPUT: true; the input reads as it did. -/
def fnExactPageAtSpec : ChangeSpec := { name := "fnExactPageAt", fn := fun _ => fun
  | [d1, d2, d3] => { results := [.lit (.bool true)], args := [d1, d2, d3] }
  | _ => none }
def fnExactPageAtRow : OpenClaim := { program := "ytnccdhglieidhaa", sum := "1ec8fea887606a99707f9a065349a214380c874543642da8afabff77928deedb", func := "loop.example/g01989/laws.FnExactPageAt", spec := "fnExactPageAt", apart := false }
def FnExactPageAtSaid : Prop := fnExactPageAtRow.holds Try.pinned (OpenSpec.ofChange fnExactPageAtSpec)

/-- ITS FALSE NEIGHBOUR: 'it returns false'. Refute it at one input. -/
def fnExactPageAtWrong : ChangeSpec := { name := "fnExactPageAt", fn := fun _ => fun
  | [d1, d2, d3] => { results := [.lit (.bool false)], args := [d1, d2, d3] }
  | _ => none }
def FnExactPageAtWrongFalsely : Prop := fnExactPageAtRow.holds Try.pinned (OpenSpec.ofChange fnExactPageAtWrong)

/-- 'laws.FnExactSplitFrames': WHATEVER THE INPUT: true; the input reads as it did. -/
def fnExactSplitFramesSpec : ChangeSpec := { name := "fnExactSplitFrames", fn := fun _ => fun
  | [d] => { results := [.lit (.bool true)], args := [d] }
  | _ => none }
def fnExactSplitFramesRow : OpenClaim := { program := "ytnccdhglieidhaa", sum := "1ec8fea887606a99707f9a065349a214380c874543642da8afabff77928deedb", func := "loop.example/g01989/laws.FnExactSplitFrames", spec := "fnExactSplitFrames", apart := false }
def FnExactSplitFramesSaid : Prop := fnExactSplitFramesRow.holds Try.pinned (OpenSpec.ofChange fnExactSplitFramesSpec)

/-- ITS FALSE NEIGHBOUR: 'it returns false'. Refute it at one input. -/
def fnExactSplitFramesWrong : ChangeSpec := { name := "fnExactSplitFrames", fn := fun _ => fun
  | [d] => { results := [.lit (.bool false)], args := [d] }
  | _ => none }
def FnExactSplitFramesWrongFalsely : Prop := fnExactSplitFramesRow.holds Try.pinned (OpenSpec.ofChange fnExactSplitFramesWrong)

/-- 'laws.FnExactJoinPages': WHATEVER THE INPUT: true; the input reads as it did. -/
def fnExactJoinPagesSpec : ChangeSpec := { name := "fnExactJoinPages", fn := fun _ => fun
  | [d] => { results := [.lit (.bool true)], args := [d] }
  | _ => none }
def fnExactJoinPagesRow : OpenClaim := { program := "ytnccdhglieidhaa", sum := "1ec8fea887606a99707f9a065349a214380c874543642da8afabff77928deedb", func := "loop.example/g01989/laws.FnExactJoinPages", spec := "fnExactJoinPages", apart := false }
def FnExactJoinPagesSaid : Prop := fnExactJoinPagesRow.holds Try.pinned (OpenSpec.ofChange fnExactJoinPagesSpec)

/-- ITS FALSE NEIGHBOUR: 'it returns false'. Refute it at one input. -/
def fnExactJoinPagesWrong : ChangeSpec := { name := "fnExactJoinPages", fn := fun _ => fun
  | [d] => { results := [.lit (.bool false)], args := [d] }
  | _ => none }
def FnExactJoinPagesWrongFalsely : Prop := fnExactJoinPagesRow.holds Try.pinned (OpenSpec.ofChange fnExactJoinPagesWrong)

/-- 'laws.FnWindows': WHATEVER THE INPUT: true; the input reads as it did. -/
def fnWindowsSpec : ChangeSpec := { name := "fnWindows", fn := fun _ => fun
  | [d] => { results := [.lit (.bool true)], args := [d] }
  | _ => none }
def fnWindowsRow : OpenClaim := { program := "ytnccdhglieidhaa", sum := "1ec8fea887606a99707f9a065349a214380c874543642da8afabff77928deedb", func := "loop.example/g01989/laws.FnWindows", spec := "fnWindows", apart := false }
def FnWindowsSaid : Prop := fnWindowsRow.holds Try.pinned (OpenSpec.ofChange fnWindowsSpec)

/-- ITS FALSE NEIGHBOUR: 'it returns false'. Refute it at one input. -/
def fnWindowsWrong : ChangeSpec := { name := "fnWindows", fn := fun _ => fun
  | [d] => { results := [.lit (.bool false)], args := [d] }
  | _ => none }
def FnWindowsWrongFalsely : Prop := fnWindowsRow.holds Try.pinned (OpenSpec.ofChange fnWindowsWrong)

/-- 'laws.FnExactPagesOf': WHATEVER THE INPUT: true; the input reads as it did. -/
def fnExactPagesOfSpec : ChangeSpec := { name := "fnExactPagesOf", fn := fun _ => fun
  | [d1, d2] => { results := [.lit (.bool true)], args := [d1, d2] }
  | _ => none }
def fnExactPagesOfRow : OpenClaim := { program := "ytnccdhglieidhaa", sum := "1ec8fea887606a99707f9a065349a214380c874543642da8afabff77928deedb", func := "loop.example/g01989/laws.FnExactPagesOf", spec := "fnExactPagesOf", apart := false }
def FnExactPagesOfSaid : Prop := fnExactPagesOfRow.holds Try.pinned (OpenSpec.ofChange fnExactPagesOfSpec)

/-- ITS FALSE NEIGHBOUR: 'it returns false'. Refute it at one input. -/
def fnExactPagesOfWrong : ChangeSpec := { name := "fnExactPagesOf", fn := fun _ => fun
  | [d1, d2] => { results := [.lit (.bool false)], args := [d1, d2] }
  | _ => none }
def FnExactPagesOfWrongFalsely : Prop := fnExactPagesOfRow.holds Try.pinned (OpenSpec.ofChange fnExactPagesOfWrong)

/-- 'laws.FnExactSwapValue': WHATEVER THE INPUT: true; the input reads as it did. -/
def fnExactSwapValueSpec : ChangeSpec := { name := "fnExactSwapValue", fn := fun _ => fun
  | [d1, d2, d3] => { results := [.lit (.bool true)], args := [d1, d2, d3] }
  | _ => none }
def fnExactSwapValueRow : OpenClaim := { program := "ytnccdhglieidhaa", sum := "1ec8fea887606a99707f9a065349a214380c874543642da8afabff77928deedb", func := "loop.example/g01989/laws.FnExactSwapValue", spec := "fnExactSwapValue", apart := false }
def FnExactSwapValueSaid : Prop := fnExactSwapValueRow.holds Try.pinned (OpenSpec.ofChange fnExactSwapValueSpec)

/-- ITS FALSE NEIGHBOUR: 'it returns false'. Refute it at one input. -/
def fnExactSwapValueWrong : ChangeSpec := { name := "fnExactSwapValue", fn := fun _ => fun
  | [d1, d2, d3] => { results := [.lit (.bool false)], args := [d1, d2, d3] }
  | _ => none }
def FnExactSwapValueWrongFalsely : Prop := fnExactSwapValueRow.holds Try.pinned (OpenSpec.ofChange fnExactSwapValueWrong)

/- THE SECOND FORM. 'bulk': how many values and letters a reading holds, each counted each time it is reached (what is shared counts as often as it is met; a slice's spare places count too). A statement '..UptoSaid' is the law's where the arguments, and the package variables that the reading takes, are together of bulk at most 1048576: NARROWER than '..Said'. Prove '..Said' where nothing that the law and all that it calls make is longer than what came in: it says more and counts as full. Else prove '..UptoSaid'. A law counts once. -/
mutual
def uptoBulk {H : Type} : DataW H → Nat
  | .lit (.string bytes) => bytes.length + 1
  | .lit _ => 1
  | .nil => 1
  | .ptr d => uptoBulk d + 1
  | .slice elems spare => uptoBulkAll elems + uptoBulkAll spare + 1
  | .agg parts => uptoBulkAll parts + 1
  | .iface _ d => uptoBulk d + 1
  | .map entries => uptoBulkEntries entries + 1
  | .held _ => 1
def uptoBulkAll {H : Type} : List (DataW H) → Nat
  | [] => 0
  | d :: r => uptoBulk d + uptoBulkAll r
def uptoBulkEntries {H : Type} : List (Lit × DataW H) → Nat
  | [] => 0
  | x :: r => uptoBulkEntry x + uptoBulkEntries r
def uptoBulkEntry {H : Type} : Lit × DataW H → Nat
  | (.string bytes, d) => bytes.length + uptoBulk d + 1
  | (_, d) => uptoBulk d + 1
 end
def uptoSmall : (H : Type) → List (DataW H) → Bool := fun _ ds => decide (uptoBulkAll ds ≤ 1048576)
def OpenSpec.upto (s : _root_.Go.ChangeSpec) : _root_.Go.OpenSpec := { _root_.Go.OpenSpec.ofChange s with cond := some uptoSmall }

/-- 'laws.FnExactCheckByte', WHERE WHAT IT READS IS OF BULK AT MOST 1048576: true; the input reads as it did. -/
def fnExactCheckByteUptoRow : OpenClaim := { program := "ytnccdhglieidhaa", sum := "1ec8fea887606a99707f9a065349a214380c874543642da8afabff77928deedb", func := "loop.example/g01989/laws.FnExactCheckByte", spec := "fnExactCheckByte", apart := false, narrowed := true }
def FnExactCheckByteUptoSaid : Prop := fnExactCheckByteUptoRow.holds Try.pinned (OpenSpec.upto fnExactCheckByteSpec)

/-- 'laws.FnExactWaitBefore', WHERE WHAT IT READS IS OF BULK AT MOST 1048576: true; the input reads as it did. -/
def fnExactWaitBeforeUptoRow : OpenClaim := { program := "ytnccdhglieidhaa", sum := "1ec8fea887606a99707f9a065349a214380c874543642da8afabff77928deedb", func := "loop.example/g01989/laws.FnExactWaitBefore", spec := "fnExactWaitBefore", apart := false, narrowed := true }
def FnExactWaitBeforeUptoSaid : Prop := fnExactWaitBeforeUptoRow.holds Try.pinned (OpenSpec.upto fnExactWaitBeforeSpec)

/-- 'laws.FnExactFrameOf', WHERE WHAT IT READS IS OF BULK AT MOST 1048576: true; the input reads as it did. -/
def fnExactFrameOfUptoRow : OpenClaim := { program := "ytnccdhglieidhaa", sum := "1ec8fea887606a99707f9a065349a214380c874543642da8afabff77928deedb", func := "loop.example/g01989/laws.FnExactFrameOf", spec := "fnExactFrameOf", apart := false, narrowed := true }
def FnExactFrameOfUptoSaid : Prop := fnExactFrameOfUptoRow.holds Try.pinned (OpenSpec.upto fnExactFrameOfSpec)

/-- 'laws.FnExactIsLedger', WHERE WHAT IT READS IS OF BULK AT MOST 1048576: true; the input reads as it did. -/
def fnExactIsLedgerUptoRow : OpenClaim := { program := "ytnccdhglieidhaa", sum := "1ec8fea887606a99707f9a065349a214380c874543642da8afabff77928deedb", func := "loop.example/g01989/laws.FnExactIsLedger", spec := "fnExactIsLedger", unfollowed := true, recurses := true, apart := false, narrowed := true }
def FnExactIsLedgerUptoSaid : Prop := fnExactIsLedgerUptoRow.holds Try.pinned (OpenSpec.upto fnExactIsLedgerSpec)

/-- 'laws.FnExactNextTime', WHERE WHAT IT READS IS OF BULK AT MOST 1048576: true; the input reads as it did. -/
def fnExactNextTimeUptoRow : OpenClaim := { program := "ytnccdhglieidhaa", sum := "1ec8fea887606a99707f9a065349a214380c874543642da8afabff77928deedb", func := "loop.example/g01989/laws.FnExactNextTime", spec := "fnExactNextTime", apart := false, narrowed := true }
def FnExactNextTimeUptoSaid : Prop := fnExactNextTimeUptoRow.holds Try.pinned (OpenSpec.upto fnExactNextTimeSpec)

/-- 'laws.FnExactScheduleCalls', WHERE WHAT IT READS IS OF BULK AT MOST 1048576: true; the input reads as it did. -/
def fnExactScheduleCallsUptoRow : OpenClaim := { program := "ytnccdhglieidhaa", sum := "1ec8fea887606a99707f9a065349a214380c874543642da8afabff77928deedb", func := "loop.example/g01989/laws.FnExactScheduleCalls", spec := "fnExactScheduleCalls", apart := false, narrowed := true }
def FnExactScheduleCallsUptoSaid : Prop := fnExactScheduleCallsUptoRow.holds Try.pinned (OpenSpec.upto fnExactScheduleCallsSpec)

/-- 'laws.FnExactPageAt', WHERE WHAT IT READS IS OF BULK AT MOST 1048576: true; the input reads as it did. -/
def fnExactPageAtUptoRow : OpenClaim := { program := "ytnccdhglieidhaa", sum := "1ec8fea887606a99707f9a065349a214380c874543642da8afabff77928deedb", func := "loop.example/g01989/laws.FnExactPageAt", spec := "fnExactPageAt", apart := false, narrowed := true }
def FnExactPageAtUptoSaid : Prop := fnExactPageAtUptoRow.holds Try.pinned (OpenSpec.upto fnExactPageAtSpec)

/-- 'laws.FnExactSplitFrames', WHERE WHAT IT READS IS OF BULK AT MOST 1048576: true; the input reads as it did. -/
def fnExactSplitFramesUptoRow : OpenClaim := { program := "ytnccdhglieidhaa", sum := "1ec8fea887606a99707f9a065349a214380c874543642da8afabff77928deedb", func := "loop.example/g01989/laws.FnExactSplitFrames", spec := "fnExactSplitFrames", apart := false, narrowed := true }
def FnExactSplitFramesUptoSaid : Prop := fnExactSplitFramesUptoRow.holds Try.pinned (OpenSpec.upto fnExactSplitFramesSpec)

/-- 'laws.FnExactJoinPages', WHERE WHAT IT READS IS OF BULK AT MOST 1048576: true; the input reads as it did. -/
def fnExactJoinPagesUptoRow : OpenClaim := { program := "ytnccdhglieidhaa", sum := "1ec8fea887606a99707f9a065349a214380c874543642da8afabff77928deedb", func := "loop.example/g01989/laws.FnExactJoinPages", spec := "fnExactJoinPages", apart := false, narrowed := true }
def FnExactJoinPagesUptoSaid : Prop := fnExactJoinPagesUptoRow.holds Try.pinned (OpenSpec.upto fnExactJoinPagesSpec)

/-- 'laws.FnWindows', WHERE WHAT IT READS IS OF BULK AT MOST 1048576: true; the input reads as it did. -/
def fnWindowsUptoRow : OpenClaim := { program := "ytnccdhglieidhaa", sum := "1ec8fea887606a99707f9a065349a214380c874543642da8afabff77928deedb", func := "loop.example/g01989/laws.FnWindows", spec := "fnWindows", apart := false, narrowed := true }
def FnWindowsUptoSaid : Prop := fnWindowsUptoRow.holds Try.pinned (OpenSpec.upto fnWindowsSpec)

/-- 'laws.FnExactPagesOf', WHERE WHAT IT READS IS OF BULK AT MOST 1048576: true; the input reads as it did. -/
def fnExactPagesOfUptoRow : OpenClaim := { program := "ytnccdhglieidhaa", sum := "1ec8fea887606a99707f9a065349a214380c874543642da8afabff77928deedb", func := "loop.example/g01989/laws.FnExactPagesOf", spec := "fnExactPagesOf", apart := false, narrowed := true }
def FnExactPagesOfUptoSaid : Prop := fnExactPagesOfUptoRow.holds Try.pinned (OpenSpec.upto fnExactPagesOfSpec)

/-- 'laws.FnExactSwapValue', WHERE WHAT IT READS IS OF BULK AT MOST 1048576: true; the input reads as it did. -/
def fnExactSwapValueUptoRow : OpenClaim := { program := "ytnccdhglieidhaa", sum := "1ec8fea887606a99707f9a065349a214380c874543642da8afabff77928deedb", func := "loop.example/g01989/laws.FnExactSwapValue", spec := "fnExactSwapValue", apart := false, narrowed := true }
def FnExactSwapValueUptoSaid : Prop := fnExactSwapValueUptoRow.holds Try.pinned (OpenSpec.upto fnExactSwapValueSpec)

end Rows
end Go.Proofs.Ytnccdhglieidhaa
