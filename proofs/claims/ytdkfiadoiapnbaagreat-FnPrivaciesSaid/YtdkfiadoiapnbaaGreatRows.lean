/-
  No cell of these rows narrows 'for every input' (looked for: loops, veiled, ifaces, maps, wideKeys, modest, calm, conditions, laid).
  DERIVED. THE GIVEN ROWS OF THIS SEAT. 4 by the template 'for every input the law returns true; each argument reads behind the call as it read before'; 0 by the template 'total and deterministic' (their statements: YtdkfiadoiapnbaaGreatTotals.lean).
  GIVEN WITH THE SEED: the statements are not yours to turn. If you find one false, say at which input.
  Laid BY PROGRAM, IN A SANDBOX (cutbox-rows.mjs): the forced cells as the released guide's own fill.sh prints them over the translation f3e3b5e0763aaea9… (all of the seat's roots in one cut). By AI agents, Wed Nov 11 2026. No macro, syntax, notation, axiom, sorry.
-/
import Derived.Test.YtdkfiadoiapnbaaGreatChecked
import GoSem.Claim
import GoSem.ClaimJoined
import GoSem.ClaimMapViews
import Derived.JoinedTies
import Derived.KernelRfl
namespace Go.Proofs.YtdkfiadoiapnbaaGreat
/- THE CELL 'sum', in the pinned program and in every row, IS THE sha256 OF THE DUMP (.gsa) THAT YtdkfiadoiapnbaaGreatProg.lean LOADS. Nothing in Lean hashes anything: it is a label: what it is worth is what the hold of that sum in a sandbox is worth. -/
noncomputable def Tryz.pinned : Pinned := { name := "ytdkfiadoiapnbaagreat", sum := "f3e3b5e0763aaea9a96404fdf140e925617ac11a874a89604a1ed705d9c24332", checked := Tryz.checked }
namespace Rows
def none {H : Type} : Left H := { results := [], args := [] }

/-- 'laws.FnExactIsPrivateOrder': WHATEVER THE INPUT: true; the input reads as it did. -/
def fnExactIsPrivateOrderSpec : ChangeSpec := { name := "fnExactIsPrivateOrder", fn := fun _ => fun
  | [d1, d2, d3, d4, d5] => { results := [.lit (.bool true)], args := [d1, d2, d3, d4, d5] }
  | _ => none }
def fnExactIsPrivateOrderRow : OpenClaim := { program := "ytdkfiadoiapnbaagreat", sum := "f3e3b5e0763aaea9a96404fdf140e925617ac11a874a89604a1ed705d9c24332", func := "loop.example/g01989/laws.FnExactIsPrivateOrder", spec := "fnExactIsPrivateOrder", unfollowed := true, recurses := true, apart := false }
def FnExactIsPrivateOrderSaid : Prop := fnExactIsPrivateOrderRow.holds Tryz.pinned (OpenSpec.ofChange fnExactIsPrivateOrderSpec)

/-- ITS FALSE NEIGHBOUR: 'it returns false'. Refute it at one input. -/
def fnExactIsPrivateOrderWrong : ChangeSpec := { name := "fnExactIsPrivateOrder", fn := fun _ => fun
  | [d1, d2, d3, d4, d5] => { results := [.lit (.bool false)], args := [d1, d2, d3, d4, d5] }
  | _ => none }
def FnExactIsPrivateOrderWrongFalsely : Prop := fnExactIsPrivateOrderRow.holds Tryz.pinned (OpenSpec.ofChange fnExactIsPrivateOrderWrong)

/-- 'laws.FnExactFindPrivateOrder': WHATEVER THE INPUT: true; the input reads as it did. -/
def fnExactFindPrivateOrderSpec : ChangeSpec := { name := "fnExactFindPrivateOrder", fn := fun _ => fun
  | [d1, d2, d3, d4] => { results := [.lit (.bool true)], args := [d1, d2, d3, d4] }
  | _ => none }
def fnExactFindPrivateOrderRow : OpenClaim := { program := "ytdkfiadoiapnbaagreat", sum := "f3e3b5e0763aaea9a96404fdf140e925617ac11a874a89604a1ed705d9c24332", func := "loop.example/g01989/laws.FnExactFindPrivateOrder", spec := "fnExactFindPrivateOrder", unfollowed := true, recurses := true, apart := false }
def FnExactFindPrivateOrderSaid : Prop := fnExactFindPrivateOrderRow.holds Tryz.pinned (OpenSpec.ofChange fnExactFindPrivateOrderSpec)

/-- ITS FALSE NEIGHBOUR: 'it returns false'. Refute it at one input. -/
def fnExactFindPrivateOrderWrong : ChangeSpec := { name := "fnExactFindPrivateOrder", fn := fun _ => fun
  | [d1, d2, d3, d4] => { results := [.lit (.bool false)], args := [d1, d2, d3, d4] }
  | _ => none }
def FnExactFindPrivateOrderWrongFalsely : Prop := fnExactFindPrivateOrderRow.holds Tryz.pinned (OpenSpec.ofChange fnExactFindPrivateOrderWrong)

/-- 'laws.FnExactLeastDisclosure': WHATEVER THE INPUT: true; the input reads as it did. -/
def fnExactLeastDisclosureSpec : ChangeSpec := { name := "fnExactLeastDisclosure", fn := fun _ => fun
  | [d1, d2, d3, d4] => { results := [.lit (.bool true)], args := [d1, d2, d3, d4] }
  | _ => none }
def fnExactLeastDisclosureRow : OpenClaim := { program := "ytdkfiadoiapnbaagreat", sum := "f3e3b5e0763aaea9a96404fdf140e925617ac11a874a89604a1ed705d9c24332", func := "loop.example/g01989/laws.FnExactLeastDisclosure", spec := "fnExactLeastDisclosure", unfollowed := true, recurses := true, apart := false }
def FnExactLeastDisclosureSaid : Prop := fnExactLeastDisclosureRow.holds Tryz.pinned (OpenSpec.ofChange fnExactLeastDisclosureSpec)

/-- ITS FALSE NEIGHBOUR: 'it returns false'. Refute it at one input. -/
def fnExactLeastDisclosureWrong : ChangeSpec := { name := "fnExactLeastDisclosure", fn := fun _ => fun
  | [d1, d2, d3, d4] => { results := [.lit (.bool false)], args := [d1, d2, d3, d4] }
  | _ => none }
def FnExactLeastDisclosureWrongFalsely : Prop := fnExactLeastDisclosureRow.holds Tryz.pinned (OpenSpec.ofChange fnExactLeastDisclosureWrong)

/-- 'laws.FnPrivacies': WHATEVER THE INPUT: true; the input reads as it did. -/
def fnPrivaciesSpec : ChangeSpec := { name := "fnPrivacies", fn := fun _ => fun
  | [d] => { results := [.lit (.bool true)], args := [d] }
  | _ => none }
def fnPrivaciesRow : OpenClaim := { program := "ytdkfiadoiapnbaagreat", sum := "f3e3b5e0763aaea9a96404fdf140e925617ac11a874a89604a1ed705d9c24332", func := "loop.example/g01989/laws.FnPrivacies", spec := "fnPrivacies", unfollowed := true, recurses := true, apart := false }
def FnPrivaciesSaid : Prop := fnPrivaciesRow.holds Tryz.pinned (OpenSpec.ofChange fnPrivaciesSpec)

/-- ITS FALSE NEIGHBOUR: 'it returns false'. Refute it at one input. -/
def fnPrivaciesWrong : ChangeSpec := { name := "fnPrivacies", fn := fun _ => fun
  | [d] => { results := [.lit (.bool false)], args := [d] }
  | _ => none }
def FnPrivaciesWrongFalsely : Prop := fnPrivaciesRow.holds Tryz.pinned (OpenSpec.ofChange fnPrivaciesWrong)

/- THE SECOND FORM. 'bulk': how many values and letters a reading holds, each counted each time it is reached (what is shared counts as often as it is met; a slice's spare places count too). A statement '..UptoSaid' is the law's where the arguments, and the package variables that the reading takes, are together of bulk at most 1048576: NARROWER than '..Said'. Prove '..Said' where nothing that the law and all that it calls make is longer than what came in: it says more and counts as full. Else prove '..UptoSaid'. A law counts once. -/
mutual
def uptoBulk {H : Type} : DataW H → Nat
  | .lit (.string bytes) => bytes.length + 1
  | .lit _ => 1
  | .nil => 1
  | .ptr d => uptoBulk d + 1
  | .slice elems spare => uptoBulkAll elems + uptoBulkAll spare + 1
  | .agg parts => uptoBulkAll parts + 1
  | .iface _ d => uptoBulk d + 1
  | .map entries => uptoBulkEntries entries + 1
  | .held _ => 1
def uptoBulkAll {H : Type} : List (DataW H) → Nat
  | [] => 0
  | d :: r => uptoBulk d + uptoBulkAll r
def uptoBulkEntries {H : Type} : List (Lit × DataW H) → Nat
  | [] => 0
  | x :: r => uptoBulkEntry x + uptoBulkEntries r
def uptoBulkEntry {H : Type} : Lit × DataW H → Nat
  | (.string bytes, d) => bytes.length + uptoBulk d + 1
  | (_, d) => uptoBulk d + 1
 end
def uptoSmall : (H : Type) → List (DataW H) → Bool := fun _ ds => decide (uptoBulkAll ds ≤ 1048576)
def OpenSpec.upto (s : _root_.Go.ChangeSpec) : _root_.Go.OpenSpec := { _root_.Go.OpenSpec.ofChange s with cond := some uptoSmall }

/-- 'laws.FnExactIsPrivateOrder', WHERE WHAT IT READS IS OF BULK AT MOST 1048576: true; the input reads as it did. -/
def fnExactIsPrivateOrderUptoRow : OpenClaim := { program := "ytdkfiadoiapnbaagreat", sum := "f3e3b5e0763aaea9a96404fdf140e925617ac11a874a89604a1ed705d9c24332", func := "loop.example/g01989/laws.FnExactIsPrivateOrder", spec := "fnExactIsPrivateOrder", unfollowed := true, recurses := true, apart := false, narrowed := true }
def FnExactIsPrivateOrderUptoSaid : Prop := fnExactIsPrivateOrderUptoRow.holds Tryz.pinned (OpenSpec.upto fnExactIsPrivateOrderSpec)

/-- 'laws.FnExactFindPrivateOrder', WHERE WHAT IT READS IS OF BULK AT MOST 1048576: true; the input reads as it did. -/
def fnExactFindPrivateOrderUptoRow : OpenClaim := { program := "ytdkfiadoiapnbaagreat", sum := "f3e3b5e0763aaea9a96404fdf140e925617ac11a874a89604a1ed705d9c24332", func := "loop.example/g01989/laws.FnExactFindPrivateOrder", spec := "fnExactFindPrivateOrder", unfollowed := true, recurses := true, apart := false, narrowed := true }
def FnExactFindPrivateOrderUptoSaid : Prop := fnExactFindPrivateOrderUptoRow.holds Tryz.pinned (OpenSpec.upto fnExactFindPrivateOrderSpec)

/-- 'laws.FnExactLeastDisclosure', WHERE WHAT IT READS IS OF BULK AT MOST 1048576: true; the input reads as it did. -/
def fnExactLeastDisclosureUptoRow : OpenClaim := { program := "ytdkfiadoiapnbaagreat", sum := "f3e3b5e0763aaea9a96404fdf140e925617ac11a874a89604a1ed705d9c24332", func := "loop.example/g01989/laws.FnExactLeastDisclosure", spec := "fnExactLeastDisclosure", unfollowed := true, recurses := true, apart := false, narrowed := true }
def FnExactLeastDisclosureUptoSaid : Prop := fnExactLeastDisclosureUptoRow.holds Tryz.pinned (OpenSpec.upto fnExactLeastDisclosureSpec)

/-- 'laws.FnPrivacies', WHERE WHAT IT READS IS OF BULK AT MOST 1048576: true; the input reads as it did. -/
def fnPrivaciesUptoRow : OpenClaim := { program := "ytdkfiadoiapnbaagreat", sum := "f3e3b5e0763aaea9a96404fdf140e925617ac11a874a89604a1ed705d9c24332", func := "loop.example/g01989/laws.FnPrivacies", spec := "fnPrivacies", unfollowed := true, recurses := true, apart := false, narrowed := true }
def FnPrivaciesUptoSaid : Prop := fnPrivaciesUptoRow.holds Tryz.pinned (OpenSpec.upto fnPrivaciesSpec)

end Rows
end Go.Proofs.YtdkfiadoiapnbaaGreat
