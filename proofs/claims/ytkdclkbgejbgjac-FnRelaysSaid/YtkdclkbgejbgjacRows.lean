/-
  No cell of these rows narrows 'for every input' (looked for: loops, veiled, ifaces, maps, wideKeys, modest, calm, conditions, laid).
  DERIVED. THE GIVEN ROWS OF THIS SEAT. 6 by the template 'for every input the law returns true; each argument reads behind the call as it read before'; 0 by the template 'total and deterministic' (their statements: YtkdclkbgejbgjacTotals.lean).
  GIVEN WITH THE SEED: the statements are not yours to turn. If you find one false, say at which input.
  Laid BY PROGRAM, IN A SANDBOX (cutbox-rows.mjs): the forced cells as the released guide's own fill.sh prints them over the translation 6f1376094f69beb7… (all of the seat's roots in one cut). By AI agents, Wed Nov 11 2026. No macro, syntax, notation, axiom, sorry.
-/
import Derived.Test.YtkdclkbgejbgjacChecked
import GoSem.Claim
import GoSem.ClaimJoined
import GoSem.ClaimMapViews
import Derived.JoinedTies
import Derived.KernelRfl
namespace Go.Proofs.Ytkdclkbgejbgjac
/- THE CELL 'sum', in the pinned program and in every row, IS THE sha256 OF THE DUMP (.gsa) THAT YtkdclkbgejbgjacProg.lean LOADS. Nothing in Lean hashes anything: it is a label: what it is worth is what the hold of that sum in a sandbox is worth. -/
noncomputable def Try.pinned : Pinned := { name := "ytkdclkbgejbgjac", sum := "6f1376094f69beb7a009d55f1c85e148de526863b3caf978cc94d6929b0726ba", checked := Try.checked }
namespace Rows
def none {H : Type} : Left H := { results := [], args := [] }

/-- 'laws.FnExactStillIn': WHATEVER THE INPUT: true; the input reads as it did. -/
def fnExactStillInSpec : ChangeSpec := { name := "fnExactStillIn", fn := fun _ => fun
  | [d1, d2] => { results := [.lit (.bool true)], args := [d1, d2] }
  | _ => none }
def fnExactStillInRow : OpenClaim := { program := "ytkdclkbgejbgjac", sum := "6f1376094f69beb7a009d55f1c85e148de526863b3caf978cc94d6929b0726ba", func := "loop.example/g03008/laws.FnExactStillIn", spec := "fnExactStillIn", apart := false }
def FnExactStillInSaid : Prop := fnExactStillInRow.holds Try.pinned (OpenSpec.ofChange fnExactStillInSpec)

/-- ITS FALSE NEIGHBOUR: 'it returns false'. Refute it at one input. -/
def fnExactStillInWrong : ChangeSpec := { name := "fnExactStillIn", fn := fun _ => fun
  | [d1, d2] => { results := [.lit (.bool false)], args := [d1, d2] }
  | _ => none }
def FnExactStillInWrongFalsely : Prop := fnExactStillInRow.holds Try.pinned (OpenSpec.ofChange fnExactStillInWrong)

/-- 'laws.FnExactNextCrossing': WHATEVER THE INPUT: true; the input reads as it did. -/
def fnExactNextCrossingSpec : ChangeSpec := { name := "fnExactNextCrossing", fn := fun _ => fun
  | [d1, d2, d3] => { results := [.lit (.bool true)], args := [d1, d2, d3] }
  | _ => none }
def fnExactNextCrossingRow : OpenClaim := { program := "ytkdclkbgejbgjac", sum := "6f1376094f69beb7a009d55f1c85e148de526863b3caf978cc94d6929b0726ba", func := "loop.example/g03008/laws.FnExactNextCrossing", spec := "fnExactNextCrossing", apart := false }
def FnExactNextCrossingSaid : Prop := fnExactNextCrossingRow.holds Try.pinned (OpenSpec.ofChange fnExactNextCrossingSpec)

/-- ITS FALSE NEIGHBOUR: 'it returns false'. Refute it at one input. -/
def fnExactNextCrossingWrong : ChangeSpec := { name := "fnExactNextCrossing", fn := fun _ => fun
  | [d1, d2, d3] => { results := [.lit (.bool false)], args := [d1, d2, d3] }
  | _ => none }
def FnExactNextCrossingWrongFalsely : Prop := fnExactNextCrossingRow.holds Try.pinned (OpenSpec.ofChange fnExactNextCrossingWrong)

/-- 'laws.FnRadio': WHATEVER THE INPUT: true; the input reads as it did. -/
def fnRadioSpec : ChangeSpec := { name := "fnRadio", fn := fun _ => fun
  | [d] => { results := [.lit (.bool true)], args := [d] }
  | _ => none }
def fnRadioRow : OpenClaim := { program := "ytkdclkbgejbgjac", sum := "6f1376094f69beb7a009d55f1c85e148de526863b3caf978cc94d6929b0726ba", func := "loop.example/g03008/laws.FnRadio", spec := "fnRadio", apart := false }
def FnRadioSaid : Prop := fnRadioRow.holds Try.pinned (OpenSpec.ofChange fnRadioSpec)

/-- ITS FALSE NEIGHBOUR: 'it returns false'. Refute it at one input. -/
def fnRadioWrong : ChangeSpec := { name := "fnRadio", fn := fun _ => fun
  | [d] => { results := [.lit (.bool false)], args := [d] }
  | _ => none }
def FnRadioWrongFalsely : Prop := fnRadioRow.holds Try.pinned (OpenSpec.ofChange fnRadioWrong)

/-- 'laws.FnExactCapOf': WHATEVER THE INPUT: true; the input reads as it did. -/
def fnExactCapOfSpec : ChangeSpec := { name := "fnExactCapOf", fn := fun _ => fun
  | [d] => { results := [.lit (.bool true)], args := [d] }
  | _ => none }
def fnExactCapOfRow : OpenClaim := { program := "ytkdclkbgejbgjac", sum := "6f1376094f69beb7a009d55f1c85e148de526863b3caf978cc94d6929b0726ba", func := "loop.example/g03008/laws.FnExactCapOf", spec := "fnExactCapOf", apart := false }
def FnExactCapOfSaid : Prop := fnExactCapOfRow.holds Try.pinned (OpenSpec.ofChange fnExactCapOfSpec)

/-- ITS FALSE NEIGHBOUR: 'it returns false'. Refute it at one input. -/
def fnExactCapOfWrong : ChangeSpec := { name := "fnExactCapOf", fn := fun _ => fun
  | [d] => { results := [.lit (.bool false)], args := [d] }
  | _ => none }
def FnExactCapOfWrongFalsely : Prop := fnExactCapOfRow.holds Try.pinned (OpenSpec.ofChange fnExactCapOfWrong)

/-- 'laws.FnRelays': WHATEVER THE INPUT: true; the input reads as it did. -/
def fnRelaysSpec : ChangeSpec := { name := "fnRelays", fn := fun _ => fun
  | [d] => { results := [.lit (.bool true)], args := [d] }
  | _ => none }
def fnRelaysRow : OpenClaim := { program := "ytkdclkbgejbgjac", sum := "6f1376094f69beb7a009d55f1c85e148de526863b3caf978cc94d6929b0726ba", func := "loop.example/g03008/laws.FnRelays", spec := "fnRelays", apart := false }
def FnRelaysSaid : Prop := fnRelaysRow.holds Try.pinned (OpenSpec.ofChange fnRelaysSpec)

/-- ITS FALSE NEIGHBOUR: 'it returns false'. Refute it at one input. -/
def fnRelaysWrong : ChangeSpec := { name := "fnRelays", fn := fun _ => fun
  | [d] => { results := [.lit (.bool false)], args := [d] }
  | _ => none }
def FnRelaysWrongFalsely : Prop := fnRelaysRow.holds Try.pinned (OpenSpec.ofChange fnRelaysWrong)

/-- 'laws.FnTides': WHATEVER THE INPUT: true; the input reads as it did. -/
def fnTidesSpec : ChangeSpec := { name := "fnTides", fn := fun _ => fun
  | [d] => { results := [.lit (.bool true)], args := [d] }
  | _ => none }
def fnTidesRow : OpenClaim := { program := "ytkdclkbgejbgjac", sum := "6f1376094f69beb7a009d55f1c85e148de526863b3caf978cc94d6929b0726ba", func := "loop.example/g03008/laws.FnTides", spec := "fnTides", apart := false }
def FnTidesSaid : Prop := fnTidesRow.holds Try.pinned (OpenSpec.ofChange fnTidesSpec)

/-- ITS FALSE NEIGHBOUR: 'it returns false'. Refute it at one input. -/
def fnTidesWrong : ChangeSpec := { name := "fnTides", fn := fun _ => fun
  | [d] => { results := [.lit (.bool false)], args := [d] }
  | _ => none }
def FnTidesWrongFalsely : Prop := fnTidesRow.holds Try.pinned (OpenSpec.ofChange fnTidesWrong)

/- THE SECOND FORM. 'bulk': how many values and letters a reading holds, each counted each time it is reached (what is shared counts as often as it is met; a slice's spare places count too). A statement '..UptoSaid' is the law's where the arguments, and the package variables that the reading takes, are together of bulk at most 1048576: NARROWER than '..Said'. Prove '..Said' where nothing that the law and all that it calls make is longer than what came in: it says more and counts as full. Else prove '..UptoSaid'. A law counts once. -/
mutual
def uptoBulk {H : Type} : DataW H → Nat
  | .lit (.string bytes) => bytes.length + 1
  | .lit _ => 1
  | .nil => 1
  | .ptr d => uptoBulk d + 1
  | .slice elems spare => uptoBulkAll elems + uptoBulkAll spare + 1
  | .agg parts => uptoBulkAll parts + 1
  | .iface _ d => uptoBulk d + 1
  | .map entries => uptoBulkEntries entries + 1
  | .held _ => 1
def uptoBulkAll {H : Type} : List (DataW H) → Nat
  | [] => 0
  | d :: r => uptoBulk d + uptoBulkAll r
def uptoBulkEntries {H : Type} : List (Lit × DataW H) → Nat
  | [] => 0
  | x :: r => uptoBulkEntry x + uptoBulkEntries r
def uptoBulkEntry {H : Type} : Lit × DataW H → Nat
  | (.string bytes, d) => bytes.length + uptoBulk d + 1
  | (_, d) => uptoBulk d + 1
 end
def uptoSmall : (H : Type) → List (DataW H) → Bool := fun _ ds => decide (uptoBulkAll ds ≤ 1048576)
def OpenSpec.upto (s : _root_.Go.ChangeSpec) : _root_.Go.OpenSpec := { _root_.Go.OpenSpec.ofChange s with cond := some uptoSmall }

/-- 'laws.FnExactStillIn', WHERE WHAT IT READS IS OF BULK AT MOST 1048576: true; the input reads as it did. -/
def fnExactStillInUptoRow : OpenClaim := { program := "ytkdclkbgejbgjac", sum := "6f1376094f69beb7a009d55f1c85e148de526863b3caf978cc94d6929b0726ba", func := "loop.example/g03008/laws.FnExactStillIn", spec := "fnExactStillIn", apart := false, narrowed := true }
def FnExactStillInUptoSaid : Prop := fnExactStillInUptoRow.holds Try.pinned (OpenSpec.upto fnExactStillInSpec)

/-- 'laws.FnExactNextCrossing', WHERE WHAT IT READS IS OF BULK AT MOST 1048576: true; the input reads as it did. -/
def fnExactNextCrossingUptoRow : OpenClaim := { program := "ytkdclkbgejbgjac", sum := "6f1376094f69beb7a009d55f1c85e148de526863b3caf978cc94d6929b0726ba", func := "loop.example/g03008/laws.FnExactNextCrossing", spec := "fnExactNextCrossing", apart := false, narrowed := true }
def FnExactNextCrossingUptoSaid : Prop := fnExactNextCrossingUptoRow.holds Try.pinned (OpenSpec.upto fnExactNextCrossingSpec)

/-- 'laws.FnRadio', WHERE WHAT IT READS IS OF BULK AT MOST 1048576: true; the input reads as it did. -/
def fnRadioUptoRow : OpenClaim := { program := "ytkdclkbgejbgjac", sum := "6f1376094f69beb7a009d55f1c85e148de526863b3caf978cc94d6929b0726ba", func := "loop.example/g03008/laws.FnRadio", spec := "fnRadio", apart := false, narrowed := true }
def FnRadioUptoSaid : Prop := fnRadioUptoRow.holds Try.pinned (OpenSpec.upto fnRadioSpec)

/-- 'laws.FnExactCapOf', WHERE WHAT IT READS IS OF BULK AT MOST 1048576: true; the input reads as it did. -/
def fnExactCapOfUptoRow : OpenClaim := { program := "ytkdclkbgejbgjac", sum := "6f1376094f69beb7a009d55f1c85e148de526863b3caf978cc94d6929b0726ba", func := "loop.example/g03008/laws.FnExactCapOf", spec := "fnExactCapOf", apart := false, narrowed := true }
def FnExactCapOfUptoSaid : Prop := fnExactCapOfUptoRow.holds Try.pinned (OpenSpec.upto fnExactCapOfSpec)

/-- 'laws.FnRelays', WHERE WHAT IT READS IS OF BULK AT MOST 1048576: true; the input reads as it did. -/
def fnRelaysUptoRow : OpenClaim := { program := "ytkdclkbgejbgjac", sum := "6f1376094f69beb7a009d55f1c85e148de526863b3caf978cc94d6929b0726ba", func := "loop.example/g03008/laws.FnRelays", spec := "fnRelays", apart := false, narrowed := true }
def FnRelaysUptoSaid : Prop := fnRelaysUptoRow.holds Try.pinned (OpenSpec.upto fnRelaysSpec)

/-- 'laws.FnTides', WHERE WHAT IT READS IS OF BULK AT MOST 1048576: true; the input reads as it did. -/
def fnTidesUptoRow : OpenClaim := { program := "ytkdclkbgejbgjac", sum := "6f1376094f69beb7a009d55f1c85e148de526863b3caf978cc94d6929b0726ba", func := "loop.example/g03008/laws.FnTides", spec := "fnTides", apart := false, narrowed := true }
def FnTidesUptoSaid : Prop := fnTidesUptoRow.holds Try.pinned (OpenSpec.upto fnTidesSpec)

end Rows
end Go.Proofs.Ytkdclkbgejbgjac
