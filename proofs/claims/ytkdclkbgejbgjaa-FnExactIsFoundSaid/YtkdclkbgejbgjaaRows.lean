/-
  No cell of these rows narrows 'for every input' (looked for: loops, veiled, ifaces, maps, wideKeys, modest, calm, conditions, laid).
  DERIVED. THE GIVEN ROWS OF THIS SEAT. 6 by the template 'for every input the law returns true; each argument reads behind the call as it read before'; 0 by the template 'total and deterministic' (their statements: YtkdclkbgejbgjaaTotals.lean).
  GIVEN WITH THE SEED: the statements are not yours to turn. If you find one false, say at which input.
  Laid BY PROGRAM, IN A SANDBOX (cutbox-rows.mjs): the forced cells as the released guide's own fill.sh prints them over the translation 7968fcc358b80f5c… (all of the seat's roots in one cut). By AI agents, Wed Nov 11 2026. No macro, syntax, notation, axiom, sorry.
-/
import Derived.Test.YtkdclkbgejbgjaaChecked
import GoSem.Claim
import GoSem.ClaimJoined
import GoSem.ClaimMapViews
import Derived.JoinedTies
import Derived.KernelRfl
namespace Go.Proofs.Ytkdclkbgejbgjaa
/- THE CELL 'sum', in the pinned program and in every row, IS THE sha256 OF THE DUMP (.gsa) THAT YtkdclkbgejbgjaaProg.lean LOADS. Nothing in Lean hashes anything: it is a label: what it is worth is what the hold of that sum in a sandbox is worth. -/
noncomputable def Try.pinned : Pinned := { name := "ytkdclkbgejbgjaa", sum := "7968fcc358b80f5c6168e1d6428e50010bcc193cac1fa755e1d46a719e43e107", checked := Try.checked }
namespace Rows
def none {H : Type} : Left H := { results := [], args := [] }

/-- 'laws.FnExactPlacesAfter': WHATEVER THE INPUT: true; the input reads as it did. -/
def fnExactPlacesAfterSpec : ChangeSpec := { name := "fnExactPlacesAfter", fn := fun _ => fun
  | [d1, d2, d3, d4, d5] => { results := [.lit (.bool true)], args := [d1, d2, d3, d4, d5] }
  | _ => none }
def fnExactPlacesAfterRow : OpenClaim := { program := "ytkdclkbgejbgjaa", sum := "7968fcc358b80f5c6168e1d6428e50010bcc193cac1fa755e1d46a719e43e107", func := "loop.example/g03008/laws.FnExactPlacesAfter", spec := "fnExactPlacesAfter", apart := false }
def FnExactPlacesAfterSaid : Prop := fnExactPlacesAfterRow.holds Try.pinned (OpenSpec.ofChange fnExactPlacesAfterSpec)

/-- ITS FALSE NEIGHBOUR: 'it returns false'. Refute it at one input. -/
def fnExactPlacesAfterWrong : ChangeSpec := { name := "fnExactPlacesAfter", fn := fun _ => fun
  | [d1, d2, d3, d4, d5] => { results := [.lit (.bool false)], args := [d1, d2, d3, d4, d5] }
  | _ => none }
def FnExactPlacesAfterWrongFalsely : Prop := fnExactPlacesAfterRow.holds Try.pinned (OpenSpec.ofChange fnExactPlacesAfterWrong)

/-- 'laws.FnRopes': WHATEVER THE INPUT: true; the input reads as it did. -/
def fnRopesSpec : ChangeSpec := { name := "fnRopes", fn := fun _ => fun
  | [d] => { results := [.lit (.bool true)], args := [d] }
  | _ => none }
def fnRopesRow : OpenClaim := { program := "ytkdclkbgejbgjaa", sum := "7968fcc358b80f5c6168e1d6428e50010bcc193cac1fa755e1d46a719e43e107", func := "loop.example/g03008/laws.FnRopes", spec := "fnRopes", apart := false }
def FnRopesSaid : Prop := fnRopesRow.holds Try.pinned (OpenSpec.ofChange fnRopesSpec)

/-- ITS FALSE NEIGHBOUR: 'it returns false'. Refute it at one input. -/
def fnRopesWrong : ChangeSpec := { name := "fnRopes", fn := fun _ => fun
  | [d] => { results := [.lit (.bool false)], args := [d] }
  | _ => none }
def FnRopesWrongFalsely : Prop := fnRopesRow.holds Try.pinned (OpenSpec.ofChange fnRopesWrong)

/-- 'laws.FnExactIsFound': WHATEVER THE INPUT: true; the input reads as it did. -/
def fnExactIsFoundSpec : ChangeSpec := { name := "fnExactIsFound", fn := fun _ => fun
  | [d1, d2, d3] => { results := [.lit (.bool true)], args := [d1, d2, d3] }
  | _ => none }
def fnExactIsFoundRow : OpenClaim := { program := "ytkdclkbgejbgjaa", sum := "7968fcc358b80f5c6168e1d6428e50010bcc193cac1fa755e1d46a719e43e107", func := "loop.example/g03008/laws.FnExactIsFound", spec := "fnExactIsFound", apart := false }
def FnExactIsFoundSaid : Prop := fnExactIsFoundRow.holds Try.pinned (OpenSpec.ofChange fnExactIsFoundSpec)

/-- ITS FALSE NEIGHBOUR: 'it returns false'. Refute it at one input. -/
def fnExactIsFoundWrong : ChangeSpec := { name := "fnExactIsFound", fn := fun _ => fun
  | [d1, d2, d3] => { results := [.lit (.bool false)], args := [d1, d2, d3] }
  | _ => none }
def FnExactIsFoundWrongFalsely : Prop := fnExactIsFoundRow.holds Try.pinned (OpenSpec.ofChange fnExactIsFoundWrong)

/-- 'laws.FnExactMiss': WHATEVER THE INPUT: true; the input reads as it did. -/
def fnExactMissSpec : ChangeSpec := { name := "fnExactMiss", fn := fun _ => fun
  | [d1, d2] => { results := [.lit (.bool true)], args := [d1, d2] }
  | _ => none }
def fnExactMissRow : OpenClaim := { program := "ytkdclkbgejbgjaa", sum := "7968fcc358b80f5c6168e1d6428e50010bcc193cac1fa755e1d46a719e43e107", func := "loop.example/g03008/laws.FnExactMiss", spec := "fnExactMiss", apart := false }
def FnExactMissSaid : Prop := fnExactMissRow.holds Try.pinned (OpenSpec.ofChange fnExactMissSpec)

/-- ITS FALSE NEIGHBOUR: 'it returns false'. Refute it at one input. -/
def fnExactMissWrong : ChangeSpec := { name := "fnExactMiss", fn := fun _ => fun
  | [d1, d2] => { results := [.lit (.bool false)], args := [d1, d2] }
  | _ => none }
def FnExactMissWrongFalsely : Prop := fnExactMissRow.holds Try.pinned (OpenSpec.ofChange fnExactMissWrong)

/-- 'laws.FnExactNextDry': WHATEVER THE INPUT: true; the input reads as it did. -/
def fnExactNextDrySpec : ChangeSpec := { name := "fnExactNextDry", fn := fun _ => fun
  | [d1, d2] => { results := [.lit (.bool true)], args := [d1, d2] }
  | _ => none }
def fnExactNextDryRow : OpenClaim := { program := "ytkdclkbgejbgjaa", sum := "7968fcc358b80f5c6168e1d6428e50010bcc193cac1fa755e1d46a719e43e107", func := "loop.example/g03008/laws.FnExactNextDry", spec := "fnExactNextDry", apart := false }
def FnExactNextDrySaid : Prop := fnExactNextDryRow.holds Try.pinned (OpenSpec.ofChange fnExactNextDrySpec)

/-- ITS FALSE NEIGHBOUR: 'it returns false'. Refute it at one input. -/
def fnExactNextDryWrong : ChangeSpec := { name := "fnExactNextDry", fn := fun _ => fun
  | [d1, d2] => { results := [.lit (.bool false)], args := [d1, d2] }
  | _ => none }
def FnExactNextDryWrongFalsely : Prop := fnExactNextDryRow.holds Try.pinned (OpenSpec.ofChange fnExactNextDryWrong)

/-- 'laws.FnExactTripsFor': WHATEVER THE INPUT: true; the input reads as it did. -/
def fnExactTripsForSpec : ChangeSpec := { name := "fnExactTripsFor", fn := fun _ => fun
  | [d1, d2, d3, d4] => { results := [.lit (.bool true)], args := [d1, d2, d3, d4] }
  | _ => none }
def fnExactTripsForRow : OpenClaim := { program := "ytkdclkbgejbgjaa", sum := "7968fcc358b80f5c6168e1d6428e50010bcc193cac1fa755e1d46a719e43e107", func := "loop.example/g03008/laws.FnExactTripsFor", spec := "fnExactTripsFor", apart := false }
def FnExactTripsForSaid : Prop := fnExactTripsForRow.holds Try.pinned (OpenSpec.ofChange fnExactTripsForSpec)

/-- ITS FALSE NEIGHBOUR: 'it returns false'. Refute it at one input. -/
def fnExactTripsForWrong : ChangeSpec := { name := "fnExactTripsFor", fn := fun _ => fun
  | [d1, d2, d3, d4] => { results := [.lit (.bool false)], args := [d1, d2, d3, d4] }
  | _ => none }
def FnExactTripsForWrongFalsely : Prop := fnExactTripsForRow.holds Try.pinned (OpenSpec.ofChange fnExactTripsForWrong)

/- THE SECOND FORM. 'bulk': how many values and letters a reading holds, each counted each time it is reached (what is shared counts as often as it is met; a slice's spare places count too). A statement '..UptoSaid' is the law's where the arguments, and the package variables that the reading takes, are together of bulk at most 1048576: NARROWER than '..Said'. Prove '..Said' where nothing that the law and all that it calls make is longer than what came in: it says more and counts as full. Else prove '..UptoSaid'. A law counts once. -/
mutual
def uptoBulk {H : Type} : DataW H → Nat
  | .lit (.string bytes) => bytes.length + 1
  | .lit _ => 1
  | .nil => 1
  | .ptr d => uptoBulk d + 1
  | .slice elems spare => uptoBulkAll elems + uptoBulkAll spare + 1
  | .agg parts => uptoBulkAll parts + 1
  | .iface _ d => uptoBulk d + 1
  | .map entries => uptoBulkEntries entries + 1
  | .held _ => 1
def uptoBulkAll {H : Type} : List (DataW H) → Nat
  | [] => 0
  | d :: r => uptoBulk d + uptoBulkAll r
def uptoBulkEntries {H : Type} : List (Lit × DataW H) → Nat
  | [] => 0
  | x :: r => uptoBulkEntry x + uptoBulkEntries r
def uptoBulkEntry {H : Type} : Lit × DataW H → Nat
  | (.string bytes, d) => bytes.length + uptoBulk d + 1
  | (_, d) => uptoBulk d + 1
 end
def uptoSmall : (H : Type) → List (DataW H) → Bool := fun _ ds => decide (uptoBulkAll ds ≤ 1048576)
def OpenSpec.upto (s : _root_.Go.ChangeSpec) : _root_.Go.OpenSpec := { _root_.Go.OpenSpec.ofChange s with cond := some uptoSmall }

/-- 'laws.FnExactPlacesAfter', WHERE WHAT IT READS IS OF BULK AT MOST 1048576: true; the input reads as it did. -/
def fnExactPlacesAfterUptoRow : OpenClaim := { program := "ytkdclkbgejbgjaa", sum := "7968fcc358b80f5c6168e1d6428e50010bcc193cac1fa755e1d46a719e43e107", func := "loop.example/g03008/laws.FnExactPlacesAfter", spec := "fnExactPlacesAfter", apart := false, narrowed := true }
def FnExactPlacesAfterUptoSaid : Prop := fnExactPlacesAfterUptoRow.holds Try.pinned (OpenSpec.upto fnExactPlacesAfterSpec)

/-- 'laws.FnRopes', WHERE WHAT IT READS IS OF BULK AT MOST 1048576: true; the input reads as it did. -/
def fnRopesUptoRow : OpenClaim := { program := "ytkdclkbgejbgjaa", sum := "7968fcc358b80f5c6168e1d6428e50010bcc193cac1fa755e1d46a719e43e107", func := "loop.example/g03008/laws.FnRopes", spec := "fnRopes", apart := false, narrowed := true }
def FnRopesUptoSaid : Prop := fnRopesUptoRow.holds Try.pinned (OpenSpec.upto fnRopesSpec)

/-- 'laws.FnExactIsFound', WHERE WHAT IT READS IS OF BULK AT MOST 1048576: true; the input reads as it did. -/
def fnExactIsFoundUptoRow : OpenClaim := { program := "ytkdclkbgejbgjaa", sum := "7968fcc358b80f5c6168e1d6428e50010bcc193cac1fa755e1d46a719e43e107", func := "loop.example/g03008/laws.FnExactIsFound", spec := "fnExactIsFound", apart := false, narrowed := true }
def FnExactIsFoundUptoSaid : Prop := fnExactIsFoundUptoRow.holds Try.pinned (OpenSpec.upto fnExactIsFoundSpec)

/-- 'laws.FnExactMiss', WHERE WHAT IT READS IS OF BULK AT MOST 1048576: true; the input reads as it did. -/
def fnExactMissUptoRow : OpenClaim := { program := "ytkdclkbgejbgjaa", sum := "7968fcc358b80f5c6168e1d6428e50010bcc193cac1fa755e1d46a719e43e107", func := "loop.example/g03008/laws.FnExactMiss", spec := "fnExactMiss", apart := false, narrowed := true }
def FnExactMissUptoSaid : Prop := fnExactMissUptoRow.holds Try.pinned (OpenSpec.upto fnExactMissSpec)

/-- 'laws.FnExactNextDry', WHERE WHAT IT READS IS OF BULK AT MOST 1048576: true; the input reads as it did. -/
def fnExactNextDryUptoRow : OpenClaim := { program := "ytkdclkbgejbgjaa", sum := "7968fcc358b80f5c6168e1d6428e50010bcc193cac1fa755e1d46a719e43e107", func := "loop.example/g03008/laws.FnExactNextDry", spec := "fnExactNextDry", apart := false, narrowed := true }
def FnExactNextDryUptoSaid : Prop := fnExactNextDryUptoRow.holds Try.pinned (OpenSpec.upto fnExactNextDrySpec)

/-- 'laws.FnExactTripsFor', WHERE WHAT IT READS IS OF BULK AT MOST 1048576: true; the input reads as it did. -/
def fnExactTripsForUptoRow : OpenClaim := { program := "ytkdclkbgejbgjaa", sum := "7968fcc358b80f5c6168e1d6428e50010bcc193cac1fa755e1d46a719e43e107", func := "loop.example/g03008/laws.FnExactTripsFor", spec := "fnExactTripsFor", apart := false, narrowed := true }
def FnExactTripsForUptoSaid : Prop := fnExactTripsForUptoRow.holds Try.pinned (OpenSpec.upto fnExactTripsForSpec)

end Rows
end Go.Proofs.Ytkdclkbgejbgjaa
