/-
  No cell of these rows narrows 'for every input' (looked for: loops, veiled, ifaces, maps, wideKeys, modest, calm, conditions, laid).
  DERIVED. THE GIVEN ROWS OF THIS SEAT. 6 by the template 'for every input the law returns true; each argument reads behind the call as it read before'; 0 by the template 'total and deterministic' (their statements: YtkdclkbgejbgjadTotals.lean).
  GIVEN WITH THE SEED: the statements are not yours to turn. If you find one false, say at which input.
  Laid BY PROGRAM, IN A SANDBOX (cutbox-rows.mjs): the forced cells as the released guide's own fill.sh prints them over the translation 54ea9585b316fec9… (all of the seat's roots in one cut). By AI agents, Wed Nov 11 2026. No macro, syntax, notation, axiom, sorry.
-/
import Derived.Test.YtkdclkbgejbgjadChecked
import GoSem.Claim
import GoSem.ClaimJoined
import GoSem.ClaimMapViews
import Derived.JoinedTies
import Derived.KernelRfl
namespace Go.Proofs.Ytkdclkbgejbgjad
/- THE CELL 'sum', in the pinned program and in every row, IS THE sha256 OF THE DUMP (.gsa) THAT YtkdclkbgejbgjadProg.lean LOADS. Nothing in Lean hashes anything: it is a label: what it is worth is what the hold of that sum in a sandbox is worth. -/
noncomputable def Try.pinned : Pinned := { name := "ytkdclkbgejbgjad", sum := "54ea9585b316fec98e26adf7d81e06641162f025167c736d7aa0b066c4291005", checked := Try.checked }
namespace Rows
def none {H : Type} : Left H := { results := [], args := [] }

/-- 'laws.FnExactHealthy': WHATEVER THE INPUT: true; the input reads as it did. -/
def fnExactHealthySpec : ChangeSpec := { name := "fnExactHealthy", fn := fun _ => fun
  | [d] => { results := [.lit (.bool true)], args := [d] }
  | _ => none }
def fnExactHealthyRow : OpenClaim := { program := "ytkdclkbgejbgjad", sum := "54ea9585b316fec98e26adf7d81e06641162f025167c736d7aa0b066c4291005", func := "loop.example/g03008/laws.FnExactHealthy", spec := "fnExactHealthy", apart := false }
def FnExactHealthySaid : Prop := fnExactHealthyRow.holds Try.pinned (OpenSpec.ofChange fnExactHealthySpec)

/-- ITS FALSE NEIGHBOUR: 'it returns false'. Refute it at one input. -/
def fnExactHealthyWrong : ChangeSpec := { name := "fnExactHealthy", fn := fun _ => fun
  | [d] => { results := [.lit (.bool false)], args := [d] }
  | _ => none }
def FnExactHealthyWrongFalsely : Prop := fnExactHealthyRow.holds Try.pinned (OpenSpec.ofChange fnExactHealthyWrong)

/-- 'laws.FnExactLeaderOf': WHATEVER THE INPUT: true; the input reads as it did. -/
def fnExactLeaderOfSpec : ChangeSpec := { name := "fnExactLeaderOf", fn := fun _ => fun
  | [d1, d2] => { results := [.lit (.bool true)], args := [d1, d2] }
  | _ => none }
def fnExactLeaderOfRow : OpenClaim := { program := "ytkdclkbgejbgjad", sum := "54ea9585b316fec98e26adf7d81e06641162f025167c736d7aa0b066c4291005", func := "loop.example/g03008/laws.FnExactLeaderOf", spec := "fnExactLeaderOf", apart := false }
def FnExactLeaderOfSaid : Prop := fnExactLeaderOfRow.holds Try.pinned (OpenSpec.ofChange fnExactLeaderOfSpec)

/-- ITS FALSE NEIGHBOUR: 'it returns false'. Refute it at one input. -/
def fnExactLeaderOfWrong : ChangeSpec := { name := "fnExactLeaderOf", fn := fun _ => fun
  | [d1, d2] => { results := [.lit (.bool false)], args := [d1, d2] }
  | _ => none }
def FnExactLeaderOfWrongFalsely : Prop := fnExactLeaderOfRow.holds Try.pinned (OpenSpec.ofChange fnExactLeaderOfWrong)

/-- 'laws.FnExactCanRope': WHATEVER THE INPUT: true; the input reads as it did. -/
def fnExactCanRopeSpec : ChangeSpec := { name := "fnExactCanRope", fn := fun _ => fun
  | [d] => { results := [.lit (.bool true)], args := [d] }
  | _ => none }
def fnExactCanRopeRow : OpenClaim := { program := "ytkdclkbgejbgjad", sum := "54ea9585b316fec98e26adf7d81e06641162f025167c736d7aa0b066c4291005", func := "loop.example/g03008/laws.FnExactCanRope", spec := "fnExactCanRope", apart := false }
def FnExactCanRopeSaid : Prop := fnExactCanRopeRow.holds Try.pinned (OpenSpec.ofChange fnExactCanRopeSpec)

/-- ITS FALSE NEIGHBOUR: 'it returns false'. Refute it at one input. -/
def fnExactCanRopeWrong : ChangeSpec := { name := "fnExactCanRope", fn := fun _ => fun
  | [d] => { results := [.lit (.bool false)], args := [d] }
  | _ => none }
def FnExactCanRopeWrongFalsely : Prop := fnExactCanRopeRow.holds Try.pinned (OpenSpec.ofChange fnExactCanRopeWrong)

/-- 'laws.FnExactSetIll': WHATEVER THE INPUT: true; the input reads as it did. -/
def fnExactSetIllSpec : ChangeSpec := { name := "fnExactSetIll", fn := fun _ => fun
  | [d1, d2, d3] => { results := [.lit (.bool true)], args := [d1, d2, d3] }
  | _ => none }
def fnExactSetIllRow : OpenClaim := { program := "ytkdclkbgejbgjad", sum := "54ea9585b316fec98e26adf7d81e06641162f025167c736d7aa0b066c4291005", func := "loop.example/g03008/laws.FnExactSetIll", spec := "fnExactSetIll", apart := false }
def FnExactSetIllSaid : Prop := fnExactSetIllRow.holds Try.pinned (OpenSpec.ofChange fnExactSetIllSpec)

/-- ITS FALSE NEIGHBOUR: 'it returns false'. Refute it at one input. -/
def fnExactSetIllWrong : ChangeSpec := { name := "fnExactSetIll", fn := fun _ => fun
  | [d1, d2, d3] => { results := [.lit (.bool false)], args := [d1, d2, d3] }
  | _ => none }
def FnExactSetIllWrongFalsely : Prop := fnExactSetIllRow.holds Try.pinned (OpenSpec.ofChange fnExactSetIllWrong)

/-- 'laws.FnExactAreDepots': WHATEVER THE INPUT: true; the input reads as it did. -/
def fnExactAreDepotsSpec : ChangeSpec := { name := "fnExactAreDepots", fn := fun _ => fun
  | [d1, d2] => { results := [.lit (.bool true)], args := [d1, d2] }
  | _ => none }
def fnExactAreDepotsRow : OpenClaim := { program := "ytkdclkbgejbgjad", sum := "54ea9585b316fec98e26adf7d81e06641162f025167c736d7aa0b066c4291005", func := "loop.example/g03008/laws.FnExactAreDepots", spec := "fnExactAreDepots", apart := false }
def FnExactAreDepotsSaid : Prop := fnExactAreDepotsRow.holds Try.pinned (OpenSpec.ofChange fnExactAreDepotsSpec)

/-- ITS FALSE NEIGHBOUR: 'it returns false'. Refute it at one input. -/
def fnExactAreDepotsWrong : ChangeSpec := { name := "fnExactAreDepots", fn := fun _ => fun
  | [d1, d2] => { results := [.lit (.bool false)], args := [d1, d2] }
  | _ => none }
def FnExactAreDepotsWrongFalsely : Prop := fnExactAreDepotsRow.holds Try.pinned (OpenSpec.ofChange fnExactAreDepotsWrong)

/-- 'laws.FnExactSeen': WHATEVER THE INPUT: true; the input reads as it did. -/
def fnExactSeenSpec : ChangeSpec := { name := "fnExactSeen", fn := fun _ => fun
  | [d1, d2, d3] => { results := [.lit (.bool true)], args := [d1, d2, d3] }
  | _ => none }
def fnExactSeenRow : OpenClaim := { program := "ytkdclkbgejbgjad", sum := "54ea9585b316fec98e26adf7d81e06641162f025167c736d7aa0b066c4291005", func := "loop.example/g03008/laws.FnExactSeen", spec := "fnExactSeen", apart := false }
def FnExactSeenSaid : Prop := fnExactSeenRow.holds Try.pinned (OpenSpec.ofChange fnExactSeenSpec)

/-- ITS FALSE NEIGHBOUR: 'it returns false'. Refute it at one input. -/
def fnExactSeenWrong : ChangeSpec := { name := "fnExactSeen", fn := fun _ => fun
  | [d1, d2, d3] => { results := [.lit (.bool false)], args := [d1, d2, d3] }
  | _ => none }
def FnExactSeenWrongFalsely : Prop := fnExactSeenRow.holds Try.pinned (OpenSpec.ofChange fnExactSeenWrong)

/- THE SECOND FORM. 'bulk': how many values and letters a reading holds, each counted each time it is reached (what is shared counts as often as it is met; a slice's spare places count too). A statement '..UptoSaid' is the law's where the arguments, and the package variables that the reading takes, are together of bulk at most 1048576: NARROWER than '..Said'. Prove '..Said' where nothing that the law and all that it calls make is longer than what came in: it says more and counts as full. Else prove '..UptoSaid'. A law counts once. -/
mutual
def uptoBulk {H : Type} : DataW H → Nat
  | .lit (.string bytes) => bytes.length + 1
  | .lit _ => 1
  | .nil => 1
  | .ptr d => uptoBulk d + 1
  | .slice elems spare => uptoBulkAll elems + uptoBulkAll spare + 1
  | .agg parts => uptoBulkAll parts + 1
  | .iface _ d => uptoBulk d + 1
  | .map entries => uptoBulkEntries entries + 1
  | .held _ => 1
def uptoBulkAll {H : Type} : List (DataW H) → Nat
  | [] => 0
  | d :: r => uptoBulk d + uptoBulkAll r
def uptoBulkEntries {H : Type} : List (Lit × DataW H) → Nat
  | [] => 0
  | x :: r => uptoBulkEntry x + uptoBulkEntries r
def uptoBulkEntry {H : Type} : Lit × DataW H → Nat
  | (.string bytes, d) => bytes.length + uptoBulk d + 1
  | (_, d) => uptoBulk d + 1
 end
def uptoSmall : (H : Type) → List (DataW H) → Bool := fun _ ds => decide (uptoBulkAll ds ≤ 1048576)
def OpenSpec.upto (s : _root_.Go.ChangeSpec) : _root_.Go.OpenSpec := { _root_.Go.OpenSpec.ofChange s with cond := some uptoSmall }

/-- 'laws.FnExactHealthy', WHERE WHAT IT READS IS OF BULK AT MOST 1048576: true; the input reads as it did. -/
def fnExactHealthyUptoRow : OpenClaim := { program := "ytkdclkbgejbgjad", sum := "54ea9585b316fec98e26adf7d81e06641162f025167c736d7aa0b066c4291005", func := "loop.example/g03008/laws.FnExactHealthy", spec := "fnExactHealthy", apart := false, narrowed := true }
def FnExactHealthyUptoSaid : Prop := fnExactHealthyUptoRow.holds Try.pinned (OpenSpec.upto fnExactHealthySpec)

/-- 'laws.FnExactLeaderOf', WHERE WHAT IT READS IS OF BULK AT MOST 1048576: true; the input reads as it did. -/
def fnExactLeaderOfUptoRow : OpenClaim := { program := "ytkdclkbgejbgjad", sum := "54ea9585b316fec98e26adf7d81e06641162f025167c736d7aa0b066c4291005", func := "loop.example/g03008/laws.FnExactLeaderOf", spec := "fnExactLeaderOf", apart := false, narrowed := true }
def FnExactLeaderOfUptoSaid : Prop := fnExactLeaderOfUptoRow.holds Try.pinned (OpenSpec.upto fnExactLeaderOfSpec)

/-- 'laws.FnExactCanRope', WHERE WHAT IT READS IS OF BULK AT MOST 1048576: true; the input reads as it did. -/
def fnExactCanRopeUptoRow : OpenClaim := { program := "ytkdclkbgejbgjad", sum := "54ea9585b316fec98e26adf7d81e06641162f025167c736d7aa0b066c4291005", func := "loop.example/g03008/laws.FnExactCanRope", spec := "fnExactCanRope", apart := false, narrowed := true }
def FnExactCanRopeUptoSaid : Prop := fnExactCanRopeUptoRow.holds Try.pinned (OpenSpec.upto fnExactCanRopeSpec)

/-- 'laws.FnExactSetIll', WHERE WHAT IT READS IS OF BULK AT MOST 1048576: true; the input reads as it did. -/
def fnExactSetIllUptoRow : OpenClaim := { program := "ytkdclkbgejbgjad", sum := "54ea9585b316fec98e26adf7d81e06641162f025167c736d7aa0b066c4291005", func := "loop.example/g03008/laws.FnExactSetIll", spec := "fnExactSetIll", apart := false, narrowed := true }
def FnExactSetIllUptoSaid : Prop := fnExactSetIllUptoRow.holds Try.pinned (OpenSpec.upto fnExactSetIllSpec)

/-- 'laws.FnExactAreDepots', WHERE WHAT IT READS IS OF BULK AT MOST 1048576: true; the input reads as it did. -/
def fnExactAreDepotsUptoRow : OpenClaim := { program := "ytkdclkbgejbgjad", sum := "54ea9585b316fec98e26adf7d81e06641162f025167c736d7aa0b066c4291005", func := "loop.example/g03008/laws.FnExactAreDepots", spec := "fnExactAreDepots", apart := false, narrowed := true }
def FnExactAreDepotsUptoSaid : Prop := fnExactAreDepotsUptoRow.holds Try.pinned (OpenSpec.upto fnExactAreDepotsSpec)

/-- 'laws.FnExactSeen', WHERE WHAT IT READS IS OF BULK AT MOST 1048576: true; the input reads as it did. -/
def fnExactSeenUptoRow : OpenClaim := { program := "ytkdclkbgejbgjad", sum := "54ea9585b316fec98e26adf7d81e06641162f025167c736d7aa0b066c4291005", func := "loop.example/g03008/laws.FnExactSeen", spec := "fnExactSeen", apart := false, narrowed := true }
def FnExactSeenUptoSaid : Prop := fnExactSeenUptoRow.holds Try.pinned (OpenSpec.upto fnExactSeenSpec)

end Rows
end Go.Proofs.Ytkdclkbgejbgjad
