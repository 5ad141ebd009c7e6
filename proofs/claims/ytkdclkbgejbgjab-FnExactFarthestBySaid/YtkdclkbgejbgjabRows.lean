/-
  No cell of these rows narrows 'for every input' (looked for: loops, veiled, ifaces, maps, wideKeys, modest, calm, conditions, laid).
  DERIVED. THE GIVEN ROWS OF THIS SEAT. 6 by the template 'for every input the law returns true; each argument reads behind the call as it read before'; 0 by the template 'total and deterministic' (their statements: YtkdclkbgejbgjabTotals.lean).
  GIVEN WITH THE SEED: the statements are not yours to turn. If you find one false, say at which input.
  Laid BY PROGRAM, IN A SANDBOX (cutbox-rows.mjs): the forced cells as the released guide's own fill.sh prints them over the translation c76338a15b8c72b7… (all of the seat's roots in one cut). By AI agents, Wed Nov 11 2026. No macro, syntax, notation, axiom, sorry.
-/
import Derived.Test.YtkdclkbgejbgjabChecked
import GoSem.Claim
import GoSem.ClaimJoined
import GoSem.ClaimMapViews
import Derived.JoinedTies
import Derived.KernelRfl
namespace Go.Proofs.Ytkdclkbgejbgjab
/- THE CELL 'sum', in the pinned program and in every row, IS THE sha256 OF THE DUMP (.gsa) THAT YtkdclkbgejbgjabProg.lean LOADS. Nothing in Lean hashes anything: it is a label: what it is worth is what the hold of that sum in a sandbox is worth. -/
noncomputable def Try.pinned : Pinned := { name := "ytkdclkbgejbgjab", sum := "c76338a15b8c72b706ca9331208f1f51ca90441c1145d8a092970fa9ca86e723", checked := Try.checked }
namespace Rows
def none {H : Type} : Left H := { results := [], args := [] }

/-- 'laws.FnExactCanCross': WHATEVER THE INPUT: true; the input reads as it did. -/
def fnExactCanCrossSpec : ChangeSpec := { name := "fnExactCanCross", fn := fun _ => fun
  | [d1, d2, d3] => { results := [.lit (.bool true)], args := [d1, d2, d3] }
  | _ => none }
def fnExactCanCrossRow : OpenClaim := { program := "ytkdclkbgejbgjab", sum := "c76338a15b8c72b706ca9331208f1f51ca90441c1145d8a092970fa9ca86e723", func := "loop.example/g03008/laws.FnExactCanCross", spec := "fnExactCanCross", apart := false }
def FnExactCanCrossSaid : Prop := fnExactCanCrossRow.holds Try.pinned (OpenSpec.ofChange fnExactCanCrossSpec)

/-- ITS FALSE NEIGHBOUR: 'it returns false'. Refute it at one input. -/
def fnExactCanCrossWrong : ChangeSpec := { name := "fnExactCanCross", fn := fun _ => fun
  | [d1, d2, d3] => { results := [.lit (.bool false)], args := [d1, d2, d3] }
  | _ => none }
def FnExactCanCrossWrongFalsely : Prop := fnExactCanCrossRow.holds Try.pinned (OpenSpec.ofChange fnExactCanCrossWrong)

/-- 'laws.FnExactFoodAt': WHATEVER THE INPUT: true; the input reads as it did. -/
def fnExactFoodAtSpec : ChangeSpec := { name := "fnExactFoodAt", fn := fun _ => fun
  | [d1, d2] => { results := [.lit (.bool true)], args := [d1, d2] }
  | _ => none }
def fnExactFoodAtRow : OpenClaim := { program := "ytkdclkbgejbgjab", sum := "c76338a15b8c72b706ca9331208f1f51ca90441c1145d8a092970fa9ca86e723", func := "loop.example/g03008/laws.FnExactFoodAt", spec := "fnExactFoodAt", apart := false }
def FnExactFoodAtSaid : Prop := fnExactFoodAtRow.holds Try.pinned (OpenSpec.ofChange fnExactFoodAtSpec)

/-- ITS FALSE NEIGHBOUR: 'it returns false'. Refute it at one input. -/
def fnExactFoodAtWrong : ChangeSpec := { name := "fnExactFoodAt", fn := fun _ => fun
  | [d1, d2] => { results := [.lit (.bool false)], args := [d1, d2] }
  | _ => none }
def FnExactFoodAtWrongFalsely : Prop := fnExactFoodAtRow.holds Try.pinned (OpenSpec.ofChange fnExactFoodAtWrong)

/-- 'laws.FnExactNeedHome': WHATEVER THE INPUT: true; the input reads as it did. -/
def fnExactNeedHomeSpec : ChangeSpec := { name := "fnExactNeedHome", fn := fun _ => fun
  | [d1, d2, d3, d4] => { results := [.lit (.bool true)], args := [d1, d2, d3, d4] }
  | _ => none }
def fnExactNeedHomeRow : OpenClaim := { program := "ytkdclkbgejbgjab", sum := "c76338a15b8c72b706ca9331208f1f51ca90441c1145d8a092970fa9ca86e723", func := "loop.example/g03008/laws.FnExactNeedHome", spec := "fnExactNeedHome", apart := false }
def FnExactNeedHomeSaid : Prop := fnExactNeedHomeRow.holds Try.pinned (OpenSpec.ofChange fnExactNeedHomeSpec)

/-- ITS FALSE NEIGHBOUR: 'it returns false'. Refute it at one input. -/
def fnExactNeedHomeWrong : ChangeSpec := { name := "fnExactNeedHome", fn := fun _ => fun
  | [d1, d2, d3, d4] => { results := [.lit (.bool false)], args := [d1, d2, d3, d4] }
  | _ => none }
def FnExactNeedHomeWrongFalsely : Prop := fnExactNeedHomeRow.holds Try.pinned (OpenSpec.ofChange fnExactNeedHomeWrong)

/-- 'laws.FnExactFarthestBy': WHATEVER THE INPUT: true; the input reads as it did. -/
def fnExactFarthestBySpec : ChangeSpec := { name := "fnExactFarthestBy", fn := fun _ => fun
  | [d1, d2, d3] => { results := [.lit (.bool true)], args := [d1, d2, d3] }
  | _ => none }
def fnExactFarthestByRow : OpenClaim := { program := "ytkdclkbgejbgjab", sum := "c76338a15b8c72b706ca9331208f1f51ca90441c1145d8a092970fa9ca86e723", func := "loop.example/g03008/laws.FnExactFarthestBy", spec := "fnExactFarthestBy", apart := false }
def FnExactFarthestBySaid : Prop := fnExactFarthestByRow.holds Try.pinned (OpenSpec.ofChange fnExactFarthestBySpec)

/-- ITS FALSE NEIGHBOUR: 'it returns false'. Refute it at one input. -/
def fnExactFarthestByWrong : ChangeSpec := { name := "fnExactFarthestBy", fn := fun _ => fun
  | [d1, d2, d3] => { results := [.lit (.bool false)], args := [d1, d2, d3] }
  | _ => none }
def FnExactFarthestByWrongFalsely : Prop := fnExactFarthestByRow.holds Try.pinned (OpenSpec.ofChange fnExactFarthestByWrong)

/-- 'laws.FnExactTotalFood': WHATEVER THE INPUT: true; the input reads as it did. -/
def fnExactTotalFoodSpec : ChangeSpec := { name := "fnExactTotalFood", fn := fun _ => fun
  | [d] => { results := [.lit (.bool true)], args := [d] }
  | _ => none }
def fnExactTotalFoodRow : OpenClaim := { program := "ytkdclkbgejbgjab", sum := "c76338a15b8c72b706ca9331208f1f51ca90441c1145d8a092970fa9ca86e723", func := "loop.example/g03008/laws.FnExactTotalFood", spec := "fnExactTotalFood", apart := false }
def FnExactTotalFoodSaid : Prop := fnExactTotalFoodRow.holds Try.pinned (OpenSpec.ofChange fnExactTotalFoodSpec)

/-- ITS FALSE NEIGHBOUR: 'it returns false'. Refute it at one input. -/
def fnExactTotalFoodWrong : ChangeSpec := { name := "fnExactTotalFood", fn := fun _ => fun
  | [d] => { results := [.lit (.bool false)], args := [d] }
  | _ => none }
def FnExactTotalFoodWrongFalsely : Prop := fnExactTotalFoodRow.holds Try.pinned (OpenSpec.ofChange fnExactTotalFoodWrong)

/-- 'laws.FnExactCross': WHATEVER THE INPUT: true; the input reads as it did. -/
def fnExactCrossSpec : ChangeSpec := { name := "fnExactCross", fn := fun _ => fun
  | [d1, d2] => { results := [.lit (.bool true)], args := [d1, d2] }
  | _ => none }
def fnExactCrossRow : OpenClaim := { program := "ytkdclkbgejbgjab", sum := "c76338a15b8c72b706ca9331208f1f51ca90441c1145d8a092970fa9ca86e723", func := "loop.example/g03008/laws.FnExactCross", spec := "fnExactCross", apart := false }
def FnExactCrossSaid : Prop := fnExactCrossRow.holds Try.pinned (OpenSpec.ofChange fnExactCrossSpec)

/-- ITS FALSE NEIGHBOUR: 'it returns false'. Refute it at one input. -/
def fnExactCrossWrong : ChangeSpec := { name := "fnExactCross", fn := fun _ => fun
  | [d1, d2] => { results := [.lit (.bool false)], args := [d1, d2] }
  | _ => none }
def FnExactCrossWrongFalsely : Prop := fnExactCrossRow.holds Try.pinned (OpenSpec.ofChange fnExactCrossWrong)

/- THE SECOND FORM. 'bulk': how many values and letters a reading holds, each counted each time it is reached (what is shared counts as often as it is met; a slice's spare places count too). A statement '..UptoSaid' is the law's where the arguments, and the package variables that the reading takes, are together of bulk at most 1048576: NARROWER than '..Said'. Prove '..Said' where nothing that the law and all that it calls make is longer than what came in: it says more and counts as full. Else prove '..UptoSaid'. A law counts once. -/
mutual
def uptoBulk {H : Type} : DataW H → Nat
  | .lit (.string bytes) => bytes.length + 1
  | .lit _ => 1
  | .nil => 1
  | .ptr d => uptoBulk d + 1
  | .slice elems spare => uptoBulkAll elems + uptoBulkAll spare + 1
  | .agg parts => uptoBulkAll parts + 1
  | .iface _ d => uptoBulk d + 1
  | .map entries => uptoBulkEntries entries + 1
  | .held _ => 1
def uptoBulkAll {H : Type} : List (DataW H) → Nat
  | [] => 0
  | d :: r => uptoBulk d + uptoBulkAll r
def uptoBulkEntries {H : Type} : List (Lit × DataW H) → Nat
  | [] => 0
  | x :: r => uptoBulkEntry x + uptoBulkEntries r
def uptoBulkEntry {H : Type} : Lit × DataW H → Nat
  | (.string bytes, d) => bytes.length + uptoBulk d + 1
  | (_, d) => uptoBulk d + 1
 end
def uptoSmall : (H : Type) → List (DataW H) → Bool := fun _ ds => decide (uptoBulkAll ds ≤ 1048576)
def OpenSpec.upto (s : _root_.Go.ChangeSpec) : _root_.Go.OpenSpec := { _root_.Go.OpenSpec.ofChange s with cond := some uptoSmall }

/-- 'laws.FnExactCanCross', WHERE WHAT IT READS IS OF BULK AT MOST 1048576: true; the input reads as it did. -/
def fnExactCanCrossUptoRow : OpenClaim := { program := "ytkdclkbgejbgjab", sum := "c76338a15b8c72b706ca9331208f1f51ca90441c1145d8a092970fa9ca86e723", func := "loop.example/g03008/laws.FnExactCanCross", spec := "fnExactCanCross", apart := false, narrowed := true }
def FnExactCanCrossUptoSaid : Prop := fnExactCanCrossUptoRow.holds Try.pinned (OpenSpec.upto fnExactCanCrossSpec)

/-- 'laws.FnExactFoodAt', WHERE WHAT IT READS IS OF BULK AT MOST 1048576: true; the input reads as it did. -/
def fnExactFoodAtUptoRow : OpenClaim := { program := "ytkdclkbgejbgjab", sum := "c76338a15b8c72b706ca9331208f1f51ca90441c1145d8a092970fa9ca86e723", func := "loop.example/g03008/laws.FnExactFoodAt", spec := "fnExactFoodAt", apart := false, narrowed := true }
def FnExactFoodAtUptoSaid : Prop := fnExactFoodAtUptoRow.holds Try.pinned (OpenSpec.upto fnExactFoodAtSpec)

/-- 'laws.FnExactNeedHome', WHERE WHAT IT READS IS OF BULK AT MOST 1048576: true; the input reads as it did. -/
def fnExactNeedHomeUptoRow : OpenClaim := { program := "ytkdclkbgejbgjab", sum := "c76338a15b8c72b706ca9331208f1f51ca90441c1145d8a092970fa9ca86e723", func := "loop.example/g03008/laws.FnExactNeedHome", spec := "fnExactNeedHome", apart := false, narrowed := true }
def FnExactNeedHomeUptoSaid : Prop := fnExactNeedHomeUptoRow.holds Try.pinned (OpenSpec.upto fnExactNeedHomeSpec)

/-- 'laws.FnExactFarthestBy', WHERE WHAT IT READS IS OF BULK AT MOST 1048576: true; the input reads as it did. -/
def fnExactFarthestByUptoRow : OpenClaim := { program := "ytkdclkbgejbgjab", sum := "c76338a15b8c72b706ca9331208f1f51ca90441c1145d8a092970fa9ca86e723", func := "loop.example/g03008/laws.FnExactFarthestBy", spec := "fnExactFarthestBy", apart := false, narrowed := true }
def FnExactFarthestByUptoSaid : Prop := fnExactFarthestByUptoRow.holds Try.pinned (OpenSpec.upto fnExactFarthestBySpec)

/-- 'laws.FnExactTotalFood', WHERE WHAT IT READS IS OF BULK AT MOST 1048576: true; the input reads as it did. -/
def fnExactTotalFoodUptoRow : OpenClaim := { program := "ytkdclkbgejbgjab", sum := "c76338a15b8c72b706ca9331208f1f51ca90441c1145d8a092970fa9ca86e723", func := "loop.example/g03008/laws.FnExactTotalFood", spec := "fnExactTotalFood", apart := false, narrowed := true }
def FnExactTotalFoodUptoSaid : Prop := fnExactTotalFoodUptoRow.holds Try.pinned (OpenSpec.upto fnExactTotalFoodSpec)

/-- 'laws.FnExactCross', WHERE WHAT IT READS IS OF BULK AT MOST 1048576: true; the input reads as it did. -/
def fnExactCrossUptoRow : OpenClaim := { program := "ytkdclkbgejbgjab", sum := "c76338a15b8c72b706ca9331208f1f51ca90441c1145d8a092970fa9ca86e723", func := "loop.example/g03008/laws.FnExactCross", spec := "fnExactCross", apart := false, narrowed := true }
def FnExactCrossUptoSaid : Prop := fnExactCrossUptoRow.holds Try.pinned (OpenSpec.upto fnExactCrossSpec)

end Rows
end Go.Proofs.Ytkdclkbgejbgjab
