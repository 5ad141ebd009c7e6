/-
  No cell of these rows narrows 'for every input' (looked for: loops, veiled, ifaces, maps, wideKeys, modest, calm, conditions, laid).
  DERIVED. THE GIVEN ROWS OF THIS SEAT. 6 by the template 'for every input the law returns true; each argument reads behind the call as it read before'; 0 by the template 'total and deterministic' (their statements: YtooneaiebkdbpaaTotals.lean).
  GIVEN WITH THE SEED: the statements are not yours to turn. If you find one false, say at which input.
  Laid BY PROGRAM, IN A SANDBOX (cutbox-rows.mjs): the forced cells as the released guide's own fill.sh prints them over the translation cb04b5f146a6519d… (all of the seat's roots in one cut). By AI agents, Wed Nov 11 2026. No macro, syntax, notation, axiom, sorry.
-/
import Derived.Test.YtooneaiebkdbpaaChecked
import GoSem.Claim
import GoSem.ClaimJoined
import GoSem.ClaimMapViews
import Derived.JoinedTies
import Derived.KernelRfl
namespace Go.Proofs.Ytooneaiebkdbpaa
/- THE CELL 'sum', in the pinned program and in every row, IS THE sha256 OF THE DUMP (.gsa) THAT YtooneaiebkdbpaaProg.lean LOADS. Nothing in Lean hashes anything: it is a label: what it is worth is what the hold of that sum in a sandbox is worth. -/
noncomputable def Try.pinned : Pinned := { name := "ytooneaiebkdbpaa", sum := "cb04b5f146a6519da0a9f67c4bfc30ac7e6715cde82e2502eaa57eb787d04d3c", checked := Try.checked }
namespace Rows
def none {H : Type} : Left H := { results := [], args := [] }

/-- 'laws.FnExactIsRadio': WHATEVER THE INPUT: true; the input reads as it did. -/
def fnExactIsRadioSpec : ChangeSpec := { name := "fnExactIsRadio", fn := fun _ => fun
  | [d] => { results := [.lit (.bool true)], args := [d] }
  | _ => none }
def fnExactIsRadioRow : OpenClaim := { program := "ytooneaiebkdbpaa", sum := "cb04b5f146a6519da0a9f67c4bfc30ac7e6715cde82e2502eaa57eb787d04d3c", func := "loop.example/g03008/laws.FnExactIsRadio", spec := "fnExactIsRadio", apart := false }
def FnExactIsRadioSaid : Prop := fnExactIsRadioRow.holds Try.pinned (OpenSpec.ofChange fnExactIsRadioSpec)

/-- ITS FALSE NEIGHBOUR: 'it returns false'. Refute it at one input. -/
def fnExactIsRadioWrong : ChangeSpec := { name := "fnExactIsRadio", fn := fun _ => fun
  | [d] => { results := [.lit (.bool false)], args := [d] }
  | _ => none }
def FnExactIsRadioWrongFalsely : Prop := fnExactIsRadioRow.holds Try.pinned (OpenSpec.ofChange fnExactIsRadioWrong)

/-- 'laws.FnExactIsTide': WHATEVER THE INPUT: true; the input reads as it did. -/
def fnExactIsTideSpec : ChangeSpec := { name := "fnExactIsTide", fn := fun _ => fun
  | [d] => { results := [.lit (.bool true)], args := [d] }
  | _ => none }
def fnExactIsTideRow : OpenClaim := { program := "ytooneaiebkdbpaa", sum := "cb04b5f146a6519da0a9f67c4bfc30ac7e6715cde82e2502eaa57eb787d04d3c", func := "loop.example/g03008/laws.FnExactIsTide", spec := "fnExactIsTide", apart := false }
def FnExactIsTideSaid : Prop := fnExactIsTideRow.holds Try.pinned (OpenSpec.ofChange fnExactIsTideSpec)

/-- ITS FALSE NEIGHBOUR: 'it returns false'. Refute it at one input. -/
def fnExactIsTideWrong : ChangeSpec := { name := "fnExactIsTide", fn := fun _ => fun
  | [d] => { results := [.lit (.bool false)], args := [d] }
  | _ => none }
def FnExactIsTideWrongFalsely : Prop := fnExactIsTideRow.holds Try.pinned (OpenSpec.ofChange fnExactIsTideWrong)

/-- 'laws.FnExactIsAlarm': WHATEVER THE INPUT: true; the input reads as it did. -/
def fnExactIsAlarmSpec : ChangeSpec := { name := "fnExactIsAlarm", fn := fun _ => fun
  | [d] => { results := [.lit (.bool true)], args := [d] }
  | _ => none }
def fnExactIsAlarmRow : OpenClaim := { program := "ytooneaiebkdbpaa", sum := "cb04b5f146a6519da0a9f67c4bfc30ac7e6715cde82e2502eaa57eb787d04d3c", func := "loop.example/g03008/laws.FnExactIsAlarm", spec := "fnExactIsAlarm", apart := false }
def FnExactIsAlarmSaid : Prop := fnExactIsAlarmRow.holds Try.pinned (OpenSpec.ofChange fnExactIsAlarmSpec)

/-- ITS FALSE NEIGHBOUR: 'it returns false'. Refute it at one input. -/
def fnExactIsAlarmWrong : ChangeSpec := { name := "fnExactIsAlarm", fn := fun _ => fun
  | [d] => { results := [.lit (.bool false)], args := [d] }
  | _ => none }
def FnExactIsAlarmWrongFalsely : Prop := fnExactIsAlarmRow.holds Try.pinned (OpenSpec.ofChange fnExactIsAlarmWrong)

/-- 'laws.FnExactFoodEaten': WHATEVER THE INPUT: true; the input reads as it did. -/
def fnExactFoodEatenSpec : ChangeSpec := { name := "fnExactFoodEaten", fn := fun _ => fun
  | [d1, d2] => { results := [.lit (.bool true)], args := [d1, d2] }
  | _ => none }
def fnExactFoodEatenRow : OpenClaim := { program := "ytooneaiebkdbpaa", sum := "cb04b5f146a6519da0a9f67c4bfc30ac7e6715cde82e2502eaa57eb787d04d3c", func := "loop.example/g03008/laws.FnExactFoodEaten", spec := "fnExactFoodEaten", apart := false }
def FnExactFoodEatenSaid : Prop := fnExactFoodEatenRow.holds Try.pinned (OpenSpec.ofChange fnExactFoodEatenSpec)

/-- ITS FALSE NEIGHBOUR: 'it returns false'. Refute it at one input. -/
def fnExactFoodEatenWrong : ChangeSpec := { name := "fnExactFoodEaten", fn := fun _ => fun
  | [d1, d2] => { results := [.lit (.bool false)], args := [d1, d2] }
  | _ => none }
def FnExactFoodEatenWrongFalsely : Prop := fnExactFoodEatenRow.holds Try.pinned (OpenSpec.ofChange fnExactFoodEatenWrong)

/-- 'laws.FnExactOutDays': WHATEVER THE INPUT: true; the input reads as it did. -/
def fnExactOutDaysSpec : ChangeSpec := { name := "fnExactOutDays", fn := fun _ => fun
  | [d1, d2] => { results := [.lit (.bool true)], args := [d1, d2] }
  | _ => none }
def fnExactOutDaysRow : OpenClaim := { program := "ytooneaiebkdbpaa", sum := "cb04b5f146a6519da0a9f67c4bfc30ac7e6715cde82e2502eaa57eb787d04d3c", func := "loop.example/g03008/laws.FnExactOutDays", spec := "fnExactOutDays", apart := false }
def FnExactOutDaysSaid : Prop := fnExactOutDaysRow.holds Try.pinned (OpenSpec.ofChange fnExactOutDaysSpec)

/-- ITS FALSE NEIGHBOUR: 'it returns false'. Refute it at one input. -/
def fnExactOutDaysWrong : ChangeSpec := { name := "fnExactOutDays", fn := fun _ => fun
  | [d1, d2] => { results := [.lit (.bool false)], args := [d1, d2] }
  | _ => none }
def FnExactOutDaysWrongFalsely : Prop := fnExactOutDaysRow.holds Try.pinned (OpenSpec.ofChange fnExactOutDaysWrong)

/-- 'laws.FnExactIsLost': WHATEVER THE INPUT: true; the input reads as it did. -/
def fnExactIsLostSpec : ChangeSpec := { name := "fnExactIsLost", fn := fun _ => fun
  | [d] => { results := [.lit (.bool true)], args := [d] }
  | _ => none }
def fnExactIsLostRow : OpenClaim := { program := "ytooneaiebkdbpaa", sum := "cb04b5f146a6519da0a9f67c4bfc30ac7e6715cde82e2502eaa57eb787d04d3c", func := "loop.example/g03008/laws.FnExactIsLost", spec := "fnExactIsLost", apart := false }
def FnExactIsLostSaid : Prop := fnExactIsLostRow.holds Try.pinned (OpenSpec.ofChange fnExactIsLostSpec)

/-- ITS FALSE NEIGHBOUR: 'it returns false'. Refute it at one input. -/
def fnExactIsLostWrong : ChangeSpec := { name := "fnExactIsLost", fn := fun _ => fun
  | [d] => { results := [.lit (.bool false)], args := [d] }
  | _ => none }
def FnExactIsLostWrongFalsely : Prop := fnExactIsLostRow.holds Try.pinned (OpenSpec.ofChange fnExactIsLostWrong)

/- THE SECOND FORM. 'bulk': how many values and letters a reading holds, each counted each time it is reached (what is shared counts as often as it is met; a slice's spare places count too). A statement '..UptoSaid' is the law's where the arguments, and the package variables that the reading takes, are together of bulk at most 1048576: NARROWER than '..Said'. Prove '..Said' where nothing that the law and all that it calls make is longer than what came in: it says more and counts as full. Else prove '..UptoSaid'. A law counts once. -/
mutual
def uptoBulk {H : Type} : DataW H → Nat
  | .lit (.string bytes) => bytes.length + 1
  | .lit _ => 1
  | .nil => 1
  | .ptr d => uptoBulk d + 1
  | .slice elems spare => uptoBulkAll elems + uptoBulkAll spare + 1
  | .agg parts => uptoBulkAll parts + 1
  | .iface _ d => uptoBulk d + 1
  | .map entries => uptoBulkEntries entries + 1
  | .held _ => 1
def uptoBulkAll {H : Type} : List (DataW H) → Nat
  | [] => 0
  | d :: r => uptoBulk d + uptoBulkAll r
def uptoBulkEntries {H : Type} : List (Lit × DataW H) → Nat
  | [] => 0
  | x :: r => uptoBulkEntry x + uptoBulkEntries r
def uptoBulkEntry {H : Type} : Lit × DataW H → Nat
  | (.string bytes, d) => bytes.length + uptoBulk d + 1
  | (_, d) => uptoBulk d + 1
 end
def uptoSmall : (H : Type) → List (DataW H) → Bool := fun _ ds => decide (uptoBulkAll ds ≤ 1048576)
def OpenSpec.upto (s : _root_.Go.ChangeSpec) : _root_.Go.OpenSpec := { _root_.Go.OpenSpec.ofChange s with cond := some uptoSmall }

/-- 'laws.FnExactIsRadio', WHERE WHAT IT READS IS OF BULK AT MOST 1048576: true; the input reads as it did. -/
def fnExactIsRadioUptoRow : OpenClaim := { program := "ytooneaiebkdbpaa", sum := "cb04b5f146a6519da0a9f67c4bfc30ac7e6715cde82e2502eaa57eb787d04d3c", func := "loop.example/g03008/laws.FnExactIsRadio", spec := "fnExactIsRadio", apart := false, narrowed := true }
def FnExactIsRadioUptoSaid : Prop := fnExactIsRadioUptoRow.holds Try.pinned (OpenSpec.upto fnExactIsRadioSpec)

/-- 'laws.FnExactIsTide', WHERE WHAT IT READS IS OF BULK AT MOST 1048576: true; the input reads as it did. -/
def fnExactIsTideUptoRow : OpenClaim := { program := "ytooneaiebkdbpaa", sum := "cb04b5f146a6519da0a9f67c4bfc30ac7e6715cde82e2502eaa57eb787d04d3c", func := "loop.example/g03008/laws.FnExactIsTide", spec := "fnExactIsTide", apart := false, narrowed := true }
def FnExactIsTideUptoSaid : Prop := fnExactIsTideUptoRow.holds Try.pinned (OpenSpec.upto fnExactIsTideSpec)

/-- 'laws.FnExactIsAlarm', WHERE WHAT IT READS IS OF BULK AT MOST 1048576: true; the input reads as it did. -/
def fnExactIsAlarmUptoRow : OpenClaim := { program := "ytooneaiebkdbpaa", sum := "cb04b5f146a6519da0a9f67c4bfc30ac7e6715cde82e2502eaa57eb787d04d3c", func := "loop.example/g03008/laws.FnExactIsAlarm", spec := "fnExactIsAlarm", apart := false, narrowed := true }
def FnExactIsAlarmUptoSaid : Prop := fnExactIsAlarmUptoRow.holds Try.pinned (OpenSpec.upto fnExactIsAlarmSpec)

/-- 'laws.FnExactFoodEaten', WHERE WHAT IT READS IS OF BULK AT MOST 1048576: true; the input reads as it did. -/
def fnExactFoodEatenUptoRow : OpenClaim := { program := "ytooneaiebkdbpaa", sum := "cb04b5f146a6519da0a9f67c4bfc30ac7e6715cde82e2502eaa57eb787d04d3c", func := "loop.example/g03008/laws.FnExactFoodEaten", spec := "fnExactFoodEaten", apart := false, narrowed := true }
def FnExactFoodEatenUptoSaid : Prop := fnExactFoodEatenUptoRow.holds Try.pinned (OpenSpec.upto fnExactFoodEatenSpec)

/-- 'laws.FnExactOutDays', WHERE WHAT IT READS IS OF BULK AT MOST 1048576: true; the input reads as it did. -/
def fnExactOutDaysUptoRow : OpenClaim := { program := "ytooneaiebkdbpaa", sum := "cb04b5f146a6519da0a9f67c4bfc30ac7e6715cde82e2502eaa57eb787d04d3c", func := "loop.example/g03008/laws.FnExactOutDays", spec := "fnExactOutDays", apart := false, narrowed := true }
def FnExactOutDaysUptoSaid : Prop := fnExactOutDaysUptoRow.holds Try.pinned (OpenSpec.upto fnExactOutDaysSpec)

/-- 'laws.FnExactIsLost', WHERE WHAT IT READS IS OF BULK AT MOST 1048576: true; the input reads as it did. -/
def fnExactIsLostUptoRow : OpenClaim := { program := "ytooneaiebkdbpaa", sum := "cb04b5f146a6519da0a9f67c4bfc30ac7e6715cde82e2502eaa57eb787d04d3c", func := "loop.example/g03008/laws.FnExactIsLost", spec := "fnExactIsLost", apart := false, narrowed := true }
def FnExactIsLostUptoSaid : Prop := fnExactIsLostUptoRow.holds Try.pinned (OpenSpec.upto fnExactIsLostSpec)

end Rows
end Go.Proofs.Ytooneaiebkdbpaa
