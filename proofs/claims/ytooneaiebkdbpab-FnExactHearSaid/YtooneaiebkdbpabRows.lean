/-
  No cell of these rows narrows 'for every input' (looked for: loops, veiled, ifaces, maps, wideKeys, modest, calm, conditions, laid).
  DERIVED. THE GIVEN ROWS OF THIS SEAT. 5 by the template 'for every input the law returns true; each argument reads behind the call as it read before'; 0 by the template 'total and deterministic' (their statements: YtooneaiebkdbpabTotals.lean).
  GIVEN WITH THE SEED: the statements are not yours to turn. If you find one false, say at which input.
  Laid BY PROGRAM, IN A SANDBOX (cutbox-rows.mjs): the forced cells as the released guide's own fill.sh prints them over the translation d47921cfcb9094d2… (all of the seat's roots in one cut). By AI agents, Wed Nov 11 2026. No macro, syntax, notation, axiom, sorry.
-/
import Derived.Test.YtooneaiebkdbpabChecked
import GoSem.Claim
import GoSem.ClaimJoined
import GoSem.ClaimMapViews
import Derived.JoinedTies
import Derived.KernelRfl
namespace Go.Proofs.Ytooneaiebkdbpab
/- THE CELL 'sum', in the pinned program and in every row, IS THE sha256 OF THE DUMP (.gsa) THAT YtooneaiebkdbpabProg.lean LOADS. Nothing in Lean hashes anything: it is a label: what it is worth is what the hold of that sum in a sandbox is worth. -/
noncomputable def Try.pinned : Pinned := { name := "ytooneaiebkdbpab", sum := "d47921cfcb9094d2fc41a277f62750acb3c142ba385b0e2a60e943d12a465890", checked := Try.checked }
namespace Rows
def none {H : Type} : Left H := { results := [], args := [] }

/-- 'laws.FnExactAlarmHour': WHATEVER THE INPUT: true; the input reads as it did. -/
def fnExactAlarmHourSpec : ChangeSpec := { name := "fnExactAlarmHour", fn := fun _ => fun
  | [d] => { results := [.lit (.bool true)], args := [d] }
  | _ => none }
def fnExactAlarmHourRow : OpenClaim := { program := "ytooneaiebkdbpab", sum := "d47921cfcb9094d2fc41a277f62750acb3c142ba385b0e2a60e943d12a465890", func := "loop.example/g03008/laws.FnExactAlarmHour", spec := "fnExactAlarmHour", apart := false }
def FnExactAlarmHourSaid : Prop := fnExactAlarmHourRow.holds Try.pinned (OpenSpec.ofChange fnExactAlarmHourSpec)

/-- ITS FALSE NEIGHBOUR: 'it returns false'. Refute it at one input. -/
def fnExactAlarmHourWrong : ChangeSpec := { name := "fnExactAlarmHour", fn := fun _ => fun
  | [d] => { results := [.lit (.bool false)], args := [d] }
  | _ => none }
def FnExactAlarmHourWrongFalsely : Prop := fnExactAlarmHourRow.holds Try.pinned (OpenSpec.ofChange fnExactAlarmHourWrong)

/-- 'laws.FnExactDryHours': WHATEVER THE INPUT: true; the input reads as it did. -/
def fnExactDryHoursSpec : ChangeSpec := { name := "fnExactDryHours", fn := fun _ => fun
  | [d] => { results := [.lit (.bool true)], args := [d] }
  | _ => none }
def fnExactDryHoursRow : OpenClaim := { program := "ytooneaiebkdbpab", sum := "d47921cfcb9094d2fc41a277f62750acb3c142ba385b0e2a60e943d12a465890", func := "loop.example/g03008/laws.FnExactDryHours", spec := "fnExactDryHours", apart := false }
def FnExactDryHoursSaid : Prop := fnExactDryHoursRow.holds Try.pinned (OpenSpec.ofChange fnExactDryHoursSpec)

/-- ITS FALSE NEIGHBOUR: 'it returns false'. Refute it at one input. -/
def fnExactDryHoursWrong : ChangeSpec := { name := "fnExactDryHours", fn := fun _ => fun
  | [d] => { results := [.lit (.bool false)], args := [d] }
  | _ => none }
def FnExactDryHoursWrongFalsely : Prop := fnExactDryHoursRow.holds Try.pinned (OpenSpec.ofChange fnExactDryHoursWrong)

/-- 'laws.FnExactSpareAt': WHATEVER THE INPUT: true; the input reads as it did. -/
def fnExactSpareAtSpec : ChangeSpec := { name := "fnExactSpareAt", fn := fun _ => fun
  | [d1, d2, d3] => { results := [.lit (.bool true)], args := [d1, d2, d3] }
  | _ => none }
def fnExactSpareAtRow : OpenClaim := { program := "ytooneaiebkdbpab", sum := "d47921cfcb9094d2fc41a277f62750acb3c142ba385b0e2a60e943d12a465890", func := "loop.example/g03008/laws.FnExactSpareAt", spec := "fnExactSpareAt", apart := false }
def FnExactSpareAtSaid : Prop := fnExactSpareAtRow.holds Try.pinned (OpenSpec.ofChange fnExactSpareAtSpec)

/-- ITS FALSE NEIGHBOUR: 'it returns false'. Refute it at one input. -/
def fnExactSpareAtWrong : ChangeSpec := { name := "fnExactSpareAt", fn := fun _ => fun
  | [d1, d2, d3] => { results := [.lit (.bool false)], args := [d1, d2, d3] }
  | _ => none }
def FnExactSpareAtWrongFalsely : Prop := fnExactSpareAtRow.holds Try.pinned (OpenSpec.ofChange fnExactSpareAtWrong)

/-- 'laws.FnExactIsDry': WHATEVER THE INPUT: true; the input reads as it did. -/
def fnExactIsDrySpec : ChangeSpec := { name := "fnExactIsDry", fn := fun _ => fun
  | [d1, d2] => { results := [.lit (.bool true)], args := [d1, d2] }
  | _ => none }
def fnExactIsDryRow : OpenClaim := { program := "ytooneaiebkdbpab", sum := "d47921cfcb9094d2fc41a277f62750acb3c142ba385b0e2a60e943d12a465890", func := "loop.example/g03008/laws.FnExactIsDry", spec := "fnExactIsDry", apart := false }
def FnExactIsDrySaid : Prop := fnExactIsDryRow.holds Try.pinned (OpenSpec.ofChange fnExactIsDrySpec)

/-- ITS FALSE NEIGHBOUR: 'it returns false'. Refute it at one input. -/
def fnExactIsDryWrong : ChangeSpec := { name := "fnExactIsDry", fn := fun _ => fun
  | [d1, d2] => { results := [.lit (.bool false)], args := [d1, d2] }
  | _ => none }
def FnExactIsDryWrongFalsely : Prop := fnExactIsDryRow.holds Try.pinned (OpenSpec.ofChange fnExactIsDryWrong)

/-- 'laws.FnExactHear': WHATEVER THE INPUT: true; the input reads as it did. -/
def fnExactHearSpec : ChangeSpec := { name := "fnExactHear", fn := fun _ => fun
  | [d1, d2] => { results := [.lit (.bool true)], args := [d1, d2] }
  | _ => none }
def fnExactHearRow : OpenClaim := { program := "ytooneaiebkdbpab", sum := "d47921cfcb9094d2fc41a277f62750acb3c142ba385b0e2a60e943d12a465890", func := "loop.example/g03008/laws.FnExactHear", spec := "fnExactHear", apart := false }
def FnExactHearSaid : Prop := fnExactHearRow.holds Try.pinned (OpenSpec.ofChange fnExactHearSpec)

/-- ITS FALSE NEIGHBOUR: 'it returns false'. Refute it at one input. -/
def fnExactHearWrong : ChangeSpec := { name := "fnExactHear", fn := fun _ => fun
  | [d1, d2] => { results := [.lit (.bool false)], args := [d1, d2] }
  | _ => none }
def FnExactHearWrongFalsely : Prop := fnExactHearRow.holds Try.pinned (OpenSpec.ofChange fnExactHearWrong)

/- THE SECOND FORM. 'bulk': how many values and letters a reading holds, each counted each time it is reached (what is shared counts as often as it is met; a slice's spare places count too). A statement '..UptoSaid' is the law's where the arguments, and the package variables that the reading takes, are together of bulk at most 1048576: NARROWER than '..Said'. Prove '..Said' where nothing that the law and all that it calls make is longer than what came in: it says more and counts as full. Else prove '..UptoSaid'. A law counts once. -/
mutual
def uptoBulk {H : Type} : DataW H → Nat
  | .lit (.string bytes) => bytes.length + 1
  | .lit _ => 1
  | .nil => 1
  | .ptr d => uptoBulk d + 1
  | .slice elems spare => uptoBulkAll elems + uptoBulkAll spare + 1
  | .agg parts => uptoBulkAll parts + 1
  | .iface _ d => uptoBulk d + 1
  | .map entries => uptoBulkEntries entries + 1
  | .held _ => 1
def uptoBulkAll {H : Type} : List (DataW H) → Nat
  | [] => 0
  | d :: r => uptoBulk d + uptoBulkAll r
def uptoBulkEntries {H : Type} : List (Lit × DataW H) → Nat
  | [] => 0
  | x :: r => uptoBulkEntry x + uptoBulkEntries r
def uptoBulkEntry {H : Type} : Lit × DataW H → Nat
  | (.string bytes, d) => bytes.length + uptoBulk d + 1
  | (_, d) => uptoBulk d + 1
 end
def uptoSmall : (H : Type) → List (DataW H) → Bool := fun _ ds => decide (uptoBulkAll ds ≤ 1048576)
def OpenSpec.upto (s : _root_.Go.ChangeSpec) : _root_.Go.OpenSpec := { _root_.Go.OpenSpec.ofChange s with cond := some uptoSmall }

/-- 'laws.FnExactAlarmHour', WHERE WHAT IT READS IS OF BULK AT MOST 1048576: true; the input reads as it did. -/
def fnExactAlarmHourUptoRow : OpenClaim := { program := "ytooneaiebkdbpab", sum := "d47921cfcb9094d2fc41a277f62750acb3c142ba385b0e2a60e943d12a465890", func := "loop.example/g03008/laws.FnExactAlarmHour", spec := "fnExactAlarmHour", apart := false, narrowed := true }
def FnExactAlarmHourUptoSaid : Prop := fnExactAlarmHourUptoRow.holds Try.pinned (OpenSpec.upto fnExactAlarmHourSpec)

/-- 'laws.FnExactDryHours', WHERE WHAT IT READS IS OF BULK AT MOST 1048576: true; the input reads as it did. -/
def fnExactDryHoursUptoRow : OpenClaim := { program := "ytooneaiebkdbpab", sum := "d47921cfcb9094d2fc41a277f62750acb3c142ba385b0e2a60e943d12a465890", func := "loop.example/g03008/laws.FnExactDryHours", spec := "fnExactDryHours", apart := false, narrowed := true }
def FnExactDryHoursUptoSaid : Prop := fnExactDryHoursUptoRow.holds Try.pinned (OpenSpec.upto fnExactDryHoursSpec)

/-- 'laws.FnExactSpareAt', WHERE WHAT IT READS IS OF BULK AT MOST 1048576: true; the input reads as it did. -/
def fnExactSpareAtUptoRow : OpenClaim := { program := "ytooneaiebkdbpab", sum := "d47921cfcb9094d2fc41a277f62750acb3c142ba385b0e2a60e943d12a465890", func := "loop.example/g03008/laws.FnExactSpareAt", spec := "fnExactSpareAt", apart := false, narrowed := true }
def FnExactSpareAtUptoSaid : Prop := fnExactSpareAtUptoRow.holds Try.pinned (OpenSpec.upto fnExactSpareAtSpec)

/-- 'laws.FnExactIsDry', WHERE WHAT IT READS IS OF BULK AT MOST 1048576: true; the input reads as it did. -/
def fnExactIsDryUptoRow : OpenClaim := { program := "ytooneaiebkdbpab", sum := "d47921cfcb9094d2fc41a277f62750acb3c142ba385b0e2a60e943d12a465890", func := "loop.example/g03008/laws.FnExactIsDry", spec := "fnExactIsDry", apart := false, narrowed := true }
def FnExactIsDryUptoSaid : Prop := fnExactIsDryUptoRow.holds Try.pinned (OpenSpec.upto fnExactIsDrySpec)

/-- 'laws.FnExactHear', WHERE WHAT IT READS IS OF BULK AT MOST 1048576: true; the input reads as it did. -/
def fnExactHearUptoRow : OpenClaim := { program := "ytooneaiebkdbpab", sum := "d47921cfcb9094d2fc41a277f62750acb3c142ba385b0e2a60e943d12a465890", func := "loop.example/g03008/laws.FnExactHear", spec := "fnExactHear", apart := false, narrowed := true }
def FnExactHearUptoSaid : Prop := fnExactHearUptoRow.holds Try.pinned (OpenSpec.upto fnExactHearSpec)

end Rows
end Go.Proofs.Ytooneaiebkdbpab
