/-
  No cell of these rows narrows 'for every input' (looked for: loops, veiled, ifaces, maps, wideKeys, modest, calm, conditions, laid).
  DERIVED. THE GIVEN ROWS OF THIS SEAT. 6 by the template 'for every input the law returns true; each argument reads behind the call as it read before'; 0 by the template 'total and deterministic' (their statements: YtkdclkbgejbgjaeTotals.lean).
  GIVEN WITH THE SEED: the statements are not yours to turn. If you find one false, say at which input.
  Laid BY PROGRAM, IN A SANDBOX (cutbox-rows.mjs): the forced cells as the released guide's own fill.sh prints them over the translation ba1e53738981c369… (all of the seat's roots in one cut). By AI agents, Wed Nov 11 2026. No macro, syntax, notation, axiom, sorry.
-/
import Derived.Test.YtkdclkbgejbgjaeChecked
import GoSem.Claim
import GoSem.ClaimJoined
import GoSem.ClaimMapViews
import Derived.JoinedTies
import Derived.KernelRfl
namespace Go.Proofs.Ytkdclkbgejbgjae
/- THE CELL 'sum', in the pinned program and in every row, IS THE sha256 OF THE DUMP (.gsa) THAT YtkdclkbgejbgjaeProg.lean LOADS. Nothing in Lean hashes anything: it is a label: what it is worth is what the hold of that sum in a sandbox is worth. -/
noncomputable def Try.pinned : Pinned := { name := "ytkdclkbgejbgjae", sum := "ba1e53738981c3694dc79eb49b8a004e3447a7debee781a1d67166bfcf7b6548", checked := Try.checked }
namespace Rows
def none {H : Type} : Left H := { results := [], args := [] }

/-- 'laws.FnCrew': WHATEVER THE INPUT: true; the input reads as it did. -/
def fnCrewSpec : ChangeSpec := { name := "fnCrew", fn := fun _ => fun
  | [d] => { results := [.lit (.bool true)], args := [d] }
  | _ => none }
def fnCrewRow : OpenClaim := { program := "ytkdclkbgejbgjae", sum := "ba1e53738981c3694dc79eb49b8a004e3447a7debee781a1d67166bfcf7b6548", func := "loop.example/g03008/laws.FnCrew", spec := "fnCrew", apart := false }
def FnCrewSaid : Prop := fnCrewRow.holds Try.pinned (OpenSpec.ofChange fnCrewSpec)

/-- ITS FALSE NEIGHBOUR: 'it returns false'. Refute it at one input. -/
def fnCrewWrong : ChangeSpec := { name := "fnCrew", fn := fun _ => fun
  | [d] => { results := [.lit (.bool false)], args := [d] }
  | _ => none }
def FnCrewWrongFalsely : Prop := fnCrewRow.holds Try.pinned (OpenSpec.ofChange fnCrewWrong)

/-- 'laws.FnExactEqualParties': WHATEVER THE INPUT: true; the input reads as it did. -/
def fnExactEqualPartiesSpec : ChangeSpec := { name := "fnExactEqualParties", fn := fun _ => fun
  | [d1, d2] => { results := [.lit (.bool true)], args := [d1, d2] }
  | _ => none }
def fnExactEqualPartiesRow : OpenClaim := { program := "ytkdclkbgejbgjae", sum := "ba1e53738981c3694dc79eb49b8a004e3447a7debee781a1d67166bfcf7b6548", func := "loop.example/g03008/laws.FnExactEqualParties", spec := "fnExactEqualParties", apart := false }
def FnExactEqualPartiesSaid : Prop := fnExactEqualPartiesRow.holds Try.pinned (OpenSpec.ofChange fnExactEqualPartiesSpec)

/-- ITS FALSE NEIGHBOUR: 'it returns false'. Refute it at one input. -/
def fnExactEqualPartiesWrong : ChangeSpec := { name := "fnExactEqualParties", fn := fun _ => fun
  | [d1, d2] => { results := [.lit (.bool false)], args := [d1, d2] }
  | _ => none }
def FnExactEqualPartiesWrongFalsely : Prop := fnExactEqualPartiesRow.holds Try.pinned (OpenSpec.ofChange fnExactEqualPartiesWrong)

/-- 'laws.FnExactDaysOfFood': WHATEVER THE INPUT: true; the input reads as it did. -/
def fnExactDaysOfFoodSpec : ChangeSpec := { name := "fnExactDaysOfFood", fn := fun _ => fun
  | [d] => { results := [.lit (.bool true)], args := [d] }
  | _ => none }
def fnExactDaysOfFoodRow : OpenClaim := { program := "ytkdclkbgejbgjae", sum := "ba1e53738981c3694dc79eb49b8a004e3447a7debee781a1d67166bfcf7b6548", func := "loop.example/g03008/laws.FnExactDaysOfFood", spec := "fnExactDaysOfFood", apart := false }
def FnExactDaysOfFoodSaid : Prop := fnExactDaysOfFoodRow.holds Try.pinned (OpenSpec.ofChange fnExactDaysOfFoodSpec)

/-- ITS FALSE NEIGHBOUR: 'it returns false'. Refute it at one input. -/
def fnExactDaysOfFoodWrong : ChangeSpec := { name := "fnExactDaysOfFood", fn := fun _ => fun
  | [d] => { results := [.lit (.bool false)], args := [d] }
  | _ => none }
def FnExactDaysOfFoodWrongFalsely : Prop := fnExactDaysOfFoodRow.holds Try.pinned (OpenSpec.ofChange fnExactDaysOfFoodWrong)

/-- 'laws.FnExactRoomFor': WHATEVER THE INPUT: true; the input reads as it did. -/
def fnExactRoomForSpec : ChangeSpec := { name := "fnExactRoomFor", fn := fun _ => fun
  | [d] => { results := [.lit (.bool true)], args := [d] }
  | _ => none }
def fnExactRoomForRow : OpenClaim := { program := "ytkdclkbgejbgjae", sum := "ba1e53738981c3694dc79eb49b8a004e3447a7debee781a1d67166bfcf7b6548", func := "loop.example/g03008/laws.FnExactRoomFor", spec := "fnExactRoomFor", apart := false }
def FnExactRoomForSaid : Prop := fnExactRoomForRow.holds Try.pinned (OpenSpec.ofChange fnExactRoomForSpec)

/-- ITS FALSE NEIGHBOUR: 'it returns false'. Refute it at one input. -/
def fnExactRoomForWrong : ChangeSpec := { name := "fnExactRoomFor", fn := fun _ => fun
  | [d] => { results := [.lit (.bool false)], args := [d] }
  | _ => none }
def FnExactRoomForWrongFalsely : Prop := fnExactRoomForRow.holds Try.pinned (OpenSpec.ofChange fnExactRoomForWrong)

/-- 'laws.FnExactIceOn': WHATEVER THE INPUT: true; the input reads as it did. -/
def fnExactIceOnSpec : ChangeSpec := { name := "fnExactIceOn", fn := fun _ => fun
  | [d1, d2] => { results := [.lit (.bool true)], args := [d1, d2] }
  | _ => none }
def fnExactIceOnRow : OpenClaim := { program := "ytkdclkbgejbgjae", sum := "ba1e53738981c3694dc79eb49b8a004e3447a7debee781a1d67166bfcf7b6548", func := "loop.example/g03008/laws.FnExactIceOn", spec := "fnExactIceOn", apart := false }
def FnExactIceOnSaid : Prop := fnExactIceOnRow.holds Try.pinned (OpenSpec.ofChange fnExactIceOnSpec)

/-- ITS FALSE NEIGHBOUR: 'it returns false'. Refute it at one input. -/
def fnExactIceOnWrong : ChangeSpec := { name := "fnExactIceOn", fn := fun _ => fun
  | [d1, d2] => { results := [.lit (.bool false)], args := [d1, d2] }
  | _ => none }
def FnExactIceOnWrongFalsely : Prop := fnExactIceOnRow.holds Try.pinned (OpenSpec.ofChange fnExactIceOnWrong)

/-- 'laws.FnExactFoodInAll': WHATEVER THE INPUT: true; the input reads as it did. -/
def fnExactFoodInAllSpec : ChangeSpec := { name := "fnExactFoodInAll", fn := fun _ => fun
  | [d1, d2] => { results := [.lit (.bool true)], args := [d1, d2] }
  | _ => none }
def fnExactFoodInAllRow : OpenClaim := { program := "ytkdclkbgejbgjae", sum := "ba1e53738981c3694dc79eb49b8a004e3447a7debee781a1d67166bfcf7b6548", func := "loop.example/g03008/laws.FnExactFoodInAll", spec := "fnExactFoodInAll", apart := false }
def FnExactFoodInAllSaid : Prop := fnExactFoodInAllRow.holds Try.pinned (OpenSpec.ofChange fnExactFoodInAllSpec)

/-- ITS FALSE NEIGHBOUR: 'it returns false'. Refute it at one input. -/
def fnExactFoodInAllWrong : ChangeSpec := { name := "fnExactFoodInAll", fn := fun _ => fun
  | [d1, d2] => { results := [.lit (.bool false)], args := [d1, d2] }
  | _ => none }
def FnExactFoodInAllWrongFalsely : Prop := fnExactFoodInAllRow.holds Try.pinned (OpenSpec.ofChange fnExactFoodInAllWrong)

/- THE SECOND FORM. 'bulk': how many values and letters a reading holds, each counted each time it is reached (what is shared counts as often as it is met; a slice's spare places count too). A statement '..UptoSaid' is the law's where the arguments, and the package variables that the reading takes, are together of bulk at most 1048576: NARROWER than '..Said'. Prove '..Said' where nothing that the law and all that it calls make is longer than what came in: it says more and counts as full. Else prove '..UptoSaid'. A law counts once. -/
mutual
def uptoBulk {H : Type} : DataW H → Nat
  | .lit (.string bytes) => bytes.length + 1
  | .lit _ => 1
  | .nil => 1
  | .ptr d => uptoBulk d + 1
  | .slice elems spare => uptoBulkAll elems + uptoBulkAll spare + 1
  | .agg parts => uptoBulkAll parts + 1
  | .iface _ d => uptoBulk d + 1
  | .map entries => uptoBulkEntries entries + 1
  | .held _ => 1
def uptoBulkAll {H : Type} : List (DataW H) → Nat
  | [] => 0
  | d :: r => uptoBulk d + uptoBulkAll r
def uptoBulkEntries {H : Type} : List (Lit × DataW H) → Nat
  | [] => 0
  | x :: r => uptoBulkEntry x + uptoBulkEntries r
def uptoBulkEntry {H : Type} : Lit × DataW H → Nat
  | (.string bytes, d) => bytes.length + uptoBulk d + 1
  | (_, d) => uptoBulk d + 1
 end
def uptoSmall : (H : Type) → List (DataW H) → Bool := fun _ ds => decide (uptoBulkAll ds ≤ 1048576)
def OpenSpec.upto (s : _root_.Go.ChangeSpec) : _root_.Go.OpenSpec := { _root_.Go.OpenSpec.ofChange s with cond := some uptoSmall }

/-- 'laws.FnCrew', WHERE WHAT IT READS IS OF BULK AT MOST 1048576: true; the input reads as it did. -/
def fnCrewUptoRow : OpenClaim := { program := "ytkdclkbgejbgjae", sum := "ba1e53738981c3694dc79eb49b8a004e3447a7debee781a1d67166bfcf7b6548", func := "loop.example/g03008/laws.FnCrew", spec := "fnCrew", apart := false, narrowed := true }
def FnCrewUptoSaid : Prop := fnCrewUptoRow.holds Try.pinned (OpenSpec.upto fnCrewSpec)

/-- 'laws.FnExactEqualParties', WHERE WHAT IT READS IS OF BULK AT MOST 1048576: true; the input reads as it did. -/
def fnExactEqualPartiesUptoRow : OpenClaim := { program := "ytkdclkbgejbgjae", sum := "ba1e53738981c3694dc79eb49b8a004e3447a7debee781a1d67166bfcf7b6548", func := "loop.example/g03008/laws.FnExactEqualParties", spec := "fnExactEqualParties", apart := false, narrowed := true }
def FnExactEqualPartiesUptoSaid : Prop := fnExactEqualPartiesUptoRow.holds Try.pinned (OpenSpec.upto fnExactEqualPartiesSpec)

/-- 'laws.FnExactDaysOfFood', WHERE WHAT IT READS IS OF BULK AT MOST 1048576: true; the input reads as it did. -/
def fnExactDaysOfFoodUptoRow : OpenClaim := { program := "ytkdclkbgejbgjae", sum := "ba1e53738981c3694dc79eb49b8a004e3447a7debee781a1d67166bfcf7b6548", func := "loop.example/g03008/laws.FnExactDaysOfFood", spec := "fnExactDaysOfFood", apart := false, narrowed := true }
def FnExactDaysOfFoodUptoSaid : Prop := fnExactDaysOfFoodUptoRow.holds Try.pinned (OpenSpec.upto fnExactDaysOfFoodSpec)

/-- 'laws.FnExactRoomFor', WHERE WHAT IT READS IS OF BULK AT MOST 1048576: true; the input reads as it did. -/
def fnExactRoomForUptoRow : OpenClaim := { program := "ytkdclkbgejbgjae", sum := "ba1e53738981c3694dc79eb49b8a004e3447a7debee781a1d67166bfcf7b6548", func := "loop.example/g03008/laws.FnExactRoomFor", spec := "fnExactRoomFor", apart := false, narrowed := true }
def FnExactRoomForUptoSaid : Prop := fnExactRoomForUptoRow.holds Try.pinned (OpenSpec.upto fnExactRoomForSpec)

/-- 'laws.FnExactIceOn', WHERE WHAT IT READS IS OF BULK AT MOST 1048576: true; the input reads as it did. -/
def fnExactIceOnUptoRow : OpenClaim := { program := "ytkdclkbgejbgjae", sum := "ba1e53738981c3694dc79eb49b8a004e3447a7debee781a1d67166bfcf7b6548", func := "loop.example/g03008/laws.FnExactIceOn", spec := "fnExactIceOn", apart := false, narrowed := true }
def FnExactIceOnUptoSaid : Prop := fnExactIceOnUptoRow.holds Try.pinned (OpenSpec.upto fnExactIceOnSpec)

/-- 'laws.FnExactFoodInAll', WHERE WHAT IT READS IS OF BULK AT MOST 1048576: true; the input reads as it did. -/
def fnExactFoodInAllUptoRow : OpenClaim := { program := "ytkdclkbgejbgjae", sum := "ba1e53738981c3694dc79eb49b8a004e3447a7debee781a1d67166bfcf7b6548", func := "loop.example/g03008/laws.FnExactFoodInAll", spec := "fnExactFoodInAll", apart := false, narrowed := true }
def FnExactFoodInAllUptoSaid : Prop := fnExactFoodInAllUptoRow.holds Try.pinned (OpenSpec.upto fnExactFoodInAllSpec)

end Rows
end Go.Proofs.Ytkdclkbgejbgjae
