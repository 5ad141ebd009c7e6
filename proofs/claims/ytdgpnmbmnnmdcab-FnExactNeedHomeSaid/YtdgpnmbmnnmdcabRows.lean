/-
  No cell of these rows narrows 'for every input' (looked for: loops, veiled, ifaces, maps, wideKeys, modest, calm, conditions, laid).
  DERIVED. THE GIVEN ROWS OF THIS SEAT. 4 by the template 'for every input the law returns true; each argument reads behind the call as it read before'; 0 by the template 'total and deterministic' (their statements: YtdgpnmbmnnmdcabTotals.lean).
  GIVEN WITH THE SEED: the statements are not yours to turn. If you find one false, say at which input.
  Laid BY PROGRAM, IN A SANDBOX (cutbox-rows.mjs): the forced cells as the released guide's own fill.sh prints them over the translation 72b071487f8d6937… (all of the seat's roots in one cut). By AI agents, Wed Nov 11 2026. No macro, syntax, notation, axiom, sorry.
-/
import Derived.Test.YtdgpnmbmnnmdcabChecked
import GoSem.Claim
import GoSem.ClaimJoined
import GoSem.ClaimMapViews
import Derived.JoinedTies
import Derived.KernelRfl
namespace Go.Proofs.Ytdgpnmbmnnmdcab
/- THE CELL 'sum', in the pinned program and in every row, IS THE sha256 OF THE DUMP (.gsa) THAT YtdgpnmbmnnmdcabProg.lean LOADS. Nothing in Lean hashes anything: it is a label: what it is worth is what the hold of that sum in a sandbox is worth. -/
noncomputable def Try.pinned : Pinned := { name := "ytdgpnmbmnnmdcab", sum := "72b071487f8d6937cc684498b6b47e0bf833899d543cb6291c2041fe4a0ba80c", checked := Try.checked }
namespace Rows
def none {H : Type} : Left H := { results := [], args := [] }

/-- 'laws.FnExactCanBe': WHATEVER THE INPUT: true; the input reads as it did. -/
def fnExactCanBeSpec : ChangeSpec := { name := "fnExactCanBe", fn := fun _ => fun
  | [d1, d2, d3] => { results := [.lit (.bool true)], args := [d1, d2, d3] }
  | _ => none }
def fnExactCanBeRow : OpenClaim := { program := "ytdgpnmbmnnmdcab", sum := "72b071487f8d6937cc684498b6b47e0bf833899d543cb6291c2041fe4a0ba80c", func := "loop.example/g03008/laws.FnExactCanBe", spec := "fnExactCanBe", apart := false }
def FnExactCanBeSaid : Prop := fnExactCanBeRow.holds Try.pinned (OpenSpec.ofChange fnExactCanBeSpec)

/-- ITS FALSE NEIGHBOUR: 'it returns false'. Refute it at one input. -/
def fnExactCanBeWrong : ChangeSpec := { name := "fnExactCanBe", fn := fun _ => fun
  | [d1, d2, d3] => { results := [.lit (.bool false)], args := [d1, d2, d3] }
  | _ => none }
def FnExactCanBeWrongFalsely : Prop := fnExactCanBeRow.holds Try.pinned (OpenSpec.ofChange fnExactCanBeWrong)

/-- 'laws.FnExactPlacesAfter': WHATEVER THE INPUT: true; the input reads as it did. -/
def fnExactPlacesAfterSpec : ChangeSpec := { name := "fnExactPlacesAfter", fn := fun _ => fun
  | [d1, d2, d3, d4, d5] => { results := [.lit (.bool true)], args := [d1, d2, d3, d4, d5] }
  | _ => none }
def fnExactPlacesAfterRow : OpenClaim := { program := "ytdgpnmbmnnmdcab", sum := "72b071487f8d6937cc684498b6b47e0bf833899d543cb6291c2041fe4a0ba80c", func := "loop.example/g03008/laws.FnExactPlacesAfter", spec := "fnExactPlacesAfter", apart := false }
def FnExactPlacesAfterSaid : Prop := fnExactPlacesAfterRow.holds Try.pinned (OpenSpec.ofChange fnExactPlacesAfterSpec)

/-- ITS FALSE NEIGHBOUR: 'it returns false'. Refute it at one input. -/
def fnExactPlacesAfterWrong : ChangeSpec := { name := "fnExactPlacesAfter", fn := fun _ => fun
  | [d1, d2, d3, d4, d5] => { results := [.lit (.bool false)], args := [d1, d2, d3, d4, d5] }
  | _ => none }
def FnExactPlacesAfterWrongFalsely : Prop := fnExactPlacesAfterRow.holds Try.pinned (OpenSpec.ofChange fnExactPlacesAfterWrong)

/-- 'laws.FnPlaces': WHATEVER THE INPUT: true; the input reads as it did. -/
def fnPlacesSpec : ChangeSpec := { name := "fnPlaces", fn := fun _ => fun
  | [d] => { results := [.lit (.bool true)], args := [d] }
  | _ => none }
def fnPlacesRow : OpenClaim := { program := "ytdgpnmbmnnmdcab", sum := "72b071487f8d6937cc684498b6b47e0bf833899d543cb6291c2041fe4a0ba80c", func := "loop.example/g03008/laws.FnPlaces", spec := "fnPlaces", apart := false }
def FnPlacesSaid : Prop := fnPlacesRow.holds Try.pinned (OpenSpec.ofChange fnPlacesSpec)

/-- ITS FALSE NEIGHBOUR: 'it returns false'. Refute it at one input. -/
def fnPlacesWrong : ChangeSpec := { name := "fnPlaces", fn := fun _ => fun
  | [d] => { results := [.lit (.bool false)], args := [d] }
  | _ => none }
def FnPlacesWrongFalsely : Prop := fnPlacesRow.holds Try.pinned (OpenSpec.ofChange fnPlacesWrong)

/-- 'laws.FnExactNeedHome': WHATEVER THE INPUT: true; the input reads as it did. -/
def fnExactNeedHomeSpec : ChangeSpec := { name := "fnExactNeedHome", fn := fun _ => fun
  | [d1, d2, d3, d4] => { results := [.lit (.bool true)], args := [d1, d2, d3, d4] }
  | _ => none }
def fnExactNeedHomeRow : OpenClaim := { program := "ytdgpnmbmnnmdcab", sum := "72b071487f8d6937cc684498b6b47e0bf833899d543cb6291c2041fe4a0ba80c", func := "loop.example/g03008/laws.FnExactNeedHome", spec := "fnExactNeedHome", apart := false }
def FnExactNeedHomeSaid : Prop := fnExactNeedHomeRow.holds Try.pinned (OpenSpec.ofChange fnExactNeedHomeSpec)

/-- ITS FALSE NEIGHBOUR: 'it returns false'. Refute it at one input. -/
def fnExactNeedHomeWrong : ChangeSpec := { name := "fnExactNeedHome", fn := fun _ => fun
  | [d1, d2, d3, d4] => { results := [.lit (.bool false)], args := [d1, d2, d3, d4] }
  | _ => none }
def FnExactNeedHomeWrongFalsely : Prop := fnExactNeedHomeRow.holds Try.pinned (OpenSpec.ofChange fnExactNeedHomeWrong)

/- THE SECOND FORM. 'bulk': how many values and letters a reading holds, each counted each time it is reached (what is shared counts as often as it is met; a slice's spare places count too). A statement '..UptoSaid' is the law's where the arguments, and the package variables that the reading takes, are together of bulk at most 1048576: NARROWER than '..Said'. Prove '..Said' where nothing that the law and all that it calls make is longer than what came in: it says more and counts as full. Else prove '..UptoSaid'. A law counts once. -/
mutual
def uptoBulk {H : Type} : DataW H → Nat
  | .lit (.string bytes) => bytes.length + 1
  | .lit _ => 1
  | .nil => 1
  | .ptr d => uptoBulk d + 1
  | .slice elems spare => uptoBulkAll elems + uptoBulkAll spare + 1
  | .agg parts => uptoBulkAll parts + 1
  | .iface _ d => uptoBulk d + 1
  | .map entries => uptoBulkEntries entries + 1
  | .held _ => 1
def uptoBulkAll {H : Type} : List (DataW H) → Nat
  | [] => 0
  | d :: r => uptoBulk d + uptoBulkAll r
def uptoBulkEntries {H : Type} : List (Lit × DataW H) → Nat
  | [] => 0
  | x :: r => uptoBulkEntry x + uptoBulkEntries r
def uptoBulkEntry {H : Type} : Lit × DataW H → Nat
  | (.string bytes, d) => bytes.length + uptoBulk d + 1
  | (_, d) => uptoBulk d + 1
 end
def uptoSmall : (H : Type) → List (DataW H) → Bool := fun _ ds => decide (uptoBulkAll ds ≤ 1048576)
def OpenSpec.upto (s : _root_.Go.ChangeSpec) : _root_.Go.OpenSpec := { _root_.Go.OpenSpec.ofChange s with cond := some uptoSmall }

/-- 'laws.FnExactCanBe', WHERE WHAT IT READS IS OF BULK AT MOST 1048576: true; the input reads as it did. -/
def fnExactCanBeUptoRow : OpenClaim := { program := "ytdgpnmbmnnmdcab", sum := "72b071487f8d6937cc684498b6b47e0bf833899d543cb6291c2041fe4a0ba80c", func := "loop.example/g03008/laws.FnExactCanBe", spec := "fnExactCanBe", apart := false, narrowed := true }
def FnExactCanBeUptoSaid : Prop := fnExactCanBeUptoRow.holds Try.pinned (OpenSpec.upto fnExactCanBeSpec)

/-- 'laws.FnExactPlacesAfter', WHERE WHAT IT READS IS OF BULK AT MOST 1048576: true; the input reads as it did. -/
def fnExactPlacesAfterUptoRow : OpenClaim := { program := "ytdgpnmbmnnmdcab", sum := "72b071487f8d6937cc684498b6b47e0bf833899d543cb6291c2041fe4a0ba80c", func := "loop.example/g03008/laws.FnExactPlacesAfter", spec := "fnExactPlacesAfter", apart := false, narrowed := true }
def FnExactPlacesAfterUptoSaid : Prop := fnExactPlacesAfterUptoRow.holds Try.pinned (OpenSpec.upto fnExactPlacesAfterSpec)

/-- 'laws.FnPlaces', WHERE WHAT IT READS IS OF BULK AT MOST 1048576: true; the input reads as it did. -/
def fnPlacesUptoRow : OpenClaim := { program := "ytdgpnmbmnnmdcab", sum := "72b071487f8d6937cc684498b6b47e0bf833899d543cb6291c2041fe4a0ba80c", func := "loop.example/g03008/laws.FnPlaces", spec := "fnPlaces", apart := false, narrowed := true }
def FnPlacesUptoSaid : Prop := fnPlacesUptoRow.holds Try.pinned (OpenSpec.upto fnPlacesSpec)

/-- 'laws.FnExactNeedHome', WHERE WHAT IT READS IS OF BULK AT MOST 1048576: true; the input reads as it did. -/
def fnExactNeedHomeUptoRow : OpenClaim := { program := "ytdgpnmbmnnmdcab", sum := "72b071487f8d6937cc684498b6b47e0bf833899d543cb6291c2041fe4a0ba80c", func := "loop.example/g03008/laws.FnExactNeedHome", spec := "fnExactNeedHome", apart := false, narrowed := true }
def FnExactNeedHomeUptoSaid : Prop := fnExactNeedHomeUptoRow.holds Try.pinned (OpenSpec.upto fnExactNeedHomeSpec)

end Rows
end Go.Proofs.Ytdgpnmbmnnmdcab
