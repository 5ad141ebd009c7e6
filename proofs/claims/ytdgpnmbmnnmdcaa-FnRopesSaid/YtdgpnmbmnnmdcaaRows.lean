/-
  No cell of these rows narrows 'for every input' (looked for: loops, veiled, ifaces, maps, wideKeys, modest, calm, conditions, laid).
  DERIVED. THE GIVEN ROWS OF THIS SEAT. 4 by the template 'for every input the law returns true; each argument reads behind the call as it read before'; 0 by the template 'total and deterministic' (their statements: YtdgpnmbmnnmdcaaTotals.lean).
  GIVEN WITH THE SEED: the statements are not yours to turn. If you find one false, say at which input.
  Laid BY PROGRAM, IN A SANDBOX (cutbox-rows.mjs): the forced cells as the released guide's own fill.sh prints them over the translation c234ec12fbfcd029… (all of the seat's roots in one cut). By AI agents, Wed Nov 11 2026. No macro, syntax, notation, axiom, sorry.
-/
import Derived.Test.YtdgpnmbmnnmdcaaChecked
import GoSem.Claim
import GoSem.ClaimJoined
import GoSem.ClaimMapViews
import Derived.JoinedTies
import Derived.KernelRfl
namespace Go.Proofs.Ytdgpnmbmnnmdcaa
/- THE CELL 'sum', in the pinned program and in every row, IS THE sha256 OF THE DUMP (.gsa) THAT YtdgpnmbmnnmdcaaProg.lean LOADS. Nothing in Lean hashes anything: it is a label: what it is worth is what the hold of that sum in a sandbox is worth. -/
noncomputable def Try.pinned : Pinned := { name := "ytdgpnmbmnnmdcaa", sum := "c234ec12fbfcd029fe2474406111e728f4f6db7c3bd6c995d8defce922f4687a", checked := Try.checked }
namespace Rows
def none {H : Type} : Left H := { results := [], args := [] }

/-- 'laws.FnExactRopeTeams': WHATEVER THE INPUT: true; the input reads as it did. -/
def fnExactRopeTeamsSpec : ChangeSpec := { name := "fnExactRopeTeams", fn := fun _ => fun
  | [d] => { results := [.lit (.bool true)], args := [d] }
  | _ => none }
def fnExactRopeTeamsRow : OpenClaim := { program := "ytdgpnmbmnnmdcaa", sum := "c234ec12fbfcd029fe2474406111e728f4f6db7c3bd6c995d8defce922f4687a", func := "loop.example/g03008/laws.FnExactRopeTeams", spec := "fnExactRopeTeams", apart := false }
def FnExactRopeTeamsSaid : Prop := fnExactRopeTeamsRow.holds Try.pinned (OpenSpec.ofChange fnExactRopeTeamsSpec)

/-- ITS FALSE NEIGHBOUR: 'it returns false'. Refute it at one input. -/
def fnExactRopeTeamsWrong : ChangeSpec := { name := "fnExactRopeTeams", fn := fun _ => fun
  | [d] => { results := [.lit (.bool false)], args := [d] }
  | _ => none }
def FnExactRopeTeamsWrongFalsely : Prop := fnExactRopeTeamsRow.holds Try.pinned (OpenSpec.ofChange fnExactRopeTeamsWrong)

/-- 'laws.FnRopes': WHATEVER THE INPUT: true; the input reads as it did. -/
def fnRopesSpec : ChangeSpec := { name := "fnRopes", fn := fun _ => fun
  | [d] => { results := [.lit (.bool true)], args := [d] }
  | _ => none }
def fnRopesRow : OpenClaim := { program := "ytdgpnmbmnnmdcaa", sum := "c234ec12fbfcd029fe2474406111e728f4f6db7c3bd6c995d8defce922f4687a", func := "loop.example/g03008/laws.FnRopes", spec := "fnRopes", apart := false }
def FnRopesSaid : Prop := fnRopesRow.holds Try.pinned (OpenSpec.ofChange fnRopesSpec)

/-- ITS FALSE NEIGHBOUR: 'it returns false'. Refute it at one input. -/
def fnRopesWrong : ChangeSpec := { name := "fnRopes", fn := fun _ => fun
  | [d] => { results := [.lit (.bool false)], args := [d] }
  | _ => none }
def FnRopesWrongFalsely : Prop := fnRopesRow.holds Try.pinned (OpenSpec.ofChange fnRopesWrong)

/-- 'laws.FnExactLay': WHATEVER THE INPUT: true; the input reads as it did. -/
def fnExactLaySpec : ChangeSpec := { name := "fnExactLay", fn := fun _ => fun
  | [d1, d2, d3, d4] => { results := [.lit (.bool true)], args := [d1, d2, d3, d4] }
  | _ => none }
def fnExactLayRow : OpenClaim := { program := "ytdgpnmbmnnmdcaa", sum := "c234ec12fbfcd029fe2474406111e728f4f6db7c3bd6c995d8defce922f4687a", func := "loop.example/g03008/laws.FnExactLay", spec := "fnExactLay", apart := false }
def FnExactLaySaid : Prop := fnExactLayRow.holds Try.pinned (OpenSpec.ofChange fnExactLaySpec)

/-- ITS FALSE NEIGHBOUR: 'it returns false'. Refute it at one input. -/
def fnExactLayWrong : ChangeSpec := { name := "fnExactLay", fn := fun _ => fun
  | [d1, d2, d3, d4] => { results := [.lit (.bool false)], args := [d1, d2, d3, d4] }
  | _ => none }
def FnExactLayWrongFalsely : Prop := fnExactLayRow.holds Try.pinned (OpenSpec.ofChange fnExactLayWrong)

/-- 'laws.FnDepots': WHATEVER THE INPUT: true; the input reads as it did. -/
def fnDepotsSpec : ChangeSpec := { name := "fnDepots", fn := fun _ => fun
  | [d] => { results := [.lit (.bool true)], args := [d] }
  | _ => none }
def fnDepotsRow : OpenClaim := { program := "ytdgpnmbmnnmdcaa", sum := "c234ec12fbfcd029fe2474406111e728f4f6db7c3bd6c995d8defce922f4687a", func := "loop.example/g03008/laws.FnDepots", spec := "fnDepots", apart := false }
def FnDepotsSaid : Prop := fnDepotsRow.holds Try.pinned (OpenSpec.ofChange fnDepotsSpec)

/-- ITS FALSE NEIGHBOUR: 'it returns false'. Refute it at one input. -/
def fnDepotsWrong : ChangeSpec := { name := "fnDepots", fn := fun _ => fun
  | [d] => { results := [.lit (.bool false)], args := [d] }
  | _ => none }
def FnDepotsWrongFalsely : Prop := fnDepotsRow.holds Try.pinned (OpenSpec.ofChange fnDepotsWrong)

/- THE SECOND FORM. 'bulk': how many values and letters a reading holds, each counted each time it is reached (what is shared counts as often as it is met; a slice's spare places count too). A statement '..UptoSaid' is the law's where the arguments, and the package variables that the reading takes, are together of bulk at most 1048576: NARROWER than '..Said'. Prove '..Said' where nothing that the law and all that it calls make is longer than what came in: it says more and counts as full. Else prove '..UptoSaid'. A law counts once. -/
mutual
def uptoBulk {H : Type} : DataW H → Nat
  | .lit (.string bytes) => bytes.length + 1
  | .lit _ => 1
  | .nil => 1
  | .ptr d => uptoBulk d + 1
  | .slice elems spare => uptoBulkAll elems + uptoBulkAll spare + 1
  | .agg parts => uptoBulkAll parts + 1
  | .iface _ d => uptoBulk d + 1
  | .map entries => uptoBulkEntries entries + 1
  | .held _ => 1
def uptoBulkAll {H : Type} : List (DataW H) → Nat
  | [] => 0
  | d :: r => uptoBulk d + uptoBulkAll r
def uptoBulkEntries {H : Type} : List (Lit × DataW H) → Nat
  | [] => 0
  | x :: r => uptoBulkEntry x + uptoBulkEntries r
def uptoBulkEntry {H : Type} : Lit × DataW H → Nat
  | (.string bytes, d) => bytes.length + uptoBulk d + 1
  | (_, d) => uptoBulk d + 1
 end
def uptoSmall : (H : Type) → List (DataW H) → Bool := fun _ ds => decide (uptoBulkAll ds ≤ 1048576)
def OpenSpec.upto (s : _root_.Go.ChangeSpec) : _root_.Go.OpenSpec := { _root_.Go.OpenSpec.ofChange s with cond := some uptoSmall }

/-- 'laws.FnExactRopeTeams', WHERE WHAT IT READS IS OF BULK AT MOST 1048576: true; the input reads as it did. -/
def fnExactRopeTeamsUptoRow : OpenClaim := { program := "ytdgpnmbmnnmdcaa", sum := "c234ec12fbfcd029fe2474406111e728f4f6db7c3bd6c995d8defce922f4687a", func := "loop.example/g03008/laws.FnExactRopeTeams", spec := "fnExactRopeTeams", apart := false, narrowed := true }
def FnExactRopeTeamsUptoSaid : Prop := fnExactRopeTeamsUptoRow.holds Try.pinned (OpenSpec.upto fnExactRopeTeamsSpec)

/-- 'laws.FnRopes', WHERE WHAT IT READS IS OF BULK AT MOST 1048576: true; the input reads as it did. -/
def fnRopesUptoRow : OpenClaim := { program := "ytdgpnmbmnnmdcaa", sum := "c234ec12fbfcd029fe2474406111e728f4f6db7c3bd6c995d8defce922f4687a", func := "loop.example/g03008/laws.FnRopes", spec := "fnRopes", apart := false, narrowed := true }
def FnRopesUptoSaid : Prop := fnRopesUptoRow.holds Try.pinned (OpenSpec.upto fnRopesSpec)

/-- 'laws.FnExactLay', WHERE WHAT IT READS IS OF BULK AT MOST 1048576: true; the input reads as it did. -/
def fnExactLayUptoRow : OpenClaim := { program := "ytdgpnmbmnnmdcaa", sum := "c234ec12fbfcd029fe2474406111e728f4f6db7c3bd6c995d8defce922f4687a", func := "loop.example/g03008/laws.FnExactLay", spec := "fnExactLay", apart := false, narrowed := true }
def FnExactLayUptoSaid : Prop := fnExactLayUptoRow.holds Try.pinned (OpenSpec.upto fnExactLaySpec)

/-- 'laws.FnDepots', WHERE WHAT IT READS IS OF BULK AT MOST 1048576: true; the input reads as it did. -/
def fnDepotsUptoRow : OpenClaim := { program := "ytdgpnmbmnnmdcaa", sum := "c234ec12fbfcd029fe2474406111e728f4f6db7c3bd6c995d8defce922f4687a", func := "loop.example/g03008/laws.FnDepots", spec := "fnDepots", apart := false, narrowed := true }
def FnDepotsUptoSaid : Prop := fnDepotsUptoRow.holds Try.pinned (OpenSpec.upto fnDepotsSpec)

end Rows
end Go.Proofs.Ytdgpnmbmnnmdcaa
