/- Contracts of Go functions that a law reaches: printed by a program of this session, turned from print.py. -/
import Derived.Test.YtdgpnmbmnnmdcabProg
import Derived.Below
import Derived.Deep.Draws
import Derived.Deep.AppendLies
import Derived.Maps.AppendAt
import Derived.OwnWalk
import Derived.Laws.BytesArg
import Derived.Laws.MakeOwn
import Derived.Laws.OwnMore
import Derived.Deep.OwnRows
import Derived.Tactics
import Derived.Lib.ConvBytes
import Derived.Laws.Slices
import Derived.WalkKit
import Derived.KernelRfl
import Derived.RowKit3
import Derived.Deep.LoopGhost
import Derived.Deep.QuietTactic
import Derived.BigQuiet
import Derived.WideLaws
import Derived.Deep.DeepCutAuto
import Derived.Deep.CutBlock
import Derived.Deep.RegionHeld3
import Derived.Laws.Rows
import Derived.Lib.AppendStr
import Derived.ArgAppend
import Derived.Laws.IdiomCopy
import Derived.OrdersHeld
import Derived.Laws.BitsLemmas
import Derived.RowKit
import Derived.Test.YtdgpnmbmnnmdcabWWords
import Derived.Test.YtdgpnmbmnnmdcabWLast
import Derived.Test.YtdgpnmbmnnmdcabWTab
import Derived.Test.YtdgpnmbmnnmdcabWFour
import Derived.Test.YtdgpnmbmnnmdcabWQPut
import Derived.Test.YtdgpnmbmnnmdcabWApart
import Derived.Test.YtdgpnmbmnnmdcabWArr
import Derived.Test.YtdgpnmbmnnmdcabWZeros
import Derived.Test.YtdgpnmbmnnmdcabWFoot
import Derived.Test.YtdgpnmbmnnmdcabWKept
import Derived.Test.YtdgpnmbmnnmdcabWShare
import Derived.Test.YtdgpnmbmnnmdcabWN
import Derived.Test.YtdgpnmbmnnmdcabWFootNe
import Derived.Test.YtdgpnmbmnnmdcabWAt
import Derived.Test.YtdgpnmbmnnmdcabWEqStruct
import Derived.Test.YtdgpnmbmnnmdcabWRepsOne
import Derived.Test.YtdgpnmbmnnmdcabWInv
import Derived.Test.YtdgpnmbmnnmdcabWInvWords
import Derived.Test.YtdgpnmbmnnmdcabWGuard
import Derived.Test.YtdgpnmbmnnmdcabWNEv
import Derived.Test.YtdgpnmbmnnmdcabWMore
namespace Go.Proofs.Ytdgpnmbmnnmdcab.PFnPlaces
open Go.RowKit Go.Proofs.YtdgpnmbmnnmdcabW.PrintWords Go.Proofs.YtdgpnmbmnnmdcabW.PrintLast Go.Proofs.YtdgpnmbmnnmdcabW.PrintMore
attribute [local go_sem] max2_int min2_int max_two min_two max_three min_three max_four min_four   -- for this text's walks alone
set_option linter.unusedVariables false
set_option linter.unusedSimpArgs false



def errW : Option Int → Value
 | none => .nilIface
 | some c => .iface 0 (.int .i64 c)
theorem errW_none : errW none = .nilIface := rfl
theorem errW_some (c : Int) : errW (some c) = .iface 0 (.int .i64 c) := rfl

theorem info3 : (Try.prog.info? 3).map (fun i => (i.zero, i.size, i.bytes)) = some (some (.int .i64 0), 1, 8) := by kernel_rfl
-- the values' own types

end Go.Proofs.Ytdgpnmbmnnmdcab.PFnPlaces
