-- PRINTED BY print.sh 35421559b90ae4d0a3588c463048766b98c2df88dd9212a6774a882060cdf62d: not written by this session
import Derived.Test.YtkdclkbgejbgjadProg
import Derived.Below
import Derived.Deep.Draws
import Derived.Deep.AppendLies
import Derived.Maps.AppendAt
import Derived.OwnWalk
import Derived.Laws.BytesArg
import Derived.Laws.MakeOwn
import Derived.Laws.OwnMore
import Derived.Deep.OwnRows
import Derived.Tactics
import Derived.Lib.ConvBytes
import Derived.Laws.Slices
import Derived.WalkKit
import Derived.KernelRfl
import Derived.RowKit3
import Derived.Deep.LoopGhost
import Derived.Deep.QuietTactic
import Derived.BigQuiet
import Derived.WideLaws
import Derived.Deep.DeepCutAuto
import Derived.Deep.CutBlock
import Derived.Deep.RegionHeld3
import Derived.Laws.Rows
import Derived.Lib.AppendStr
import Derived.ArgAppend
import Derived.Laws.IdiomCopy
import Derived.OrdersHeld
import Derived.Laws.BitsLemmas
import Derived.RowKit
import Derived.Test.YtkdclkbgejbgjadWWords
import Derived.Test.YtkdclkbgejbgjadWLast
import Derived.Test.YtkdclkbgejbgjadWTab
import Derived.Test.YtkdclkbgejbgjadWFour
import Derived.Test.YtkdclkbgejbgjadWQPut
import Derived.Test.YtkdclkbgejbgjadWApart
import Derived.Test.YtkdclkbgejbgjadWArr
import Derived.Test.YtkdclkbgejbgjadWZeros
import Derived.Test.YtkdclkbgejbgjadWFoot
import Derived.Test.YtkdclkbgejbgjadWKept
import Derived.Test.YtkdclkbgejbgjadWShare
import Derived.Test.YtkdclkbgejbgjadWN
import Derived.Test.YtkdclkbgejbgjadWFootNe
import Derived.Test.YtkdclkbgejbgjadWAt
import Derived.Test.YtkdclkbgejbgjadWEqStruct
import Derived.Test.YtkdclkbgejbgjadWRepsOne
import Derived.Test.YtkdclkbgejbgjadWInv
import Derived.Test.YtkdclkbgejbgjadWInvWords
import Derived.Test.YtkdclkbgejbgjadWGuard
import Derived.Test.YtkdclkbgejbgjadWNEv
import Derived.Test.YtkdclkbgejbgjadWMore
namespace Go.Proofs.Ytkdclkbgejbgjad.PFnExactSeen
open Go.RowKit Go.Proofs.YtkdclkbgejbgjadW.PrintWords Go.Proofs.YtkdclkbgejbgjadW.PrintLast Go.Proofs.YtkdclkbgejbgjadW.PrintMore
attribute [local go_sem] max2_int min2_int max_two min_two max_three min_three max_four min_four   -- for this text's walks alone
set_option linter.unusedVariables false
set_option linter.unusedSimpArgs false



def errW : Option Int → Value
  | none => .nilIface
  | some c => .iface 0 (.int .i64 c)
theorem errW_none : errW none = .nilIface := rfl
theorem errW_some (c : Int) : errW (some c) = .iface 0 (.int .i64 c) := rfl

theorem info3 : (Try.prog.info? 3).map (fun i => (i.zero, i.size, i.bytes)) = some (some (.int .i64 0), 1, 8) := by kernel_rfl
-- the values' own types

end Go.Proofs.Ytkdclkbgejbgjad.PFnExactSeen
