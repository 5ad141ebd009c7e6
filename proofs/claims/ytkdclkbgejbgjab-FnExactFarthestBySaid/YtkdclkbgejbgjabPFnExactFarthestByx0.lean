-- PRINTED BY print.sh 35421559b90ae4d0a3588c463048766b98c2df88dd9212a6774a882060cdf62d: not written by this session
import Derived.Test.YtkdclkbgejbgjabProg
import Derived.Below
import Derived.Deep.Draws
import Derived.Deep.AppendLies
import Derived.Maps.AppendAt
import Derived.OwnWalk
import Derived.Laws.BytesArg
import Derived.Laws.MakeOwn
import Derived.Laws.OwnMore
import Derived.Deep.OwnRows
import Derived.Tactics
import Derived.Lib.ConvBytes
import Derived.Laws.Slices
import Derived.WalkKit
import Derived.KernelRfl
import Derived.RowKit3
import Derived.Deep.LoopGhost
import Derived.Deep.QuietTactic
import Derived.BigQuiet
import Derived.WideLaws
import Derived.Deep.DeepCutAuto
import Derived.Deep.CutBlock
import Derived.Deep.RegionHeld3
import Derived.Laws.Rows
import Derived.Lib.AppendStr
import Derived.ArgAppend
import Derived.Laws.IdiomCopy
import Derived.OrdersHeld
import Derived.Laws.BitsLemmas
import Derived.RowKit
import Derived.Test.YtkdclkbgejbgjabWWords
import Derived.Test.YtkdclkbgejbgjabWLast
import Derived.Test.YtkdclkbgejbgjabWTab
import Derived.Test.YtkdclkbgejbgjabWFour
import Derived.Test.YtkdclkbgejbgjabWQPut
import Derived.Test.YtkdclkbgejbgjabWApart
import Derived.Test.YtkdclkbgejbgjabWArr
import Derived.Test.YtkdclkbgejbgjabWZeros
import Derived.Test.YtkdclkbgejbgjabWFoot
import Derived.Test.YtkdclkbgejbgjabWKept
import Derived.Test.YtkdclkbgejbgjabWShare
import Derived.Test.YtkdclkbgejbgjabWN
import Derived.Test.YtkdclkbgejbgjabWFootNe
import Derived.Test.YtkdclkbgejbgjabWAt
import Derived.Test.YtkdclkbgejbgjabWEqStruct
import Derived.Test.YtkdclkbgejbgjabWRepsOne
import Derived.Test.YtkdclkbgejbgjabWInv
import Derived.Test.YtkdclkbgejbgjabWInvWords
import Derived.Test.YtkdclkbgejbgjabWGuard
import Derived.Test.YtkdclkbgejbgjabWNEv
import Derived.Test.YtkdclkbgejbgjabWMore
namespace Go.Proofs.Ytkdclkbgejbgjab.PFnExactFarthestBy
open Go.RowKit Go.Proofs.YtkdclkbgejbgjabW.PrintWords Go.Proofs.YtkdclkbgejbgjabW.PrintLast Go.Proofs.YtkdclkbgejbgjabW.PrintMore
attribute [local go_sem] max2_int min2_int max_two min_two max_three min_three max_four min_four   -- for this text's walks alone
set_option linter.unusedVariables false
set_option linter.unusedSimpArgs false



def errW : Option Int → Value
  | none => .nilIface
  | some c => .iface 0 (.int .i64 c)
theorem errW_none : errW none = .nilIface := rfl
theorem errW_some (c : Int) : errW (some c) = .iface 0 (.int .i64 c) := rfl

-- the values' own types

end Go.Proofs.Ytkdclkbgejbgjab.PFnExactFarthestBy
