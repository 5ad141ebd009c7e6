/- Words of the print: what this seat's claims name of them. Written by prune.py out of what print.sh lays. -/
import Derived.Test.YtijfpcaahcnbbaaWInv
import Derived.Test.YtijfpcaahcnbbaaWFootNe
namespace Go.Proofs.YtijfpcaahcnbbaaW.PrintWords
open Go.RowKit
end Go.Proofs.YtijfpcaahcnbbaaW.PrintWords
namespace Go.Proofs.YtijfpcaahcnbbaaW.PrintLast
section
variable {ops : Array Oper} {a : Act} {o og : Oper} {g : Nat} {t : Tmp} {u : Bool}
end
end Go.Proofs.YtijfpcaahcnbbaaW.PrintLast
