/- Words of the print: what this seat's claims name of them. Written by prune.py out of what print.sh lays. -/
import Derived.Test.YtijfpcaahcnbbabWInv
import Derived.Test.YtijfpcaahcnbbabWFootNe
namespace Go.Proofs.YtijfpcaahcnbbabW.PrintWords
open Go.RowKit
end Go.Proofs.YtijfpcaahcnbbabW.PrintWords
namespace Go.Proofs.YtijfpcaahcnbbabW.PrintLast
section
variable {ops : Array Oper} {a : Act} {o og : Oper} {g : Nat} {t : Tmp} {u : Bool}
end
end Go.Proofs.YtijfpcaahcnbbabW.PrintLast
