/- Words of the print: what this seat's claims name of them. Written by prune.py out of what print.sh lays. -/
import Derived.Test.YtdgpnmbmnnmdcaaWInv
import Derived.Test.YtdgpnmbmnnmdcaaWFootNe
namespace Go.Proofs.YtdgpnmbmnnmdcaaW.PrintWords
open Go.RowKit
end Go.Proofs.YtdgpnmbmnnmdcaaW.PrintWords
namespace Go.Proofs.YtdgpnmbmnnmdcaaW.PrintLast
section
variable {ops : Array Oper} {a : Act} {o og : Oper} {g : Nat} {t : Tmp} {u : Bool}
end
end Go.Proofs.YtdgpnmbmnnmdcaaW.PrintLast
