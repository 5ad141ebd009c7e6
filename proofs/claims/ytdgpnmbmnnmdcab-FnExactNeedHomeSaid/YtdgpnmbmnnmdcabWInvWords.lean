/- Words of the print: what this seat's claims name of them. Written by prune.py out of what print.sh lays. -/
import Derived.Test.YtdgpnmbmnnmdcabWInv
import Derived.Test.YtdgpnmbmnnmdcabWFootNe
namespace Go.Proofs.YtdgpnmbmnnmdcabW.PrintWords
open Go.RowKit
end Go.Proofs.YtdgpnmbmnnmdcabW.PrintWords
namespace Go.Proofs.YtdgpnmbmnnmdcabW.PrintLast
section
variable {ops : Array Oper} {a : Act} {o og : Oper} {g : Nat} {t : Tmp} {u : Bool}
end
end Go.Proofs.YtdgpnmbmnnmdcabW.PrintLast
