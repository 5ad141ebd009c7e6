/- Words of the print: what this seat's claims name of them. Written by prune.py out of what print.sh lays. -/
import Derived.Test.YtdgpnmbmnnmdcaaWN
namespace Go.Proofs.YtdgpnmbmnnmdcaaW.PrintWords
open Go.RowKit
namespace Kd
section
variable {α : Type} {d : Kd α} {W : World} {g n : Nat} {S ok : Nat → Prop} {A : Option Addr} {ad : Addr} {xs : List α}
end
end Kd
end Go.Proofs.YtdgpnmbmnnmdcaaW.PrintWords
