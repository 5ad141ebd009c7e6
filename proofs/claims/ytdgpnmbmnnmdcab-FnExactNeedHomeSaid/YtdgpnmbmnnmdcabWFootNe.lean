/- Words of the print: what this seat's claims name of them. Written by prune.py out of what print.sh lays. -/
import Derived.Test.YtdgpnmbmnnmdcabWN
namespace Go.Proofs.YtdgpnmbmnnmdcabW.PrintWords
open Go.RowKit
namespace Kd
section
variable {α : Type} {d : Kd α} {W : World} {g n : Nat} {S ok : Nat → Prop} {A : Option Addr} {ad : Addr} {xs : List α}
end
end Kd
end Go.Proofs.YtdgpnmbmnnmdcabW.PrintWords
