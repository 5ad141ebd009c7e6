/- Words of the print: what this seat's claims name of them. Written by prune.py out of what print.sh lays. -/
import Derived.Test.YtdgpnmbmnnmdcaaWWords
import Derived.Test.YtdgpnmbmnnmdcaaWLast
namespace Go.Proofs.YtdgpnmbmnnmdcaaW.PrintWords
open Go.RowKit
namespace Kd
section
variable {α : Type} {d : Kd α} {e base g o n cap : Nat} {ok okp : Nat → Prop} {w W : World} {v : Value} {xs : List α}
end
section
variable {α : Type} {enc : α → Value} {h1 : ∀ x, (enc x).oneCell' = true} {e base g o n cap : Nat} {ok : Nat → Prop} {W : World} {xs : List α}
end
end Kd
end Go.Proofs.YtdgpnmbmnnmdcaaW.PrintWords
