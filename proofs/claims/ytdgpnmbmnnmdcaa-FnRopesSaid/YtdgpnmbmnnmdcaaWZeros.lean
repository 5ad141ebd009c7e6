/- Words of the print: what this seat's claims name of them. Written by prune.py out of what print.sh lays. -/
import Derived.Test.YtdgpnmbmnnmdcaaWApart
import Derived.Test.YtdgpnmbmnnmdcaaWArr
namespace Go.Proofs.YtdgpnmbmnnmdcaaW.PrintWords
open Go.RowKit
section
variable {P : Program}
end
namespace Kd
section
variable {P : Program} {ops : Array Oper} {rest : List Oper} {o : Oper} {a : Act} {Q : Exit → Act → World → Prop} {Kc : Act → World → Prop} {α : Type}
end
section
variable {α : Type} {d : Kd α} {e : Nat} {w : World} {base : Nat} {ok : Nat → Prop} {v : Value} {xs : List α}
end
section
variable {P : Program} {ops : Array Oper} {rest : List Oper} {o : Oper} {a : Act} {Q : Exit → Act → World → Prop} {Kc : Act → World → Prop} {α : Type}
end
end Kd
end Go.Proofs.YtdgpnmbmnnmdcaaW.PrintWords
