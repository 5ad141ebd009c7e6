/- A fact of a world holds at what an allocation or a draw makes of it: told by instances, so that the texts of the contracts are short. No condition. -/
import Derived.Test.YtdgpnmbmnnmdcaaWWords
import Derived.Test.YtdgpnmbmnnmdcaaWLast
import Derived.Test.YtdgpnmbmnnmdcaaWApart
import Derived.Test.YtdgpnmbmnnmdcaaWN
import Derived.Test.YtdgpnmbmnnmdcaaWMore
namespace Go.Proofs.YtdgpnmbmnnmdcaaW.PrintWords
open Go.RowKit
/-- W is w, and what was made or drawn since. -/
class Up (w W : World) : Prop where
  h : Below w.heap.size w W
instance (w : World) : Up w w := ⟨Below.refl _ _⟩
instance (w W : World) (o : Obj) [u : Up w W] : Up w (W.alloc o) := ⟨below_alloc u.h o⟩
instance (w W : World) (n : Nat) [u : Up w W] : Up w (W.drewN n) := ⟨pw_below_drewN u.h n⟩
instance (w W : World) [u : Up w W] : Up w W.drew := ⟨below_drew u.h⟩
/-- n Bools: the first k are true, but for those in ex. -/
def ar (n k : Nat) (ex : List Nat) : Array Bool := ((List.range n).map fun i => Nat.blt i k && !ex.contains i).toArray
section
variable {w0 w W : World}
theorem below_up [u : Up w W] (h : Below w0.heap.size w0 w) : Below w0.heap.size w0 W := below_step h u.h
theorem blk_up [u : Up w W] {g : Nat} {o : Obj} (h : w.heap[g]? = some o) : W.heap[g]? = some o := blk_below h u.h
end
namespace Kd
section
variable {α : Type} {d : Kd α} {e base : Nat} {ok : Nat → Prop} {w W : World} {v : Value} {xs : List α} {A : Option Addr} {n : Nat}
theorem R_up [u : Up w W] (h : d.R e w base ok v xs) : d.R e W base ok v xs := R_below h u.h
theorem Q_up [u : Up w W] (h : d.Q e w base ok v xs) : d.Q e W base ok v xs := Q_below h u.h
theorem S_up [u : Up w W] (h : S d e w base ok v xs) : S d e W base ok v xs := S_below h u.h
theorem N_up [u : Up w W] (h : N d e w base ok v xs) : N d e W base ok v xs := N_below h u.h
theorem C_up [u : Up w W] (h : d.C w A n xs) : d.C W A n xs := C_below h u.h
end
end Kd
end Go.Proofs.YtdgpnmbmnnmdcaaW.PrintWords
