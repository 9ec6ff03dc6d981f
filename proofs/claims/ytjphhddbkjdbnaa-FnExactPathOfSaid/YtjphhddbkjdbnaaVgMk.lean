/- Marks of steps. -/
import Derived.Test.YtjphhddbkjdbnaaVgLd
import Derived.Test.YtjphhddbkjdbnaaVgSg
namespace Go.Vg
open Go.Pl
def sgm (k : Int) : Sg := ⟨k, k + 1, mtx (k + 2)⟩
end Go.Vg
