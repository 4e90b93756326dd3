/- A block of the call's own that stays as it is; cells of one-cell blocks; owned rows that read. qA7 lists: a list whose first elements have been turned. make and copy on rows of numbers. make, look-up and store on rows of one-cell elements of any kind. Lists of numbers compared, and written over: barleycornref03.SameInts, barleycornlaw04.same and erase. -/
import Derived.Test.YtlhfonhbbpbmpaaGreatBase
import Derived.Test.YtlhfonhbbpbmpaaGreatStd
import Derived.OwnWalk
import Derived.Laws.CopyOwn
import Derived.BigQuiet
import Derived.Deep.QuietTactic
namespace Go.Proofs.YtlhfonhbbpbmpaaGreat
set_option maxRecDepth 100000
open Go.RowKit
set_option linter.unusedVariables false
theorem qFH (w : World) (a : Obj) : (w.alloc a).heap[w.heap.size]? = some a := by unfold World.alloc; exact Array.getElem?_push_size
set_option linter.unusedSimpArgs false
def part (f : Int → Int) (L : List Int) (k : Nat) : List Int := (L.take k).map f ++ L.drop k
end Go.Proofs.YtlhfonhbbpbmpaaGreat

