/- An operation of a region that is written out. -/
import Derived.Test.YtgdchcaglkeghaaBytes
import Derived.Deep.RegionHeld3
import Derived.Deep.DrawnRows
namespace Go.Proofs.Ytgdchcaglkeghaa
theorem op_at {pre post : List Oper} {o : Oper} : ((pre ++ o :: post).toArray)[pre.length]? = some o := by simp
end Go.Proofs.Ytgdchcaglkeghaa
