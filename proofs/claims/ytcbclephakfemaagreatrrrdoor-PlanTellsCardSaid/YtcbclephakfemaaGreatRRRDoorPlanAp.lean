/-
  APPEND OF ONE ROW TO ANOTHER.
-/
import Derived.Test.YtcbclephakfemaaGreatRRRDoorPlanSt
import Derived.Laws.OwnMore
namespace Go.Bk
open Go

section
variable {P : Program} {w : World}
end
end Go.Bk
