/-
  PLAN, PLAIN: what the statements turn in a network makes it another one, or none. No program here.
-/
import Derived.Test.YtcbclephakfemaaGreatRRRDoorPlanNet
namespace Go.Bk
open Go

end Go.Bk
