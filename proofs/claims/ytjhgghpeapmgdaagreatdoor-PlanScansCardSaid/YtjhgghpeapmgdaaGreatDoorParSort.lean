/-
  PARSE, PLAIN: sorted by insertion, or by merging: it is the same list. No program here.
-/
import Derived.Test.YtjhgghpeapmgdaaGreatDoorParSpec
namespace Go.Bk
open Go

end Go.Bk
