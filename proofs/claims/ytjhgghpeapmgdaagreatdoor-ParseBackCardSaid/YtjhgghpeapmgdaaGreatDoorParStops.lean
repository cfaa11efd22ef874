/-
  PARSE: how many stops a network's text has.
-/
import Derived.Test.YtjhgghpeapmgdaaGreatDoorMg5
namespace Go.Proofs.YtjhgghpeapmgdaaGreatDoor
open Go.Bk Go.Proofs
theorem printB_right {p : PPlan} (hR : RightP p) : printB p = (printT p,0) := by unfold printB; rw [if_pos (rightB_iff.2 hR)]
end Go.Proofs.YtjhgghpeapmgdaaGreatDoor
