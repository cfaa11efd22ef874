/-
  PARSE, PLAIN: the first calls, whose answers are fixed. No program here.
-/
import Derived.Test.YtjhgghpeapmgdaaGreatDoorParToks
namespace Go.Bk
open Go

theorem parseT_eq (s : Bytes) : parseT s = parseToks (lexC s) := by unfold parseT; rw [lexT_eq]
theorem awp1 : parseT [112, 114, 111, 116, 111, 99, 111, 108, 32, 118, 101, 99, 116, 111, 114, 59, 32, 102, 97, 105, 108, 117, 114, 101, 115, 32, 48, 59, 32, 110, 111, 100, 101, 32, 97, 32, 49, 59, 32, 108, 105, 110, 107, 32, 97, 32, 97, 32, 49, 59] = (noPlan, 43, 46) := by
  rw [parseT_eq]; decide +kernel
def awPar : PPlan := ⟨2, 3, 1, [⟨[98], 7⟩, ⟨[97], 9⟩], [⟨0, 1, 2⟩], [⟨[120], [0, 1]⟩], [⟨4, 1, 0, 0, 0⟩]⟩
theorem awp2 : parseT [112, 114, 111, 116, 111, 99, 111, 108, 32, 112, 97, 116, 104, 32, 51, 59, 32, 102, 97, 105, 108, 117, 114, 101, 115, 32, 49, 59, 32, 110, 111, 100, 101, 32, 98, 32, 55, 59, 32, 110, 111, 100, 101, 32, 97, 32, 57, 59, 32, 108, 105, 110, 107, 32, 97, 32, 98, 32, 50, 59, 32, 100, 101, 115, 116, 32, 120, 32, 97, 116, 32, 97, 32, 98, 59, 32, 99, 104, 101, 99, 107, 32, 101, 113, 117, 97, 108, 32, 97, 32, 98, 32, 120, 59] = (awPar, 0, 0) := by
  rw [parseT_eq]; decide +kernel
theorem itoaC {n : Int} (h0 : 0 ≤ n) (h1 : n < 100) : Lib.itoa n = decC n.toNat := by
  rw [itoa_nat h0, decC_eq (by omega)]
theorem awp3 : printB awPar = ([112, 114, 111, 116, 111, 99, 111, 108, 32, 112, 97, 116, 104, 32, 51, 59, 10, 102, 97, 105, 108, 117, 114, 101, 115, 32, 49, 59, 10, 110, 111, 100, 101, 32, 98, 32, 55, 59, 10, 110, 111, 100, 101, 32, 97, 32, 57, 59, 10, 108, 105, 110, 107, 32, 98, 32, 97, 32, 50, 59, 10, 100, 101, 115, 116, 32, 120, 32, 97, 116, 32, 98, 32, 97, 59, 10, 99, 104, 101, 99, 107, 32, 101, 113, 117, 97, 108, 32, 97, 32, 98, 32, 120, 59, 10], 0) := by
  unfold printB
  rw [if_pos (by decide +kernel)]
  have e : printT awPar = lineW [wdProtocol, wdPath, Lib.itoa 3] ++ lineW [wdFailures, Lib.itoa 1] ++ (lineW [wdNode, [98], Lib.itoa 7] ++ (lineW [wdNode, [97], Lib.itoa 9] ++ [])) ++ (lineW [wdLink, [98], [97], Lib.itoa 2] ++ []) ++ (lineW ([wdDest, [120], wdAt] ++ [[98], [97]]) ++ []) ++ (lineW [wdCheck, wdEqual, [97], [98], [120]] ++ []) := rfl
  rw [e, itoaC (n := 3) (by decide) (by decide), itoaC (n := 1) (by decide) (by decide), itoaC (n := 7) (by decide) (by decide), itoaC (n := 9) (by decide) (by decide), itoaC (n := 2) (by decide) (by decide)]
  decide +kernel
end Go.Bk
