/-
  TOKENS AS CELLS.
-/
import Derived.Test.YtjhgghpeapmgdaaGreatDoorLexRef
import Derived.Test.YtjhgghpeapmgdaaGreatDoorMem
namespace Go.Bk
open Go

def tokCells (t : Tok) : List Value := [.int .i64 t.kind, .string (bs t.text), .int .i64 t.n, .int .i64 t.at']
theorem tokCells_len (t : Tok) : (tokCells t).length = 4 := rfl
end Go.Bk
