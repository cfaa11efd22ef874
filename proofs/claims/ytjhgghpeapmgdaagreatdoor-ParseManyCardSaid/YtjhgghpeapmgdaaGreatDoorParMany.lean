/-
  PARSE, PLAIN: so many nodes and checks. No program here.
-/
import Derived.Test.YtjhgghpeapmgdaaGreatDoorParAw
namespace Go.Bk
open Go

def mHead : Bytes := [112, 114, 111, 116, 111, 99, 111, 108, 32, 118, 101, 99, 116, 111, 114, 59, 32, 102, 97, 105, 108, 117, 114, 101, 115, 32, 48, 59]
def mNode (j : Nat) : Bytes := [110, 111, 100, 101, 32, UInt8.ofNat (97 + j), 32, 49, 59]
def mDest : Bytes := [100, 101, 115, 116, 32, 120, 32, 97, 116, 32, 97, 59]
def mCheck : Bytes := [99, 104, 101, 99, 107, 32, 114, 101, 97, 99, 104, 32, 97, 32, 120, 59]
def mNodes (n : Nat) : Bytes := mHead ++ (List.range n).flatMap mNode
def mText (n c : Nat) : Bytes := mNodes n ++ mDest ++ (List.replicate c mCheck).flatten
def mAt (n c : Nat) : Int := if 12 < n then ((mNodes 12).length : Int) else if 16 < c then ((mText n 16).length : Int) else -1
def mOk (n c : Nat) : Bool := decide ((parseToks (lexC (mText n c))).2 = if 0 ≤ mAt n c then (44, mAt n c) else (0, 0))
theorem mok_all : ((List.range 12).all fun n => (List.range 18).all fun c => mOk (2 + n) c) = true := by decide +kernel
end Go.Bk
