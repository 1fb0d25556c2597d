/-
  The reference's keys of subscripts: l02Key, l02Put, PutSubs, KeyOf.
  The reference's keys: l02Put, PutSubs, KeyOf.
  Keys taken apart, in plain words: the two decoders give back what the encoder was given, and nothing else.
  The reference's decoder of subscripts: l02Num, l02Take.
  The reference's GetSubs and KeyPlace.
-/
import Derived.Test.YtanjmolgpkffoaaGreatDoorM2B
import Derived.Test.YtanjmolgpkffoaaGreatDoorM2A
namespace Go.Proofs.YtanjmolgpkffoaaGreatDoor
open Go.RowKit
set_option linter.unusedVariables false
set_option linter.unusedSimpArgs false

/-- The first m of eight bytes of a number, the highest first. -/
def beT (n : Nat) : Nat → List UInt8
  | 0 => []
  | m + 1 => beT n m ++ [UInt8.ofNat (n / 256 ^ (7 - m))]
def escB (c : UInt8) : List UInt8 := if c = 0 then [0, 255] else [c]
def escL (l : List UInt8) : List UInt8 := l.flatMap escB
def subKeyL (s : ByteArray) : List UInt8 := if canon s = true then 1 :: beT (numOf s + 1000000000000000000).toNat 8 else 2 :: (escL s.data.toList ++ [0, 0])
end Go.Proofs.YtanjmolgpkffoaaGreatDoor

namespace Go.Proofs.YtanjmolgpkffoaaGreatDoor
open Go.RowKit
set_option linter.unusedVariables false
set_option linter.unusedSimpArgs false

end Go.Proofs.YtanjmolgpkffoaaGreatDoor

namespace Go.Proofs.YtanjmolgpkffoaaGreatDoor
open Go.RowKit
set_option linter.unusedVariables false
set_option linter.unusedSimpArgs false

def beV (l : List UInt8) : Nat := l.foldl (fun n c => n * 256 + c.toNat) 0
def numTx (n : Int) : ByteArray := if n.natAbs ≤ 999999999999999999 then numText n else ⟨#[]⟩
def takeNum (lo hi : Nat) (l : List UInt8) : Option (ByteArray × List UInt8) :=
  if 8 ≤ l.length ∧ lo ≤ beV (l.take 8) ∧ beV (l.take 8) ≤ hi then some (numTx ((beV (l.take 8) : Int) - 1000000000000000000), l.drop 8) else none
/-- A string up to its end mark, and what is behind it. -/
def decS : List UInt8 → Option (List UInt8 × List UInt8)
  | [] => none
  | [_] => none
  | c :: d :: l => if c = 0 then (if d = 0 then some ([], l) else if d = 255 then (decS l).map fun p => (0 :: p.1, p.2) else none) else (decS (d :: l)).map fun p => (c :: p.1, p.2)
section
variable (s : ByteArray) {k : Nat}
end
/-- The string read so far, put ahead. -/
def ahead (O : List UInt8) (r : Option (List UInt8 × List UInt8)) : Option (List UInt8 × List UInt8) := r.map fun p => (O ++ p.1, p.2)
def takeSub (lo hi : Nat) : List UInt8 → Option (ByteArray × List UInt8)
  | [] => none
  | c :: l => if c = 1 then takeNum lo hi l else if c = 2 then (decS l).map fun p => (bs p.1, p.2) else none
/-- So many subscripts at most, taken one behind the other. -/
def decK (lo hi : Nat) : Nat → List ByteArray → List UInt8 → Option (List ByteArray × List UInt8)
  | 0, out, l => some (out, l)
  | n + 1, out, [] => some (out, [])
  | n + 1, out, c :: l => match takeSub lo hi (c :: l) with
    | none => none
    | some (t, r) => decK lo hi n (out ++ [t]) r
def subsOut (s : List UInt8) (left : Bool) : Option (List ByteArray × List UInt8) → Option (List ByteArray)
  | none => none
  | some (out, r) => if (left = true → r = []) ∧ subsB out = true ∧ out.flatMap subKeyL = s then some out else none
/-- The subscripts whose encoding a string is. -/
def getSubs (lo hi : Nat) (left : Bool) (s : List UInt8) : Option (List ByteArray) := subsOut s left (decK lo hi 5 [] s)
def subsOf (s : List UInt8) : Option (List ByteArray) := getSubs 1 1999999999999999999 true s
/-- What stands ahead of the first mark. -/
def headL (k : List UInt8) : List UInt8 := k.takeWhile (· != 1)
/-- The place whose key a string is. -/
def placeOf (k : ByteArray) : Option (ByteArray × List ByteArray) :=
  if (headL k.data.toList).length < k.size ∧ nameB (bs (headL k.data.toList)) = true then (subsOf (k.data.toList.drop ((headL k.data.toList).length + 1))).map fun l => (bs (headL k.data.toList), l) else none
def keyB (k : ByteArray) : Bool := (placeOf k).isSome
end Go.Proofs.YtanjmolgpkffoaaGreatDoor

namespace Go.Proofs.YtanjmolgpkffoaaGreatDoor
open Go.RowKit
set_option linter.unusedVariables false
set_option linter.unusedSimpArgs false

end Go.Proofs.YtanjmolgpkffoaaGreatDoor

namespace Go.Proofs.YtanjmolgpkffoaaGreatDoor
open Go.RowKit
set_option linter.unusedVariables false
set_option linter.unusedSimpArgs false

end Go.Proofs.YtanjmolgpkffoaaGreatDoor
