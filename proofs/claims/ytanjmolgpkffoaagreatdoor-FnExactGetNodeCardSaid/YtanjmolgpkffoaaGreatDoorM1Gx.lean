/-
  GetNode: both sides' contracts in the form of the law's walk.
-/
import Derived.Test.YtanjmolgpkffoaaGreatDoorM1G
import Derived.Test.YtanjmolgpkffoaaGreatDoorM1J
import Derived.Test.YtanjmolgpkffoaaGreatDoorM1Le
namespace Go.Proofs.YtanjmolgpkffoaaGreatDoor
open Go.RowKit
def getS (x : TTree) (l : ByteArray × List ByteArray) : ByteArray := if treeB x = true ∧ placeB l.1 l.2 = true ∧ hasN x l = true then valN x l else ⟨#[]⟩
def getB (x : TTree) (l : ByteArray × List ByteArray) : Bool := decide (treeB x = true ∧ placeB l.1 l.2 = true ∧ hasN x l = true)
theorem getV_eq (x : TTree) (l : ByteArray × List ByteArray) : getV x l = .tuple #[.string (getS x l), .bool (getB x l)] := by
  unfold getV getS getB
  by_cases h : treeB x = true ∧ placeB l.1 l.2 = true ∧ hasN x l = true
  · rw [if_pos h, if_pos h, decide_eq_true h]
  · rw [if_neg h, if_neg h, decide_eq_false h]
theorem csx_GetNode (v : Value) (x : TTree) (s : ByteArray) (B : Option Addr) (d : Nat) (ys : List ByteArray) (w : World) (h : AV shTree w v x) (hn : shTree.sz x ≤ 1048576) (hs : s.size ≤ maxLen) (hs2 : s.size ≤ 1048576) (k : SRW shS w B d ys) (hy : (shL shS).sz ys ≤ 1048576) :
    Calls Tryz.prog 13 #[v, .string s, .slice B ys.length d] w (RetV (.tuple #[.string (getS x (s, ys)), .bool (getB x (s, ys))]) w) := by
  rw [← getV_eq]
  exact cs_GetNode v x s B d ys w h hn hs hs2 k hy
theorem cix_GetNode (v : Value) (x : TTree) (s : ByteArray) (B : Option Addr) (d : Nat) (ys : List ByteArray) (w : World) (h : AV shTree w v x) (hn : shTree.sz x ≤ 1048576) (hs : s.size ≤ maxLen) (hs2 : s.size ≤ 1048576) (k : SRW shS w B d ys) (hy : (shL shS).sz ys ≤ 1048576) (htab : Tab w) :
    Calls Tryz.prog 16 #[v, .string s, .slice B ys.length d] w (RetV (.tuple #[.string (getS x (s, ys)), .bool (getB x (s, ys))]) w) := by
  rw [← getV_eq]
  exact ci_GetNode v x s B d ys w h hn hs hs2 k hy htab
end Go.Proofs.YtanjmolgpkffoaaGreatDoor
