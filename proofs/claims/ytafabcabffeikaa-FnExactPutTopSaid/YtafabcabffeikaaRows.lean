/-
  No cell of these rows narrows 'for every input' (looked for: loops, veiled, ifaces, maps, wideKeys, modest, calm, conditions, laid).
  DERIVED. THE GIVEN ROWS OF THIS SEAT. 11 by the template 'for every input the law returns true; each argument reads behind the call as it read before'; 0 by the template 'total and deterministic' (their statements: YtafabcabffeikaaTotals.lean).
  GIVEN WITH THE SEED: the statements are not yours to turn. If you find one false, say at which input.
  Laid BY PROGRAM, IN A SANDBOX (cutbox-rows.mjs): the forced cells as the released guide's own fill.sh prints them over the translation f92794d1c61965ab… (all of the seat's roots in one cut). By AI agents, Wed Nov 11 2026. No macro, syntax, notation, axiom, sorry.
-/
import Derived.Test.YtafabcabffeikaaChecked
import GoSem.Claim
import GoSem.ClaimJoined
import GoSem.ClaimMapViews
import Derived.JoinedTies
import Derived.KernelRfl
namespace Go.Proofs.Ytafabcabffeikaa
/- THE CELL 'sum', in the pinned program and in every row, IS THE sha256 OF THE DUMP (.gsa) THAT YtafabcabffeikaaProg.lean LOADS. Nothing in Lean hashes anything: it is a label: what it is worth is what the hold of that sum in a sandbox is worth. -/
noncomputable def Try.pinned : Pinned := { name := "ytafabcabffeikaa", sum := "f92794d1c61965ab8090d1367cdbbb10fc931bff03134cfbed126eb6f48ca1dc", checked := Try.checked }
namespace Rows
def none {H : Type} : Left H := { results := [], args := [] }

/-- 'laws.FnExactTopOk': WHATEVER THE INPUT: true; the input reads as it did. -/
def fnExactTopOkSpec : ChangeSpec := { name := "fnExactTopOk", fn := fun _ => fun
  | [d] => { results := [.lit (.bool true)], args := [d] }
  | _ => none }
def fnExactTopOkRow : OpenClaim := { program := "ytafabcabffeikaa", sum := "f92794d1c61965ab8090d1367cdbbb10fc931bff03134cfbed126eb6f48ca1dc", func := "loop.example/g00874/laws.FnExactTopOk", spec := "fnExactTopOk", apart := false }
def FnExactTopOkSaid : Prop := fnExactTopOkRow.holds Try.pinned (OpenSpec.ofChange fnExactTopOkSpec)

/-- ITS FALSE NEIGHBOUR: 'it returns false'. Refute it at one input. -/
def fnExactTopOkWrong : ChangeSpec := { name := "fnExactTopOk", fn := fun _ => fun
  | [d] => { results := [.lit (.bool false)], args := [d] }
  | _ => none }
def FnExactTopOkWrongFalsely : Prop := fnExactTopOkRow.holds Try.pinned (OpenSpec.ofChange fnExactTopOkWrong)

/-- 'laws.FnExactDiskRead': WHATEVER THE INPUT: true; the input reads as it did. -/
def fnExactDiskReadSpec : ChangeSpec := { name := "fnExactDiskRead", fn := fun _ => fun
  | [d1, d2] => { results := [.lit (.bool true)], args := [d1, d2] }
  | _ => none }
def fnExactDiskReadRow : OpenClaim := { program := "ytafabcabffeikaa", sum := "f92794d1c61965ab8090d1367cdbbb10fc931bff03134cfbed126eb6f48ca1dc", func := "loop.example/g00874/laws.FnExactDiskRead", spec := "fnExactDiskRead", unfollowed := true, recurses := true, apart := false }
def FnExactDiskReadSaid : Prop := fnExactDiskReadRow.holds Try.pinned (OpenSpec.ofChange fnExactDiskReadSpec)

/-- ITS FALSE NEIGHBOUR: 'it returns false'. Refute it at one input. -/
def fnExactDiskReadWrong : ChangeSpec := { name := "fnExactDiskRead", fn := fun _ => fun
  | [d1, d2] => { results := [.lit (.bool false)], args := [d1, d2] }
  | _ => none }
def FnExactDiskReadWrongFalsely : Prop := fnExactDiskReadRow.holds Try.pinned (OpenSpec.ofChange fnExactDiskReadWrong)

/-- 'laws.FnExactDiskPut': WHATEVER THE INPUT: true; the input reads as it did. -/
def fnExactDiskPutSpec : ChangeSpec := { name := "fnExactDiskPut", fn := fun _ => fun
  | [d1, d2, d3] => { results := [.lit (.bool true)], args := [d1, d2, d3] }
  | _ => none }
def fnExactDiskPutRow : OpenClaim := { program := "ytafabcabffeikaa", sum := "f92794d1c61965ab8090d1367cdbbb10fc931bff03134cfbed126eb6f48ca1dc", func := "loop.example/g00874/laws.FnExactDiskPut", spec := "fnExactDiskPut", unfollowed := true, recurses := true, apart := false }
def FnExactDiskPutSaid : Prop := fnExactDiskPutRow.holds Try.pinned (OpenSpec.ofChange fnExactDiskPutSpec)

/-- ITS FALSE NEIGHBOUR: 'it returns false'. Refute it at one input. -/
def fnExactDiskPutWrong : ChangeSpec := { name := "fnExactDiskPut", fn := fun _ => fun
  | [d1, d2, d3] => { results := [.lit (.bool false)], args := [d1, d2, d3] }
  | _ => none }
def FnExactDiskPutWrongFalsely : Prop := fnExactDiskPutRow.holds Try.pinned (OpenSpec.ofChange fnExactDiskPutWrong)

/-- 'laws.FnExactNewDisk': WHATEVER THE INPUT: true; the input reads as it did. -/
def fnExactNewDiskSpec : ChangeSpec := { name := "fnExactNewDisk", fn := fun _ => fun
  | [d1, d2] => { results := [.lit (.bool true)], args := [d1, d2] }
  | _ => none }
def fnExactNewDiskRow : OpenClaim := { program := "ytafabcabffeikaa", sum := "f92794d1c61965ab8090d1367cdbbb10fc931bff03134cfbed126eb6f48ca1dc", func := "loop.example/g00874/laws.FnExactNewDisk", spec := "fnExactNewDisk", inPlace := ["internal/abi.NoEscape", "internal/bytealg.MakeNoZero"], apart := false }
def FnExactNewDiskSaid : Prop := fnExactNewDiskRow.holds Try.pinned (OpenSpec.ofChange fnExactNewDiskSpec)

/-- ITS FALSE NEIGHBOUR: 'it returns false'. Refute it at one input. -/
def fnExactNewDiskWrong : ChangeSpec := { name := "fnExactNewDisk", fn := fun _ => fun
  | [d1, d2] => { results := [.lit (.bool false)], args := [d1, d2] }
  | _ => none }
def FnExactNewDiskWrongFalsely : Prop := fnExactNewDiskRow.holds Try.pinned (OpenSpec.ofChange fnExactNewDiskWrong)

/-- 'laws.FnExactPutTop': WHATEVER THE INPUT: true; the input reads as it did. -/
def fnExactPutTopSpec : ChangeSpec := { name := "fnExactPutTop", fn := fun _ => fun
  | [d] => { results := [.lit (.bool true)], args := [d] }
  | _ => none }
def fnExactPutTopRow : OpenClaim := { program := "ytafabcabffeikaa", sum := "f92794d1c61965ab8090d1367cdbbb10fc931bff03134cfbed126eb6f48ca1dc", func := "loop.example/g00874/laws.FnExactPutTop", spec := "fnExactPutTop", inPlace := ["internal/abi.NoEscape", "internal/bytealg.MakeNoZero"], apart := false }
def FnExactPutTopSaid : Prop := fnExactPutTopRow.holds Try.pinned (OpenSpec.ofChange fnExactPutTopSpec)

/-- ITS FALSE NEIGHBOUR: 'it returns false'. Refute it at one input. -/
def fnExactPutTopWrong : ChangeSpec := { name := "fnExactPutTop", fn := fun _ => fun
  | [d] => { results := [.lit (.bool false)], args := [d] }
  | _ => none }
def FnExactPutTopWrongFalsely : Prop := fnExactPutTopRow.holds Try.pinned (OpenSpec.ofChange fnExactPutTopWrong)

/-- 'laws.FnExactDiskLoss': WHATEVER THE INPUT: true; the input reads as it did. -/
def fnExactDiskLossSpec : ChangeSpec := { name := "fnExactDiskLoss", fn := fun _ => fun
  | [d1, d2, d3] => { results := [.lit (.bool true)], args := [d1, d2, d3] }
  | _ => none }
def fnExactDiskLossRow : OpenClaim := { program := "ytafabcabffeikaa", sum := "f92794d1c61965ab8090d1367cdbbb10fc931bff03134cfbed126eb6f48ca1dc", func := "loop.example/g00874/laws.FnExactDiskLoss", spec := "fnExactDiskLoss", unfollowed := true, recurses := true, apart := false }
def FnExactDiskLossSaid : Prop := fnExactDiskLossRow.holds Try.pinned (OpenSpec.ofChange fnExactDiskLossSpec)

/-- ITS FALSE NEIGHBOUR: 'it returns false'. Refute it at one input. -/
def fnExactDiskLossWrong : ChangeSpec := { name := "fnExactDiskLoss", fn := fun _ => fun
  | [d1, d2, d3] => { results := [.lit (.bool false)], args := [d1, d2, d3] }
  | _ => none }
def FnExactDiskLossWrongFalsely : Prop := fnExactDiskLossRow.holds Try.pinned (OpenSpec.ofChange fnExactDiskLossWrong)

/-- 'laws.FnExactFlushJournal': WHATEVER THE INPUT: true; the input reads as it did. -/
def fnExactFlushJournalSpec : ChangeSpec := { name := "fnExactFlushJournal", fn := fun _ => fun
  | [d] => { results := [.lit (.bool true)], args := [d] }
  | _ => none }
def fnExactFlushJournalRow : OpenClaim := { program := "ytafabcabffeikaa", sum := "f92794d1c61965ab8090d1367cdbbb10fc931bff03134cfbed126eb6f48ca1dc", func := "loop.example/g00874/laws.FnExactFlushJournal", spec := "fnExactFlushJournal", unfollowed := true, recurses := true, apart := false }
def FnExactFlushJournalSaid : Prop := fnExactFlushJournalRow.holds Try.pinned (OpenSpec.ofChange fnExactFlushJournalSpec)

/-- ITS FALSE NEIGHBOUR: 'it returns false'. Refute it at one input. -/
def fnExactFlushJournalWrong : ChangeSpec := { name := "fnExactFlushJournal", fn := fun _ => fun
  | [d] => { results := [.lit (.bool false)], args := [d] }
  | _ => none }
def FnExactFlushJournalWrongFalsely : Prop := fnExactFlushJournalRow.holds Try.pinned (OpenSpec.ofChange fnExactFlushJournalWrong)

/-- 'laws.FnExactResetJournal': WHATEVER THE INPUT: true; the input reads as it did. -/
def fnExactResetJournalSpec : ChangeSpec := { name := "fnExactResetJournal", fn := fun _ => fun
  | [d] => { results := [.lit (.bool true)], args := [d] }
  | _ => none }
def fnExactResetJournalRow : OpenClaim := { program := "ytafabcabffeikaa", sum := "f92794d1c61965ab8090d1367cdbbb10fc931bff03134cfbed126eb6f48ca1dc", func := "loop.example/g00874/laws.FnExactResetJournal", spec := "fnExactResetJournal", unfollowed := true, recurses := true, apart := false }
def FnExactResetJournalSaid : Prop := fnExactResetJournalRow.holds Try.pinned (OpenSpec.ofChange fnExactResetJournalSpec)

/-- ITS FALSE NEIGHBOUR: 'it returns false'. Refute it at one input. -/
def fnExactResetJournalWrong : ChangeSpec := { name := "fnExactResetJournal", fn := fun _ => fun
  | [d] => { results := [.lit (.bool false)], args := [d] }
  | _ => none }
def FnExactResetJournalWrongFalsely : Prop := fnExactResetJournalRow.holds Try.pinned (OpenSpec.ofChange fnExactResetJournalWrong)

/-- 'laws.FnExactNewJournal': WHATEVER THE INPUT: true; the input reads as it did. -/
def fnExactNewJournalSpec : ChangeSpec := { name := "fnExactNewJournal", fn := fun _ => fun
  | [d] => { results := [.lit (.bool true)], args := [d] }
  | _ => none }
def fnExactNewJournalRow : OpenClaim := { program := "ytafabcabffeikaa", sum := "f92794d1c61965ab8090d1367cdbbb10fc931bff03134cfbed126eb6f48ca1dc", func := "loop.example/g00874/laws.FnExactNewJournal", spec := "fnExactNewJournal", inPlace := ["internal/abi.NoEscape", "internal/bytealg.MakeNoZero"], apart := false }
def FnExactNewJournalSaid : Prop := fnExactNewJournalRow.holds Try.pinned (OpenSpec.ofChange fnExactNewJournalSpec)

/-- ITS FALSE NEIGHBOUR: 'it returns false'. Refute it at one input. -/
def fnExactNewJournalWrong : ChangeSpec := { name := "fnExactNewJournal", fn := fun _ => fun
  | [d] => { results := [.lit (.bool false)], args := [d] }
  | _ => none }
def FnExactNewJournalWrongFalsely : Prop := fnExactNewJournalRow.holds Try.pinned (OpenSpec.ofChange fnExactNewJournalWrong)

/-- 'laws.FnExactSameReplica': WHATEVER THE INPUT: true; the input reads as it did. -/
def fnExactSameReplicaSpec : ChangeSpec := { name := "fnExactSameReplica", fn := fun _ => fun
  | [d1, d2] => { results := [.lit (.bool true)], args := [d1, d2] }
  | _ => none }
def fnExactSameReplicaRow : OpenClaim := { program := "ytafabcabffeikaa", sum := "f92794d1c61965ab8090d1367cdbbb10fc931bff03134cfbed126eb6f48ca1dc", func := "loop.example/g00874/laws.FnExactSameReplica", spec := "fnExactSameReplica", unfollowed := true, recurses := true, apart := false }
def FnExactSameReplicaSaid : Prop := fnExactSameReplicaRow.holds Try.pinned (OpenSpec.ofChange fnExactSameReplicaSpec)

/-- ITS FALSE NEIGHBOUR: 'it returns false'. Refute it at one input. -/
def fnExactSameReplicaWrong : ChangeSpec := { name := "fnExactSameReplica", fn := fun _ => fun
  | [d1, d2] => { results := [.lit (.bool false)], args := [d1, d2] }
  | _ => none }
def FnExactSameReplicaWrongFalsely : Prop := fnExactSameReplicaRow.holds Try.pinned (OpenSpec.ofChange fnExactSameReplicaWrong)

/-- 'laws.FnExactCacheOk': WHATEVER THE INPUT: true; the input reads as it did. -/
def fnExactCacheOkSpec : ChangeSpec := { name := "fnExactCacheOk", fn := fun _ => fun
  | [d] => { results := [.lit (.bool true)], args := [d] }
  | _ => none }
def fnExactCacheOkRow : OpenClaim := { program := "ytafabcabffeikaa", sum := "f92794d1c61965ab8090d1367cdbbb10fc931bff03134cfbed126eb6f48ca1dc", func := "loop.example/g00874/laws.FnExactCacheOk", spec := "fnExactCacheOk", unfollowed := true, recurses := true, apart := false }
def FnExactCacheOkSaid : Prop := fnExactCacheOkRow.holds Try.pinned (OpenSpec.ofChange fnExactCacheOkSpec)

/-- ITS FALSE NEIGHBOUR: 'it returns false'. Refute it at one input. -/
def fnExactCacheOkWrong : ChangeSpec := { name := "fnExactCacheOk", fn := fun _ => fun
  | [d] => { results := [.lit (.bool false)], args := [d] }
  | _ => none }
def FnExactCacheOkWrongFalsely : Prop := fnExactCacheOkRow.holds Try.pinned (OpenSpec.ofChange fnExactCacheOkWrong)

/- THE SECOND FORM. 'bulk': how many values and letters a reading holds, each counted each time it is reached (what is shared counts as often as it is met; a slice's spare places count too). A statement '..UptoSaid' is the law's where the arguments, and the package variables that the reading takes, are together of bulk at most 1048576: NARROWER than '..Said'. Prove '..Said' where nothing that the law and all that it calls make is longer than what came in: it says more and counts as full. Else prove '..UptoSaid'. A law counts once. -/
mutual
def uptoBulk {H : Type} : DataW H → Nat
  | .lit (.string bytes) => bytes.length + 1
  | .lit _ => 1
  | .nil => 1
  | .ptr d => uptoBulk d + 1
  | .slice elems spare => uptoBulkAll elems + uptoBulkAll spare + 1
  | .agg parts => uptoBulkAll parts + 1
  | .iface _ d => uptoBulk d + 1
  | .map entries => uptoBulkEntries entries + 1
  | .held _ => 1
def uptoBulkAll {H : Type} : List (DataW H) → Nat
  | [] => 0
  | d :: r => uptoBulk d + uptoBulkAll r
def uptoBulkEntries {H : Type} : List (Lit × DataW H) → Nat
  | [] => 0
  | x :: r => uptoBulkEntry x + uptoBulkEntries r
def uptoBulkEntry {H : Type} : Lit × DataW H → Nat
  | (.string bytes, d) => bytes.length + uptoBulk d + 1
  | (_, d) => uptoBulk d + 1
 end
def uptoSmall : (H : Type) → List (DataW H) → Bool := fun _ ds => decide (uptoBulkAll ds ≤ 1048576)
def OpenSpec.upto (s : _root_.Go.ChangeSpec) : _root_.Go.OpenSpec := { _root_.Go.OpenSpec.ofChange s with cond := some uptoSmall }

/-- 'laws.FnExactTopOk', WHERE WHAT IT READS IS OF BULK AT MOST 1048576: true; the input reads as it did. -/
def fnExactTopOkUptoRow : OpenClaim := { program := "ytafabcabffeikaa", sum := "f92794d1c61965ab8090d1367cdbbb10fc931bff03134cfbed126eb6f48ca1dc", func := "loop.example/g00874/laws.FnExactTopOk", spec := "fnExactTopOk", apart := false, narrowed := true }
def FnExactTopOkUptoSaid : Prop := fnExactTopOkUptoRow.holds Try.pinned (OpenSpec.upto fnExactTopOkSpec)

/-- 'laws.FnExactDiskRead', WHERE WHAT IT READS IS OF BULK AT MOST 1048576: true; the input reads as it did. -/
def fnExactDiskReadUptoRow : OpenClaim := { program := "ytafabcabffeikaa", sum := "f92794d1c61965ab8090d1367cdbbb10fc931bff03134cfbed126eb6f48ca1dc", func := "loop.example/g00874/laws.FnExactDiskRead", spec := "fnExactDiskRead", unfollowed := true, recurses := true, apart := false, narrowed := true }
def FnExactDiskReadUptoSaid : Prop := fnExactDiskReadUptoRow.holds Try.pinned (OpenSpec.upto fnExactDiskReadSpec)

/-- 'laws.FnExactDiskPut', WHERE WHAT IT READS IS OF BULK AT MOST 1048576: true; the input reads as it did. -/
def fnExactDiskPutUptoRow : OpenClaim := { program := "ytafabcabffeikaa", sum := "f92794d1c61965ab8090d1367cdbbb10fc931bff03134cfbed126eb6f48ca1dc", func := "loop.example/g00874/laws.FnExactDiskPut", spec := "fnExactDiskPut", unfollowed := true, recurses := true, apart := false, narrowed := true }
def FnExactDiskPutUptoSaid : Prop := fnExactDiskPutUptoRow.holds Try.pinned (OpenSpec.upto fnExactDiskPutSpec)

/-- 'laws.FnExactNewDisk', WHERE WHAT IT READS IS OF BULK AT MOST 1048576: true; the input reads as it did. -/
def fnExactNewDiskUptoRow : OpenClaim := { program := "ytafabcabffeikaa", sum := "f92794d1c61965ab8090d1367cdbbb10fc931bff03134cfbed126eb6f48ca1dc", func := "loop.example/g00874/laws.FnExactNewDisk", spec := "fnExactNewDisk", inPlace := ["internal/abi.NoEscape", "internal/bytealg.MakeNoZero"], apart := false, narrowed := true }
def FnExactNewDiskUptoSaid : Prop := fnExactNewDiskUptoRow.holds Try.pinned (OpenSpec.upto fnExactNewDiskSpec)

/-- 'laws.FnExactPutTop', WHERE WHAT IT READS IS OF BULK AT MOST 1048576: true; the input reads as it did. -/
def fnExactPutTopUptoRow : OpenClaim := { program := "ytafabcabffeikaa", sum := "f92794d1c61965ab8090d1367cdbbb10fc931bff03134cfbed126eb6f48ca1dc", func := "loop.example/g00874/laws.FnExactPutTop", spec := "fnExactPutTop", inPlace := ["internal/abi.NoEscape", "internal/bytealg.MakeNoZero"], apart := false, narrowed := true }
def FnExactPutTopUptoSaid : Prop := fnExactPutTopUptoRow.holds Try.pinned (OpenSpec.upto fnExactPutTopSpec)

/-- 'laws.FnExactDiskLoss', WHERE WHAT IT READS IS OF BULK AT MOST 1048576: true; the input reads as it did. -/
def fnExactDiskLossUptoRow : OpenClaim := { program := "ytafabcabffeikaa", sum := "f92794d1c61965ab8090d1367cdbbb10fc931bff03134cfbed126eb6f48ca1dc", func := "loop.example/g00874/laws.FnExactDiskLoss", spec := "fnExactDiskLoss", unfollowed := true, recurses := true, apart := false, narrowed := true }
def FnExactDiskLossUptoSaid : Prop := fnExactDiskLossUptoRow.holds Try.pinned (OpenSpec.upto fnExactDiskLossSpec)

/-- 'laws.FnExactFlushJournal', WHERE WHAT IT READS IS OF BULK AT MOST 1048576: true; the input reads as it did. -/
def fnExactFlushJournalUptoRow : OpenClaim := { program := "ytafabcabffeikaa", sum := "f92794d1c61965ab8090d1367cdbbb10fc931bff03134cfbed126eb6f48ca1dc", func := "loop.example/g00874/laws.FnExactFlushJournal", spec := "fnExactFlushJournal", unfollowed := true, recurses := true, apart := false, narrowed := true }
def FnExactFlushJournalUptoSaid : Prop := fnExactFlushJournalUptoRow.holds Try.pinned (OpenSpec.upto fnExactFlushJournalSpec)

/-- 'laws.FnExactResetJournal', WHERE WHAT IT READS IS OF BULK AT MOST 1048576: true; the input reads as it did. -/
def fnExactResetJournalUptoRow : OpenClaim := { program := "ytafabcabffeikaa", sum := "f92794d1c61965ab8090d1367cdbbb10fc931bff03134cfbed126eb6f48ca1dc", func := "loop.example/g00874/laws.FnExactResetJournal", spec := "fnExactResetJournal", unfollowed := true, recurses := true, apart := false, narrowed := true }
def FnExactResetJournalUptoSaid : Prop := fnExactResetJournalUptoRow.holds Try.pinned (OpenSpec.upto fnExactResetJournalSpec)

/-- 'laws.FnExactNewJournal', WHERE WHAT IT READS IS OF BULK AT MOST 1048576: true; the input reads as it did. -/
def fnExactNewJournalUptoRow : OpenClaim := { program := "ytafabcabffeikaa", sum := "f92794d1c61965ab8090d1367cdbbb10fc931bff03134cfbed126eb6f48ca1dc", func := "loop.example/g00874/laws.FnExactNewJournal", spec := "fnExactNewJournal", inPlace := ["internal/abi.NoEscape", "internal/bytealg.MakeNoZero"], apart := false, narrowed := true }
def FnExactNewJournalUptoSaid : Prop := fnExactNewJournalUptoRow.holds Try.pinned (OpenSpec.upto fnExactNewJournalSpec)

/-- 'laws.FnExactSameReplica', WHERE WHAT IT READS IS OF BULK AT MOST 1048576: true; the input reads as it did. -/
def fnExactSameReplicaUptoRow : OpenClaim := { program := "ytafabcabffeikaa", sum := "f92794d1c61965ab8090d1367cdbbb10fc931bff03134cfbed126eb6f48ca1dc", func := "loop.example/g00874/laws.FnExactSameReplica", spec := "fnExactSameReplica", unfollowed := true, recurses := true, apart := false, narrowed := true }
def FnExactSameReplicaUptoSaid : Prop := fnExactSameReplicaUptoRow.holds Try.pinned (OpenSpec.upto fnExactSameReplicaSpec)

/-- 'laws.FnExactCacheOk', WHERE WHAT IT READS IS OF BULK AT MOST 1048576: true; the input reads as it did. -/
def fnExactCacheOkUptoRow : OpenClaim := { program := "ytafabcabffeikaa", sum := "f92794d1c61965ab8090d1367cdbbb10fc931bff03134cfbed126eb6f48ca1dc", func := "loop.example/g00874/laws.FnExactCacheOk", spec := "fnExactCacheOk", unfollowed := true, recurses := true, apart := false, narrowed := true }
def FnExactCacheOkUptoSaid : Prop := fnExactCacheOkUptoRow.holds Try.pinned (OpenSpec.upto fnExactCacheOkSpec)

end Rows
end Go.Proofs.Ytafabcabffeikaa
