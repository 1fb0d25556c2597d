/-
  No cell of these rows narrows 'for every input' (looked for: loops, veiled, ifaces, maps, wideKeys, modest, calm, conditions, laid).
  DERIVED. THE GIVEN ROWS OF THIS SEAT. 11 by the template 'for every input the law returns true; each argument reads behind the call as it read before'; 0 by the template 'total and deterministic' (their statements: YtaobkpaefelkkaaTotals.lean).
  GIVEN WITH THE SEED: the statements are not yours to turn. If you find one false, say at which input.
  Laid BY PROGRAM, IN A SANDBOX (cutbox-rows.mjs): the forced cells as the released guide's own fill.sh prints them over the translation 4f2e9244df73b879… (all of the seat's roots in one cut). By AI agents, Wed Nov 11 2026. No macro, syntax, notation, axiom, sorry.
-/
import Derived.Test.YtaobkpaefelkkaaChecked
import GoSem.Claim
import GoSem.ClaimJoined
import GoSem.ClaimMapViews
import Derived.JoinedTies
import Derived.KernelRfl
namespace Go.Proofs.Ytaobkpaefelkkaa
/- THE CELL 'sum', in the pinned program and in every row, IS THE sha256 OF THE DUMP (.gsa) THAT YtaobkpaefelkkaaProg.lean LOADS. Nothing in Lean hashes anything: it is a label: what it is worth is what the hold of that sum in a sandbox is worth. -/
noncomputable def Try.pinned : Pinned := { name := "ytaobkpaefelkkaa", sum := "4f2e9244df73b879c88dabc9a30e8d818fb2b434b52dc1f22747083fd3422871", checked := Try.checked }
namespace Rows
def none {H : Type} : Left H := { results := [], args := [] }

/-- 'laws.FnExactUnstamped': WHATEVER THE INPUT: true; the input reads as it did. -/
def fnExactUnstampedSpec : ChangeSpec := { name := "fnExactUnstamped", fn := fun _ => fun
  | [d1, d2] => { results := [.lit (.bool true)], args := [d1, d2] }
  | _ => none }
def fnExactUnstampedRow : OpenClaim := { program := "ytaobkpaefelkkaa", sum := "4f2e9244df73b879c88dabc9a30e8d818fb2b434b52dc1f22747083fd3422871", func := "loop.example/g00874/laws.FnExactUnstamped", spec := "fnExactUnstamped", apart := false }
def FnExactUnstampedSaid : Prop := fnExactUnstampedRow.holds Try.pinned (OpenSpec.ofChange fnExactUnstampedSpec)

/-- ITS FALSE NEIGHBOUR: 'it returns false'. Refute it at one input. -/
def fnExactUnstampedWrong : ChangeSpec := { name := "fnExactUnstamped", fn := fun _ => fun
  | [d1, d2] => { results := [.lit (.bool false)], args := [d1, d2] }
  | _ => none }
def FnExactUnstampedWrongFalsely : Prop := fnExactUnstampedRow.holds Try.pinned (OpenSpec.ofChange fnExactUnstampedWrong)

/-- 'laws.FnExactTopOk': WHATEVER THE INPUT: true; the input reads as it did. -/
def fnExactTopOkSpec : ChangeSpec := { name := "fnExactTopOk", fn := fun _ => fun
  | [d] => { results := [.lit (.bool true)], args := [d] }
  | _ => none }
def fnExactTopOkRow : OpenClaim := { program := "ytaobkpaefelkkaa", sum := "4f2e9244df73b879c88dabc9a30e8d818fb2b434b52dc1f22747083fd3422871", func := "loop.example/g00874/laws.FnExactTopOk", spec := "fnExactTopOk", apart := false }
def FnExactTopOkSaid : Prop := fnExactTopOkRow.holds Try.pinned (OpenSpec.ofChange fnExactTopOkSpec)

/-- ITS FALSE NEIGHBOUR: 'it returns false'. Refute it at one input. -/
def fnExactTopOkWrong : ChangeSpec := { name := "fnExactTopOk", fn := fun _ => fun
  | [d] => { results := [.lit (.bool false)], args := [d] }
  | _ => none }
def FnExactTopOkWrongFalsely : Prop := fnExactTopOkRow.holds Try.pinned (OpenSpec.ofChange fnExactTopOkWrong)

/-- 'laws.FnExactSameDisk': WHATEVER THE INPUT: true; the input reads as it did. -/
def fnExactSameDiskSpec : ChangeSpec := { name := "fnExactSameDisk", fn := fun _ => fun
  | [d1, d2] => { results := [.lit (.bool true)], args := [d1, d2] }
  | _ => none }
def fnExactSameDiskRow : OpenClaim := { program := "ytaobkpaefelkkaa", sum := "4f2e9244df73b879c88dabc9a30e8d818fb2b434b52dc1f22747083fd3422871", func := "loop.example/g00874/laws.FnExactSameDisk", spec := "fnExactSameDisk", apart := false }
def FnExactSameDiskSaid : Prop := fnExactSameDiskRow.holds Try.pinned (OpenSpec.ofChange fnExactSameDiskSpec)

/-- ITS FALSE NEIGHBOUR: 'it returns false'. Refute it at one input. -/
def fnExactSameDiskWrong : ChangeSpec := { name := "fnExactSameDisk", fn := fun _ => fun
  | [d1, d2] => { results := [.lit (.bool false)], args := [d1, d2] }
  | _ => none }
def FnExactSameDiskWrongFalsely : Prop := fnExactSameDiskRow.holds Try.pinned (OpenSpec.ofChange fnExactSameDiskWrong)

/-- 'laws.FnExactDiskOk': WHATEVER THE INPUT: true; the input reads as it did. -/
def fnExactDiskOkSpec : ChangeSpec := { name := "fnExactDiskOk", fn := fun _ => fun
  | [d] => { results := [.lit (.bool true)], args := [d] }
  | _ => none }
def fnExactDiskOkRow : OpenClaim := { program := "ytaobkpaefelkkaa", sum := "4f2e9244df73b879c88dabc9a30e8d818fb2b434b52dc1f22747083fd3422871", func := "loop.example/g00874/laws.FnExactDiskOk", spec := "fnExactDiskOk", unfollowed := true, recurses := true, apart := false }
def FnExactDiskOkSaid : Prop := fnExactDiskOkRow.holds Try.pinned (OpenSpec.ofChange fnExactDiskOkSpec)

/-- ITS FALSE NEIGHBOUR: 'it returns false'. Refute it at one input. -/
def fnExactDiskOkWrong : ChangeSpec := { name := "fnExactDiskOk", fn := fun _ => fun
  | [d] => { results := [.lit (.bool false)], args := [d] }
  | _ => none }
def FnExactDiskOkWrongFalsely : Prop := fnExactDiskOkRow.holds Try.pinned (OpenSpec.ofChange fnExactDiskOkWrong)

/-- 'laws.FnExactStamped': WHATEVER THE INPUT: true; the input reads as it did. -/
def fnExactStampedSpec : ChangeSpec := { name := "fnExactStamped", fn := fun _ => fun
  | [d1, d2, d3] => { results := [.lit (.bool true)], args := [d1, d2, d3] }
  | _ => none }
def fnExactStampedRow : OpenClaim := { program := "ytaobkpaefelkkaa", sum := "4f2e9244df73b879c88dabc9a30e8d818fb2b434b52dc1f22747083fd3422871", func := "loop.example/g00874/laws.FnExactStamped", spec := "fnExactStamped", inPlace := ["internal/abi.NoEscape", "internal/bytealg.MakeNoZero"], apart := false }
def FnExactStampedSaid : Prop := fnExactStampedRow.holds Try.pinned (OpenSpec.ofChange fnExactStampedSpec)

/-- ITS FALSE NEIGHBOUR: 'it returns false'. Refute it at one input. -/
def fnExactStampedWrong : ChangeSpec := { name := "fnExactStamped", fn := fun _ => fun
  | [d1, d2, d3] => { results := [.lit (.bool false)], args := [d1, d2, d3] }
  | _ => none }
def FnExactStampedWrongFalsely : Prop := fnExactStampedRow.holds Try.pinned (OpenSpec.ofChange fnExactStampedWrong)

/-- 'laws.FnExactNewBtree': WHATEVER THE INPUT: true; the input reads as it did. -/
def fnExactNewBtreeSpec : ChangeSpec := { name := "fnExactNewBtree", fn := fun _ => fun
  | [] => { results := [.lit (.bool true)], args := [] }
  | _ => none }
def fnExactNewBtreeRow : OpenClaim := { program := "ytaobkpaefelkkaa", sum := "4f2e9244df73b879c88dabc9a30e8d818fb2b434b52dc1f22747083fd3422871", func := "loop.example/g00874/laws.FnExactNewBtree", spec := "fnExactNewBtree", apart := false }
def FnExactNewBtreeSaid : Prop := fnExactNewBtreeRow.holds Try.pinned (OpenSpec.ofChange fnExactNewBtreeSpec)

/-- ITS FALSE NEIGHBOUR: 'it returns false'. Refute it at one input. -/
def fnExactNewBtreeWrong : ChangeSpec := { name := "fnExactNewBtree", fn := fun _ => fun
  | [] => { results := [.lit (.bool false)], args := [] }
  | _ => none }
def FnExactNewBtreeWrongFalsely : Prop := fnExactNewBtreeRow.holds Try.pinned (OpenSpec.ofChange fnExactNewBtreeWrong)

/-- 'laws.FnExactDiskRead': WHATEVER THE INPUT: true; the input reads as it did. -/
def fnExactDiskReadSpec : ChangeSpec := { name := "fnExactDiskRead", fn := fun _ => fun
  | [d1, d2] => { results := [.lit (.bool true)], args := [d1, d2] }
  | _ => none }
def fnExactDiskReadRow : OpenClaim := { program := "ytaobkpaefelkkaa", sum := "4f2e9244df73b879c88dabc9a30e8d818fb2b434b52dc1f22747083fd3422871", func := "loop.example/g00874/laws.FnExactDiskRead", spec := "fnExactDiskRead", unfollowed := true, recurses := true, apart := false }
def FnExactDiskReadSaid : Prop := fnExactDiskReadRow.holds Try.pinned (OpenSpec.ofChange fnExactDiskReadSpec)

/-- ITS FALSE NEIGHBOUR: 'it returns false'. Refute it at one input. -/
def fnExactDiskReadWrong : ChangeSpec := { name := "fnExactDiskRead", fn := fun _ => fun
  | [d1, d2] => { results := [.lit (.bool false)], args := [d1, d2] }
  | _ => none }
def FnExactDiskReadWrongFalsely : Prop := fnExactDiskReadRow.holds Try.pinned (OpenSpec.ofChange fnExactDiskReadWrong)

/-- 'laws.FnExactJournalOk': WHATEVER THE INPUT: true; the input reads as it did. -/
def fnExactJournalOkSpec : ChangeSpec := { name := "fnExactJournalOk", fn := fun _ => fun
  | [d] => { results := [.lit (.bool true)], args := [d] }
  | _ => none }
def fnExactJournalOkRow : OpenClaim := { program := "ytaobkpaefelkkaa", sum := "4f2e9244df73b879c88dabc9a30e8d818fb2b434b52dc1f22747083fd3422871", func := "loop.example/g00874/laws.FnExactJournalOk", spec := "fnExactJournalOk", unfollowed := true, recurses := true, apart := false }
def FnExactJournalOkSaid : Prop := fnExactJournalOkRow.holds Try.pinned (OpenSpec.ofChange fnExactJournalOkSpec)

/-- ITS FALSE NEIGHBOUR: 'it returns false'. Refute it at one input. -/
def fnExactJournalOkWrong : ChangeSpec := { name := "fnExactJournalOk", fn := fun _ => fun
  | [d] => { results := [.lit (.bool false)], args := [d] }
  | _ => none }
def FnExactJournalOkWrongFalsely : Prop := fnExactJournalOkRow.holds Try.pinned (OpenSpec.ofChange fnExactJournalOkWrong)

/-- 'laws.FnExactSameBtree': WHATEVER THE INPUT: true; the input reads as it did. -/
def fnExactSameBtreeSpec : ChangeSpec := { name := "fnExactSameBtree", fn := fun _ => fun
  | [d1, d2] => { results := [.lit (.bool true)], args := [d1, d2] }
  | _ => none }
def fnExactSameBtreeRow : OpenClaim := { program := "ytaobkpaefelkkaa", sum := "4f2e9244df73b879c88dabc9a30e8d818fb2b434b52dc1f22747083fd3422871", func := "loop.example/g00874/laws.FnExactSameBtree", spec := "fnExactSameBtree", unfollowed := true, recurses := true, apart := false }
def FnExactSameBtreeSaid : Prop := fnExactSameBtreeRow.holds Try.pinned (OpenSpec.ofChange fnExactSameBtreeSpec)

/-- ITS FALSE NEIGHBOUR: 'it returns false'. Refute it at one input. -/
def fnExactSameBtreeWrong : ChangeSpec := { name := "fnExactSameBtree", fn := fun _ => fun
  | [d1, d2] => { results := [.lit (.bool false)], args := [d1, d2] }
  | _ => none }
def FnExactSameBtreeWrongFalsely : Prop := fnExactSameBtreeRow.holds Try.pinned (OpenSpec.ofChange fnExactSameBtreeWrong)

/-- 'laws.FnExactDiskFlush': WHATEVER THE INPUT: true; the input reads as it did. -/
def fnExactDiskFlushSpec : ChangeSpec := { name := "fnExactDiskFlush", fn := fun _ => fun
  | [d] => { results := [.lit (.bool true)], args := [d] }
  | _ => none }
def fnExactDiskFlushRow : OpenClaim := { program := "ytaobkpaefelkkaa", sum := "4f2e9244df73b879c88dabc9a30e8d818fb2b434b52dc1f22747083fd3422871", func := "loop.example/g00874/laws.FnExactDiskFlush", spec := "fnExactDiskFlush", unfollowed := true, recurses := true, apart := false }
def FnExactDiskFlushSaid : Prop := fnExactDiskFlushRow.holds Try.pinned (OpenSpec.ofChange fnExactDiskFlushSpec)

/-- ITS FALSE NEIGHBOUR: 'it returns false'. Refute it at one input. -/
def fnExactDiskFlushWrong : ChangeSpec := { name := "fnExactDiskFlush", fn := fun _ => fun
  | [d] => { results := [.lit (.bool false)], args := [d] }
  | _ => none }
def FnExactDiskFlushWrongFalsely : Prop := fnExactDiskFlushRow.holds Try.pinned (OpenSpec.ofChange fnExactDiskFlushWrong)

/-- 'laws.FnExactDiskRot': WHATEVER THE INPUT: true; the input reads as it did. -/
def fnExactDiskRotSpec : ChangeSpec := { name := "fnExactDiskRot", fn := fun _ => fun
  | [d1, d2, d3, d4] => { results := [.lit (.bool true)], args := [d1, d2, d3, d4] }
  | _ => none }
def fnExactDiskRotRow : OpenClaim := { program := "ytaobkpaefelkkaa", sum := "4f2e9244df73b879c88dabc9a30e8d818fb2b434b52dc1f22747083fd3422871", func := "loop.example/g00874/laws.FnExactDiskRot", spec := "fnExactDiskRot", unfollowed := true, recurses := true, apart := false }
def FnExactDiskRotSaid : Prop := fnExactDiskRotRow.holds Try.pinned (OpenSpec.ofChange fnExactDiskRotSpec)

/-- ITS FALSE NEIGHBOUR: 'it returns false'. Refute it at one input. -/
def fnExactDiskRotWrong : ChangeSpec := { name := "fnExactDiskRot", fn := fun _ => fun
  | [d1, d2, d3, d4] => { results := [.lit (.bool false)], args := [d1, d2, d3, d4] }
  | _ => none }
def FnExactDiskRotWrongFalsely : Prop := fnExactDiskRotRow.holds Try.pinned (OpenSpec.ofChange fnExactDiskRotWrong)

/- THE SECOND FORM. 'bulk': how many values and letters a reading holds, each counted each time it is reached (what is shared counts as often as it is met; a slice's spare places count too). A statement '..UptoSaid' is the law's where the arguments, and the package variables that the reading takes, are together of bulk at most 1048576: NARROWER than '..Said'. Prove '..Said' where nothing that the law and all that it calls make is longer than what came in: it says more and counts as full. Else prove '..UptoSaid'. A law counts once. -/
mutual
def uptoBulk {H : Type} : DataW H → Nat
  | .lit (.string bytes) => bytes.length + 1
  | .lit _ => 1
  | .nil => 1
  | .ptr d => uptoBulk d + 1
  | .slice elems spare => uptoBulkAll elems + uptoBulkAll spare + 1
  | .agg parts => uptoBulkAll parts + 1
  | .iface _ d => uptoBulk d + 1
  | .map entries => uptoBulkEntries entries + 1
  | .held _ => 1
def uptoBulkAll {H : Type} : List (DataW H) → Nat
  | [] => 0
  | d :: r => uptoBulk d + uptoBulkAll r
def uptoBulkEntries {H : Type} : List (Lit × DataW H) → Nat
  | [] => 0
  | x :: r => uptoBulkEntry x + uptoBulkEntries r
def uptoBulkEntry {H : Type} : Lit × DataW H → Nat
  | (.string bytes, d) => bytes.length + uptoBulk d + 1
  | (_, d) => uptoBulk d + 1
 end
def uptoSmall : (H : Type) → List (DataW H) → Bool := fun _ ds => decide (uptoBulkAll ds ≤ 1048576)
def OpenSpec.upto (s : _root_.Go.ChangeSpec) : _root_.Go.OpenSpec := { _root_.Go.OpenSpec.ofChange s with cond := some uptoSmall }

/-- 'laws.FnExactUnstamped', WHERE WHAT IT READS IS OF BULK AT MOST 1048576: true; the input reads as it did. -/
def fnExactUnstampedUptoRow : OpenClaim := { program := "ytaobkpaefelkkaa", sum := "4f2e9244df73b879c88dabc9a30e8d818fb2b434b52dc1f22747083fd3422871", func := "loop.example/g00874/laws.FnExactUnstamped", spec := "fnExactUnstamped", apart := false, narrowed := true }
def FnExactUnstampedUptoSaid : Prop := fnExactUnstampedUptoRow.holds Try.pinned (OpenSpec.upto fnExactUnstampedSpec)

/-- 'laws.FnExactTopOk', WHERE WHAT IT READS IS OF BULK AT MOST 1048576: true; the input reads as it did. -/
def fnExactTopOkUptoRow : OpenClaim := { program := "ytaobkpaefelkkaa", sum := "4f2e9244df73b879c88dabc9a30e8d818fb2b434b52dc1f22747083fd3422871", func := "loop.example/g00874/laws.FnExactTopOk", spec := "fnExactTopOk", apart := false, narrowed := true }
def FnExactTopOkUptoSaid : Prop := fnExactTopOkUptoRow.holds Try.pinned (OpenSpec.upto fnExactTopOkSpec)

/-- 'laws.FnExactSameDisk', WHERE WHAT IT READS IS OF BULK AT MOST 1048576: true; the input reads as it did. -/
def fnExactSameDiskUptoRow : OpenClaim := { program := "ytaobkpaefelkkaa", sum := "4f2e9244df73b879c88dabc9a30e8d818fb2b434b52dc1f22747083fd3422871", func := "loop.example/g00874/laws.FnExactSameDisk", spec := "fnExactSameDisk", apart := false, narrowed := true }
def FnExactSameDiskUptoSaid : Prop := fnExactSameDiskUptoRow.holds Try.pinned (OpenSpec.upto fnExactSameDiskSpec)

/-- 'laws.FnExactDiskOk', WHERE WHAT IT READS IS OF BULK AT MOST 1048576: true; the input reads as it did. -/
def fnExactDiskOkUptoRow : OpenClaim := { program := "ytaobkpaefelkkaa", sum := "4f2e9244df73b879c88dabc9a30e8d818fb2b434b52dc1f22747083fd3422871", func := "loop.example/g00874/laws.FnExactDiskOk", spec := "fnExactDiskOk", unfollowed := true, recurses := true, apart := false, narrowed := true }
def FnExactDiskOkUptoSaid : Prop := fnExactDiskOkUptoRow.holds Try.pinned (OpenSpec.upto fnExactDiskOkSpec)

/-- 'laws.FnExactStamped', WHERE WHAT IT READS IS OF BULK AT MOST 1048576: true; the input reads as it did. -/
def fnExactStampedUptoRow : OpenClaim := { program := "ytaobkpaefelkkaa", sum := "4f2e9244df73b879c88dabc9a30e8d818fb2b434b52dc1f22747083fd3422871", func := "loop.example/g00874/laws.FnExactStamped", spec := "fnExactStamped", inPlace := ["internal/abi.NoEscape", "internal/bytealg.MakeNoZero"], apart := false, narrowed := true }
def FnExactStampedUptoSaid : Prop := fnExactStampedUptoRow.holds Try.pinned (OpenSpec.upto fnExactStampedSpec)

/-- 'laws.FnExactNewBtree', WHERE WHAT IT READS IS OF BULK AT MOST 1048576: true; the input reads as it did. -/
def fnExactNewBtreeUptoRow : OpenClaim := { program := "ytaobkpaefelkkaa", sum := "4f2e9244df73b879c88dabc9a30e8d818fb2b434b52dc1f22747083fd3422871", func := "loop.example/g00874/laws.FnExactNewBtree", spec := "fnExactNewBtree", apart := false, narrowed := true }
def FnExactNewBtreeUptoSaid : Prop := fnExactNewBtreeUptoRow.holds Try.pinned (OpenSpec.upto fnExactNewBtreeSpec)

/-- 'laws.FnExactDiskRead', WHERE WHAT IT READS IS OF BULK AT MOST 1048576: true; the input reads as it did. -/
def fnExactDiskReadUptoRow : OpenClaim := { program := "ytaobkpaefelkkaa", sum := "4f2e9244df73b879c88dabc9a30e8d818fb2b434b52dc1f22747083fd3422871", func := "loop.example/g00874/laws.FnExactDiskRead", spec := "fnExactDiskRead", unfollowed := true, recurses := true, apart := false, narrowed := true }
def FnExactDiskReadUptoSaid : Prop := fnExactDiskReadUptoRow.holds Try.pinned (OpenSpec.upto fnExactDiskReadSpec)

/-- 'laws.FnExactJournalOk', WHERE WHAT IT READS IS OF BULK AT MOST 1048576: true; the input reads as it did. -/
def fnExactJournalOkUptoRow : OpenClaim := { program := "ytaobkpaefelkkaa", sum := "4f2e9244df73b879c88dabc9a30e8d818fb2b434b52dc1f22747083fd3422871", func := "loop.example/g00874/laws.FnExactJournalOk", spec := "fnExactJournalOk", unfollowed := true, recurses := true, apart := false, narrowed := true }
def FnExactJournalOkUptoSaid : Prop := fnExactJournalOkUptoRow.holds Try.pinned (OpenSpec.upto fnExactJournalOkSpec)

/-- 'laws.FnExactSameBtree', WHERE WHAT IT READS IS OF BULK AT MOST 1048576: true; the input reads as it did. -/
def fnExactSameBtreeUptoRow : OpenClaim := { program := "ytaobkpaefelkkaa", sum := "4f2e9244df73b879c88dabc9a30e8d818fb2b434b52dc1f22747083fd3422871", func := "loop.example/g00874/laws.FnExactSameBtree", spec := "fnExactSameBtree", unfollowed := true, recurses := true, apart := false, narrowed := true }
def FnExactSameBtreeUptoSaid : Prop := fnExactSameBtreeUptoRow.holds Try.pinned (OpenSpec.upto fnExactSameBtreeSpec)

/-- 'laws.FnExactDiskFlush', WHERE WHAT IT READS IS OF BULK AT MOST 1048576: true; the input reads as it did. -/
def fnExactDiskFlushUptoRow : OpenClaim := { program := "ytaobkpaefelkkaa", sum := "4f2e9244df73b879c88dabc9a30e8d818fb2b434b52dc1f22747083fd3422871", func := "loop.example/g00874/laws.FnExactDiskFlush", spec := "fnExactDiskFlush", unfollowed := true, recurses := true, apart := false, narrowed := true }
def FnExactDiskFlushUptoSaid : Prop := fnExactDiskFlushUptoRow.holds Try.pinned (OpenSpec.upto fnExactDiskFlushSpec)

/-- 'laws.FnExactDiskRot', WHERE WHAT IT READS IS OF BULK AT MOST 1048576: true; the input reads as it did. -/
def fnExactDiskRotUptoRow : OpenClaim := { program := "ytaobkpaefelkkaa", sum := "4f2e9244df73b879c88dabc9a30e8d818fb2b434b52dc1f22747083fd3422871", func := "loop.example/g00874/laws.FnExactDiskRot", spec := "fnExactDiskRot", unfollowed := true, recurses := true, apart := false, narrowed := true }
def FnExactDiskRotUptoSaid : Prop := fnExactDiskRotUptoRow.holds Try.pinned (OpenSpec.upto fnExactDiskRotSpec)

end Rows
end Go.Proofs.Ytaobkpaefelkkaa
