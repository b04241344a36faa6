/-
  No cell of these rows narrows 'for every input' (looked for: loops, veiled, ifaces, maps, wideKeys, modest, calm, conditions, laid).
  DERIVED. THE GIVEN ROWS OF THIS SEAT. 9 by the template 'for every input the law returns true; each argument reads behind the call as it read before'; 0 by the template 'total and deterministic' (their statements: YtjliakjbdcplcaaTotals.lean).
  GIVEN WITH THE SEED: the statements are not yours to turn. If you find one false, say at which input.
  Laid BY PROGRAM, IN A SANDBOX (cutbox-rows.mjs): the forced cells as the released guide's own fill.sh prints them over the translation 0ccd9e6689417c36… (all of the seat's roots in one cut). By AI agents, Wed Nov 11 2026. No macro, syntax, notation, axiom, sorry.
-/
import Derived.Test.YtjliakjbdcplcaaChecked
import GoSem.Claim
import GoSem.ClaimJoined
import GoSem.ClaimMapViews
import Derived.JoinedTies
import Derived.KernelRfl
namespace Go.Proofs.Ytjliakjbdcplcaa
/- THE CELL 'sum', in the pinned program and in every row, IS THE sha256 OF THE DUMP (.gsa) THAT YtjliakjbdcplcaaProg.lean LOADS. Nothing in Lean hashes anything: it is a label: what it is worth is what the hold of that sum in a sandbox is worth. -/
noncomputable def Try.pinned : Pinned := { name := "ytjliakjbdcplcaa", sum := "0ccd9e6689417c365bbf2011527719fab82d08ab99b543bd615809b4e49c59af", checked := Try.checked }
namespace Rows
def none {H : Type} : Left H := { results := [], args := [] }

/-- 'fermatalaw19.RunMore': WHATEVER THE INPUT: true; the input reads as it did. -/
def runMoreSpec : ChangeSpec := { name := "runMore", fn := fun _ => fun
  | [d1, d2] => { results := [.lit (.bool true)], args := [d1, d2] }
  | _ => none }
def runMoreRow : OpenClaim := { program := "ytjliakjbdcplcaa", sum := "0ccd9e6689417c365bbf2011527719fab82d08ab99b543bd615809b4e49c59af", func := "fermata/fermatalaw19.RunMore", spec := "runMore", unfollowed := true, recurses := true, apart := false }
def RunMoreSaid : Prop := runMoreRow.holds Try.pinned (OpenSpec.ofChange runMoreSpec)

/-- ITS FALSE NEIGHBOUR: 'it returns false'. Refute it at one input. -/
def runMoreWrong : ChangeSpec := { name := "runMore", fn := fun _ => fun
  | [d1, d2] => { results := [.lit (.bool false)], args := [d1, d2] }
  | _ => none }
def RunMoreWrongFalsely : Prop := runMoreRow.holds Try.pinned (OpenSpec.ofChange runMoreWrong)

/-- 'fermatalaw19.RunCuts': WHATEVER THE INPUT: true; the input reads as it did. -/
def runCutsSpec : ChangeSpec := { name := "runCuts", fn := fun _ => fun
  | [d1, d2] => { results := [.lit (.bool true)], args := [d1, d2] }
  | _ => none }
def runCutsRow : OpenClaim := { program := "ytjliakjbdcplcaa", sum := "0ccd9e6689417c365bbf2011527719fab82d08ab99b543bd615809b4e49c59af", func := "fermata/fermatalaw19.RunCuts", spec := "runCuts", unfollowed := true, recurses := true, apart := false }
def RunCutsSaid : Prop := runCutsRow.holds Try.pinned (OpenSpec.ofChange runCutsSpec)

/-- ITS FALSE NEIGHBOUR: 'it returns false'. Refute it at one input. -/
def runCutsWrong : ChangeSpec := { name := "runCuts", fn := fun _ => fun
  | [d1, d2] => { results := [.lit (.bool false)], args := [d1, d2] }
  | _ => none }
def RunCutsWrongFalsely : Prop := runCutsRow.holds Try.pinned (OpenSpec.ofChange runCutsWrong)

/-- 'fermatalaw19.RunSends': WHATEVER THE INPUT: true; the input reads as it did. -/
def runSendsSpec : ChangeSpec := { name := "runSends", fn := fun _ => fun
  | [d] => { results := [.lit (.bool true)], args := [d] }
  | _ => none }
def runSendsRow : OpenClaim := { program := "ytjliakjbdcplcaa", sum := "0ccd9e6689417c365bbf2011527719fab82d08ab99b543bd615809b4e49c59af", func := "fermata/fermatalaw19.RunSends", spec := "runSends", unfollowed := true, recurses := true, apart := false }
def RunSendsSaid : Prop := runSendsRow.holds Try.pinned (OpenSpec.ofChange runSendsSpec)

/-- ITS FALSE NEIGHBOUR: 'it returns false'. Refute it at one input. -/
def runSendsWrong : ChangeSpec := { name := "runSends", fn := fun _ => fun
  | [d] => { results := [.lit (.bool false)], args := [d] }
  | _ => none }
def RunSendsWrongFalsely : Prop := runSendsRow.holds Try.pinned (OpenSpec.ofChange runSendsWrong)

/-- 'fermatalaw19.RunWrong': WHATEVER THE INPUT: true; the input reads as it did. -/
def runWrongSpec : ChangeSpec := { name := "runWrong", fn := fun _ => fun
  | [d1, d2, d3] => { results := [.lit (.bool true)], args := [d1, d2, d3] }
  | _ => none }
def runWrongRow : OpenClaim := { program := "ytjliakjbdcplcaa", sum := "0ccd9e6689417c365bbf2011527719fab82d08ab99b543bd615809b4e49c59af", func := "fermata/fermatalaw19.RunWrong", spec := "runWrong", unfollowed := true, recurses := true, apart := false }
def RunWrongSaid : Prop := runWrongRow.holds Try.pinned (OpenSpec.ofChange runWrongSpec)

/-- ITS FALSE NEIGHBOUR: 'it returns false'. Refute it at one input. -/
def runWrongWrong : ChangeSpec := { name := "runWrong", fn := fun _ => fun
  | [d1, d2, d3] => { results := [.lit (.bool false)], args := [d1, d2, d3] }
  | _ => none }
def RunWrongWrongFalsely : Prop := runWrongRow.holds Try.pinned (OpenSpec.ofChange runWrongWrong)

/-- 'fermatalaw28.ProcRuns': WHATEVER THE INPUT: true; the input reads as it did. -/
def procRunsSpec : ChangeSpec := { name := "procRuns", fn := fun _ => fun
  | [d] => { results := [.lit (.bool true)], args := [d] }
  | _ => none }
def procRunsRow : OpenClaim := { program := "ytjliakjbdcplcaa", sum := "0ccd9e6689417c365bbf2011527719fab82d08ab99b543bd615809b4e49c59af", func := "fermata/fermatalaw28.ProcRuns", spec := "procRuns", unfollowed := true, recurses := true, apart := false }
def ProcRunsSaid : Prop := procRunsRow.holds Try.pinned (OpenSpec.ofChange procRunsSpec)

/-- ITS FALSE NEIGHBOUR: 'it returns false'. Refute it at one input. -/
def procRunsWrong : ChangeSpec := { name := "procRuns", fn := fun _ => fun
  | [d] => { results := [.lit (.bool false)], args := [d] }
  | _ => none }
def ProcRunsWrongFalsely : Prop := procRunsRow.holds Try.pinned (OpenSpec.ofChange procRunsWrong)

/-- 'fermatalaw28.ProcParts': WHATEVER THE INPUT: true; the input reads as it did. -/
def procPartsSpec : ChangeSpec := { name := "procParts", fn := fun _ => fun
  | [d1, d2] => { results := [.lit (.bool true)], args := [d1, d2] }
  | _ => none }
def procPartsRow : OpenClaim := { program := "ytjliakjbdcplcaa", sum := "0ccd9e6689417c365bbf2011527719fab82d08ab99b543bd615809b4e49c59af", func := "fermata/fermatalaw28.ProcParts", spec := "procParts", unfollowed := true, recurses := true, apart := false }
def ProcPartsSaid : Prop := procPartsRow.holds Try.pinned (OpenSpec.ofChange procPartsSpec)

/-- ITS FALSE NEIGHBOUR: 'it returns false'. Refute it at one input. -/
def procPartsWrong : ChangeSpec := { name := "procParts", fn := fun _ => fun
  | [d1, d2] => { results := [.lit (.bool false)], args := [d1, d2] }
  | _ => none }
def ProcPartsWrongFalsely : Prop := procPartsRow.holds Try.pinned (OpenSpec.ofChange procPartsWrong)

/-- 'fermatalaw28.ProcSeqs': WHATEVER THE INPUT: true; the input reads as it did. -/
def procSeqsSpec : ChangeSpec := { name := "procSeqs", fn := fun _ => fun
  | [d1, d2, d3] => { results := [.lit (.bool true)], args := [d1, d2, d3] }
  | _ => none }
def procSeqsRow : OpenClaim := { program := "ytjliakjbdcplcaa", sum := "0ccd9e6689417c365bbf2011527719fab82d08ab99b543bd615809b4e49c59af", func := "fermata/fermatalaw28.ProcSeqs", spec := "procSeqs", unfollowed := true, recurses := true, apart := false }
def ProcSeqsSaid : Prop := procSeqsRow.holds Try.pinned (OpenSpec.ofChange procSeqsSpec)

/-- ITS FALSE NEIGHBOUR: 'it returns false'. Refute it at one input. -/
def procSeqsWrong : ChangeSpec := { name := "procSeqs", fn := fun _ => fun
  | [d1, d2, d3] => { results := [.lit (.bool false)], args := [d1, d2, d3] }
  | _ => none }
def ProcSeqsWrongFalsely : Prop := procSeqsRow.holds Try.pinned (OpenSpec.ofChange procSeqsWrong)

/-- 'fermatalaw28.ProcWrong': WHATEVER THE INPUT: true; the input reads as it did. -/
def procWrongSpec : ChangeSpec := { name := "procWrong", fn := fun _ => fun
  | [d1, d2, d3, d4] => { results := [.lit (.bool true)], args := [d1, d2, d3, d4] }
  | _ => none }
def procWrongRow : OpenClaim := { program := "ytjliakjbdcplcaa", sum := "0ccd9e6689417c365bbf2011527719fab82d08ab99b543bd615809b4e49c59af", func := "fermata/fermatalaw28.ProcWrong", spec := "procWrong", unfollowed := true, recurses := true, apart := false }
def ProcWrongSaid : Prop := procWrongRow.holds Try.pinned (OpenSpec.ofChange procWrongSpec)

/-- ITS FALSE NEIGHBOUR: 'it returns false'. Refute it at one input. -/
def procWrongWrong : ChangeSpec := { name := "procWrong", fn := fun _ => fun
  | [d1, d2, d3, d4] => { results := [.lit (.bool false)], args := [d1, d2, d3, d4] }
  | _ => none }
def ProcWrongWrongFalsely : Prop := procWrongRow.holds Try.pinned (OpenSpec.ofChange procWrongWrong)

/-- 'fermatalaw19.RunTraces': WHATEVER THE INPUT: true; the input reads as it did. -/
def runTracesSpec : ChangeSpec := { name := "runTraces", fn := fun _ => fun
  | [d] => { results := [.lit (.bool true)], args := [d] }
  | _ => none }
def runTracesRow : OpenClaim := { program := "ytjliakjbdcplcaa", sum := "0ccd9e6689417c365bbf2011527719fab82d08ab99b543bd615809b4e49c59af", func := "fermata/fermatalaw19.RunTraces", spec := "runTraces", unfollowed := true, recurses := true, apart := false }
def RunTracesSaid : Prop := runTracesRow.holds Try.pinned (OpenSpec.ofChange runTracesSpec)

/-- ITS FALSE NEIGHBOUR: 'it returns false'. Refute it at one input. -/
def runTracesWrong : ChangeSpec := { name := "runTraces", fn := fun _ => fun
  | [d] => { results := [.lit (.bool false)], args := [d] }
  | _ => none }
def RunTracesWrongFalsely : Prop := runTracesRow.holds Try.pinned (OpenSpec.ofChange runTracesWrong)

/- THE SECOND FORM. 'bulk': how many values and letters a reading holds, each counted each time it is reached (what is shared counts as often as it is met; a slice's spare places count too). A statement '..UptoSaid' is the law's where the arguments, and the package variables that the reading takes, are together of bulk at most 1048576: NARROWER than '..Said'. Prove '..Said' where nothing that the law and all that it calls make is longer than what came in: it says more and counts as full. Else prove '..UptoSaid'. A law counts once. -/
mutual
def uptoBulk {H : Type} : DataW H → Nat
  | .lit (.string bytes) => bytes.length + 1
  | .lit _ => 1
  | .nil => 1
  | .ptr d => uptoBulk d + 1
  | .slice elems spare => uptoBulkAll elems + uptoBulkAll spare + 1
  | .agg parts => uptoBulkAll parts + 1
  | .iface _ d => uptoBulk d + 1
  | .map entries => uptoBulkEntries entries + 1
  | .held _ => 1
def uptoBulkAll {H : Type} : List (DataW H) → Nat
  | [] => 0
  | d :: r => uptoBulk d + uptoBulkAll r
def uptoBulkEntries {H : Type} : List (Lit × DataW H) → Nat
  | [] => 0
  | x :: r => uptoBulkEntry x + uptoBulkEntries r
def uptoBulkEntry {H : Type} : Lit × DataW H → Nat
  | (.string bytes, d) => bytes.length + uptoBulk d + 1
  | (_, d) => uptoBulk d + 1
 end
def uptoSmall : (H : Type) → List (DataW H) → Bool := fun _ ds => decide (uptoBulkAll ds ≤ 1048576)
def OpenSpec.upto (s : _root_.Go.ChangeSpec) : _root_.Go.OpenSpec := { _root_.Go.OpenSpec.ofChange s with cond := some uptoSmall }

/-- 'fermatalaw19.RunMore', WHERE WHAT IT READS IS OF BULK AT MOST 1048576: true; the input reads as it did. -/
def runMoreUptoRow : OpenClaim := { program := "ytjliakjbdcplcaa", sum := "0ccd9e6689417c365bbf2011527719fab82d08ab99b543bd615809b4e49c59af", func := "fermata/fermatalaw19.RunMore", spec := "runMore", unfollowed := true, recurses := true, apart := false, narrowed := true }
def RunMoreUptoSaid : Prop := runMoreUptoRow.holds Try.pinned (OpenSpec.upto runMoreSpec)

/-- 'fermatalaw19.RunCuts', WHERE WHAT IT READS IS OF BULK AT MOST 1048576: true; the input reads as it did. -/
def runCutsUptoRow : OpenClaim := { program := "ytjliakjbdcplcaa", sum := "0ccd9e6689417c365bbf2011527719fab82d08ab99b543bd615809b4e49c59af", func := "fermata/fermatalaw19.RunCuts", spec := "runCuts", unfollowed := true, recurses := true, apart := false, narrowed := true }
def RunCutsUptoSaid : Prop := runCutsUptoRow.holds Try.pinned (OpenSpec.upto runCutsSpec)

/-- 'fermatalaw19.RunSends', WHERE WHAT IT READS IS OF BULK AT MOST 1048576: true; the input reads as it did. -/
def runSendsUptoRow : OpenClaim := { program := "ytjliakjbdcplcaa", sum := "0ccd9e6689417c365bbf2011527719fab82d08ab99b543bd615809b4e49c59af", func := "fermata/fermatalaw19.RunSends", spec := "runSends", unfollowed := true, recurses := true, apart := false, narrowed := true }
def RunSendsUptoSaid : Prop := runSendsUptoRow.holds Try.pinned (OpenSpec.upto runSendsSpec)

/-- 'fermatalaw19.RunWrong', WHERE WHAT IT READS IS OF BULK AT MOST 1048576: true; the input reads as it did. -/
def runWrongUptoRow : OpenClaim := { program := "ytjliakjbdcplcaa", sum := "0ccd9e6689417c365bbf2011527719fab82d08ab99b543bd615809b4e49c59af", func := "fermata/fermatalaw19.RunWrong", spec := "runWrong", unfollowed := true, recurses := true, apart := false, narrowed := true }
def RunWrongUptoSaid : Prop := runWrongUptoRow.holds Try.pinned (OpenSpec.upto runWrongSpec)

/-- 'fermatalaw28.ProcRuns', WHERE WHAT IT READS IS OF BULK AT MOST 1048576: true; the input reads as it did. -/
def procRunsUptoRow : OpenClaim := { program := "ytjliakjbdcplcaa", sum := "0ccd9e6689417c365bbf2011527719fab82d08ab99b543bd615809b4e49c59af", func := "fermata/fermatalaw28.ProcRuns", spec := "procRuns", unfollowed := true, recurses := true, apart := false, narrowed := true }
def ProcRunsUptoSaid : Prop := procRunsUptoRow.holds Try.pinned (OpenSpec.upto procRunsSpec)

/-- 'fermatalaw28.ProcParts', WHERE WHAT IT READS IS OF BULK AT MOST 1048576: true; the input reads as it did. -/
def procPartsUptoRow : OpenClaim := { program := "ytjliakjbdcplcaa", sum := "0ccd9e6689417c365bbf2011527719fab82d08ab99b543bd615809b4e49c59af", func := "fermata/fermatalaw28.ProcParts", spec := "procParts", unfollowed := true, recurses := true, apart := false, narrowed := true }
def ProcPartsUptoSaid : Prop := procPartsUptoRow.holds Try.pinned (OpenSpec.upto procPartsSpec)

/-- 'fermatalaw28.ProcSeqs', WHERE WHAT IT READS IS OF BULK AT MOST 1048576: true; the input reads as it did. -/
def procSeqsUptoRow : OpenClaim := { program := "ytjliakjbdcplcaa", sum := "0ccd9e6689417c365bbf2011527719fab82d08ab99b543bd615809b4e49c59af", func := "fermata/fermatalaw28.ProcSeqs", spec := "procSeqs", unfollowed := true, recurses := true, apart := false, narrowed := true }
def ProcSeqsUptoSaid : Prop := procSeqsUptoRow.holds Try.pinned (OpenSpec.upto procSeqsSpec)

/-- 'fermatalaw28.ProcWrong', WHERE WHAT IT READS IS OF BULK AT MOST 1048576: true; the input reads as it did. -/
def procWrongUptoRow : OpenClaim := { program := "ytjliakjbdcplcaa", sum := "0ccd9e6689417c365bbf2011527719fab82d08ab99b543bd615809b4e49c59af", func := "fermata/fermatalaw28.ProcWrong", spec := "procWrong", unfollowed := true, recurses := true, apart := false, narrowed := true }
def ProcWrongUptoSaid : Prop := procWrongUptoRow.holds Try.pinned (OpenSpec.upto procWrongSpec)

/-- 'fermatalaw19.RunTraces', WHERE WHAT IT READS IS OF BULK AT MOST 1048576: true; the input reads as it did. -/
def runTracesUptoRow : OpenClaim := { program := "ytjliakjbdcplcaa", sum := "0ccd9e6689417c365bbf2011527719fab82d08ab99b543bd615809b4e49c59af", func := "fermata/fermatalaw19.RunTraces", spec := "runTraces", unfollowed := true, recurses := true, apart := false, narrowed := true }
def RunTracesUptoSaid : Prop := runTracesUptoRow.holds Try.pinned (OpenSpec.upto runTracesSpec)

end Rows
end Go.Proofs.Ytjliakjbdcplcaa
