/-
  No cell of these rows narrows 'for every input' (looked for: loops, veiled, ifaces, maps, wideKeys, modest, calm, conditions, laid).
  DERIVED. THE GIVEN ROWS OF THIS SEAT. 15 by the template 'for every input the law returns true; each argument reads behind the call as it read before'; 0 by the template 'total and deterministic' (their statements: YtmljmabbopkpiaaTotals.lean).
  GIVEN WITH THE SEED: the statements are not yours to turn. If you find one false, say at which input.
  Laid BY PROGRAM, IN A SANDBOX (cutbox-rows.mjs): the forced cells as the released guide's own fill.sh prints them over the translation 3cacb93d44813ef4… (all of the seat's roots in one cut). By AI agents, Wed Nov 11 2026. No macro, syntax, notation, axiom, sorry.
-/
import Derived.Test.YtmljmabbopkpiaaChecked
import GoSem.Claim
import GoSem.ClaimJoined
import GoSem.ClaimMapViews
import Derived.JoinedTies
import Derived.KernelRfl
namespace Go.Proofs.Ytmljmabbopkpiaa
/- THE CELL 'sum', in the pinned program and in every row, IS THE sha256 OF THE DUMP (.gsa) THAT YtmljmabbopkpiaaProg.lean LOADS. Nothing in Lean hashes anything: it is a label: what it is worth is what the hold of that sum in a sandbox is worth. -/
noncomputable def Try.pinned : Pinned := { name := "ytmljmabbopkpiaa", sum := "3cacb93d44813ef48d100dd91e9cb7aff1eaa3ad207cc69fd85af64193940efd", checked := Try.checked }
namespace Rows
def none {H : Type} : Left H := { results := [], args := [] }

/-- 'fermatalaw17.CheckLeast': WHATEVER THE INPUT: true; the input reads as it did. -/
def checkLeastSpec : ChangeSpec := { name := "checkLeast", fn := fun _ => fun
  | [d1, d2] => { results := [.lit (.bool true)], args := [d1, d2] }
  | _ => none }
def checkLeastRow : OpenClaim := { program := "ytmljmabbopkpiaa", sum := "3cacb93d44813ef48d100dd91e9cb7aff1eaa3ad207cc69fd85af64193940efd", func := "fermata/fermatalaw17.CheckLeast", spec := "checkLeast", unfollowed := true, recurses := true, apart := false }
def CheckLeastSaid : Prop := checkLeastRow.holds Try.pinned (OpenSpec.ofChange checkLeastSpec)

/-- ITS FALSE NEIGHBOUR: 'it returns false'. Refute it at one input. -/
def checkLeastWrong : ChangeSpec := { name := "checkLeast", fn := fun _ => fun
  | [d1, d2] => { results := [.lit (.bool false)], args := [d1, d2] }
  | _ => none }
def CheckLeastWrongFalsely : Prop := checkLeastRow.holds Try.pinned (OpenSpec.ofChange checkLeastWrong)

/-- 'fermatalaw18.InstrCells': WHATEVER THE INPUT: true; the input reads as it did. -/
def instrCellsSpec : ChangeSpec := { name := "instrCells", fn := fun _ => fun
  | [d1, d2, d3, d4] => { results := [.lit (.bool true)], args := [d1, d2, d3, d4] }
  | _ => none }
def instrCellsRow : OpenClaim := { program := "ytmljmabbopkpiaa", sum := "3cacb93d44813ef48d100dd91e9cb7aff1eaa3ad207cc69fd85af64193940efd", func := "fermata/fermatalaw18.InstrCells", spec := "instrCells", unfollowed := true, recurses := true, apart := false }
def InstrCellsSaid : Prop := instrCellsRow.holds Try.pinned (OpenSpec.ofChange instrCellsSpec)

/-- ITS FALSE NEIGHBOUR: 'it returns false'. Refute it at one input. -/
def instrCellsWrong : ChangeSpec := { name := "instrCells", fn := fun _ => fun
  | [d1, d2, d3, d4] => { results := [.lit (.bool false)], args := [d1, d2, d3, d4] }
  | _ => none }
def InstrCellsWrongFalsely : Prop := instrCellsRow.holds Try.pinned (OpenSpec.ofChange instrCellsWrong)

/-- 'fermatalaw18.InstrDraws': WHATEVER THE INPUT: true; the input reads as it did. -/
def instrDrawsSpec : ChangeSpec := { name := "instrDraws", fn := fun _ => fun
  | [d1, d2, d3, d4] => { results := [.lit (.bool true)], args := [d1, d2, d3, d4] }
  | _ => none }
def instrDrawsRow : OpenClaim := { program := "ytmljmabbopkpiaa", sum := "3cacb93d44813ef48d100dd91e9cb7aff1eaa3ad207cc69fd85af64193940efd", func := "fermata/fermatalaw18.InstrDraws", spec := "instrDraws", unfollowed := true, recurses := true, apart := false }
def InstrDrawsSaid : Prop := instrDrawsRow.holds Try.pinned (OpenSpec.ofChange instrDrawsSpec)

/-- ITS FALSE NEIGHBOUR: 'it returns false'. Refute it at one input. -/
def instrDrawsWrong : ChangeSpec := { name := "instrDraws", fn := fun _ => fun
  | [d1, d2, d3, d4] => { results := [.lit (.bool false)], args := [d1, d2, d3, d4] }
  | _ => none }
def InstrDrawsWrongFalsely : Prop := instrDrawsRow.holds Try.pinned (OpenSpec.ofChange instrDrawsWrong)

/-- 'fermatalaw18.InstrSends': WHATEVER THE INPUT: true; the input reads as it did. -/
def instrSendsSpec : ChangeSpec := { name := "instrSends", fn := fun _ => fun
  | [d1, d2, d3, d4, d5, d6] => { results := [.lit (.bool true)], args := [d1, d2, d3, d4, d5, d6] }
  | _ => none }
def instrSendsRow : OpenClaim := { program := "ytmljmabbopkpiaa", sum := "3cacb93d44813ef48d100dd91e9cb7aff1eaa3ad207cc69fd85af64193940efd", func := "fermata/fermatalaw18.InstrSends", spec := "instrSends", unfollowed := true, recurses := true, apart := false }
def InstrSendsSaid : Prop := instrSendsRow.holds Try.pinned (OpenSpec.ofChange instrSendsSpec)

/-- ITS FALSE NEIGHBOUR: 'it returns false'. Refute it at one input. -/
def instrSendsWrong : ChangeSpec := { name := "instrSends", fn := fun _ => fun
  | [d1, d2, d3, d4, d5, d6] => { results := [.lit (.bool false)], args := [d1, d2, d3, d4, d5, d6] }
  | _ => none }
def InstrSendsWrongFalsely : Prop := instrSendsRow.holds Try.pinned (OpenSpec.ofChange instrSendsWrong)

/-- 'fermatalaw18.InstrTells': WHATEVER THE INPUT: true; the input reads as it did. -/
def instrTellsSpec : ChangeSpec := { name := "instrTells", fn := fun _ => fun
  | [d1, d2, d3, d4, d5] => { results := [.lit (.bool true)], args := [d1, d2, d3, d4, d5] }
  | _ => none }
def instrTellsRow : OpenClaim := { program := "ytmljmabbopkpiaa", sum := "3cacb93d44813ef48d100dd91e9cb7aff1eaa3ad207cc69fd85af64193940efd", func := "fermata/fermatalaw18.InstrTells", spec := "instrTells", unfollowed := true, recurses := true, apart := false }
def InstrTellsSaid : Prop := instrTellsRow.holds Try.pinned (OpenSpec.ofChange instrTellsSpec)

/-- ITS FALSE NEIGHBOUR: 'it returns false'. Refute it at one input. -/
def instrTellsWrong : ChangeSpec := { name := "instrTells", fn := fun _ => fun
  | [d1, d2, d3, d4, d5] => { results := [.lit (.bool false)], args := [d1, d2, d3, d4, d5] }
  | _ => none }
def InstrTellsWrongFalsely : Prop := instrTellsRow.holds Try.pinned (OpenSpec.ofChange instrTellsWrong)

/-- 'fermatalaw18.InstrWords': WHATEVER THE INPUT: true; the input reads as it did. -/
def instrWordsSpec : ChangeSpec := { name := "instrWords", fn := fun _ => fun
  | [d1, d2, d3, d4, d5] => { results := [.lit (.bool true)], args := [d1, d2, d3, d4, d5] }
  | _ => none }
def instrWordsRow : OpenClaim := { program := "ytmljmabbopkpiaa", sum := "3cacb93d44813ef48d100dd91e9cb7aff1eaa3ad207cc69fd85af64193940efd", func := "fermata/fermatalaw18.InstrWords", spec := "instrWords", unfollowed := true, recurses := true, apart := false }
def InstrWordsSaid : Prop := instrWordsRow.holds Try.pinned (OpenSpec.ofChange instrWordsSpec)

/-- ITS FALSE NEIGHBOUR: 'it returns false'. Refute it at one input. -/
def instrWordsWrong : ChangeSpec := { name := "instrWords", fn := fun _ => fun
  | [d1, d2, d3, d4, d5] => { results := [.lit (.bool false)], args := [d1, d2, d3, d4, d5] }
  | _ => none }
def InstrWordsWrongFalsely : Prop := instrWordsRow.holds Try.pinned (OpenSpec.ofChange instrWordsWrong)

/-- 'fermatalaw18.InstrWrong': WHATEVER THE INPUT: true; the input reads as it did. -/
def instrWrongSpec : ChangeSpec := { name := "instrWrong", fn := fun _ => fun
  | [d1, d2, d3, d4, d5] => { results := [.lit (.bool true)], args := [d1, d2, d3, d4, d5] }
  | _ => none }
def instrWrongRow : OpenClaim := { program := "ytmljmabbopkpiaa", sum := "3cacb93d44813ef48d100dd91e9cb7aff1eaa3ad207cc69fd85af64193940efd", func := "fermata/fermatalaw18.InstrWrong", spec := "instrWrong", unfollowed := true, recurses := true, apart := false }
def InstrWrongSaid : Prop := instrWrongRow.holds Try.pinned (OpenSpec.ofChange instrWrongSpec)

/-- ITS FALSE NEIGHBOUR: 'it returns false'. Refute it at one input. -/
def instrWrongWrong : ChangeSpec := { name := "instrWrong", fn := fun _ => fun
  | [d1, d2, d3, d4, d5] => { results := [.lit (.bool false)], args := [d1, d2, d3, d4, d5] }
  | _ => none }
def InstrWrongWrongFalsely : Prop := instrWrongRow.holds Try.pinned (OpenSpec.ofChange instrWrongWrong)

/-- 'fermatalaw17.CheckSmall': WHATEVER THE INPUT: true; the input reads as it did. -/
def checkSmallSpec : ChangeSpec := { name := "checkSmall", fn := fun _ => fun
  | [] => { results := [.lit (.bool true)], args := [] }
  | _ => none }
def checkSmallRow : OpenClaim := { program := "ytmljmabbopkpiaa", sum := "3cacb93d44813ef48d100dd91e9cb7aff1eaa3ad207cc69fd85af64193940efd", func := "fermata/fermatalaw17.CheckSmall", spec := "checkSmall", unfollowed := true, recurses := true, apart := false }
def CheckSmallSaid : Prop := checkSmallRow.holds Try.pinned (OpenSpec.ofChange checkSmallSpec)

/-- ITS FALSE NEIGHBOUR: 'it returns false'. Refute it at one input. -/
def checkSmallWrong : ChangeSpec := { name := "checkSmall", fn := fun _ => fun
  | [] => { results := [.lit (.bool false)], args := [] }
  | _ => none }
def CheckSmallWrongFalsely : Prop := checkSmallRow.holds Try.pinned (OpenSpec.ofChange checkSmallWrong)

/-- 'fermatalaw17.CheckWrong': WHATEVER THE INPUT: true; the input reads as it did. -/
def checkWrongSpec : ChangeSpec := { name := "checkWrong", fn := fun _ => fun
  | [d1, d2, d3, d4] => { results := [.lit (.bool true)], args := [d1, d2, d3, d4] }
  | _ => none }
def checkWrongRow : OpenClaim := { program := "ytmljmabbopkpiaa", sum := "3cacb93d44813ef48d100dd91e9cb7aff1eaa3ad207cc69fd85af64193940efd", func := "fermata/fermatalaw17.CheckWrong", spec := "checkWrong", unfollowed := true, recurses := true, apart := false }
def CheckWrongSaid : Prop := checkWrongRow.holds Try.pinned (OpenSpec.ofChange checkWrongSpec)

/-- ITS FALSE NEIGHBOUR: 'it returns false'. Refute it at one input. -/
def checkWrongWrong : ChangeSpec := { name := "checkWrong", fn := fun _ => fun
  | [d1, d2, d3, d4] => { results := [.lit (.bool false)], args := [d1, d2, d3, d4] }
  | _ => none }
def CheckWrongWrongFalsely : Prop := checkWrongRow.holds Try.pinned (OpenSpec.ofChange checkWrongWrong)

/-- 'fermatalaw17.CheckSound': WHATEVER THE INPUT: true; the input reads as it did. -/
def checkSoundSpec : ChangeSpec := { name := "checkSound", fn := fun _ => fun
  | [d1, d2, d3, d4, d5, d6] => { results := [.lit (.bool true)], args := [d1, d2, d3, d4, d5, d6] }
  | _ => none }
def checkSoundRow : OpenClaim := { program := "ytmljmabbopkpiaa", sum := "3cacb93d44813ef48d100dd91e9cb7aff1eaa3ad207cc69fd85af64193940efd", func := "fermata/fermatalaw17.CheckSound", spec := "checkSound", unfollowed := true, recurses := true, apart := false }
def CheckSoundSaid : Prop := checkSoundRow.holds Try.pinned (OpenSpec.ofChange checkSoundSpec)

/-- ITS FALSE NEIGHBOUR: 'it returns false'. Refute it at one input. -/
def checkSoundWrong : ChangeSpec := { name := "checkSound", fn := fun _ => fun
  | [d1, d2, d3, d4, d5, d6] => { results := [.lit (.bool false)], args := [d1, d2, d3, d4, d5, d6] }
  | _ => none }
def CheckSoundWrongFalsely : Prop := checkSoundRow.holds Try.pinned (OpenSpec.ofChange checkSoundWrong)

/-- 'fermatalaw18.InstrSmall': WHATEVER THE INPUT: true; the input reads as it did. -/
def instrSmallSpec : ChangeSpec := { name := "instrSmall", fn := fun _ => fun
  | [] => { results := [.lit (.bool true)], args := [] }
  | _ => none }
def instrSmallRow : OpenClaim := { program := "ytmljmabbopkpiaa", sum := "3cacb93d44813ef48d100dd91e9cb7aff1eaa3ad207cc69fd85af64193940efd", func := "fermata/fermatalaw18.InstrSmall", spec := "instrSmall", unfollowed := true, recurses := true, apart := false }
def InstrSmallSaid : Prop := instrSmallRow.holds Try.pinned (OpenSpec.ofChange instrSmallSpec)

/-- ITS FALSE NEIGHBOUR: 'it returns false'. Refute it at one input. -/
def instrSmallWrong : ChangeSpec := { name := "instrSmall", fn := fun _ => fun
  | [] => { results := [.lit (.bool false)], args := [] }
  | _ => none }
def InstrSmallWrongFalsely : Prop := instrSmallRow.holds Try.pinned (OpenSpec.ofChange instrSmallWrong)

/-- 'fermatalaw17.CheckMore': WHATEVER THE INPUT: true; the input reads as it did. -/
def checkMoreSpec : ChangeSpec := { name := "checkMore", fn := fun _ => fun
  | [d1, d2, d3] => { results := [.lit (.bool true)], args := [d1, d2, d3] }
  | _ => none }
def checkMoreRow : OpenClaim := { program := "ytmljmabbopkpiaa", sum := "3cacb93d44813ef48d100dd91e9cb7aff1eaa3ad207cc69fd85af64193940efd", func := "fermata/fermatalaw17.CheckMore", spec := "checkMore", unfollowed := true, recurses := true, apart := false }
def CheckMoreSaid : Prop := checkMoreRow.holds Try.pinned (OpenSpec.ofChange checkMoreSpec)

/-- ITS FALSE NEIGHBOUR: 'it returns false'. Refute it at one input. -/
def checkMoreWrong : ChangeSpec := { name := "checkMore", fn := fun _ => fun
  | [d1, d2, d3] => { results := [.lit (.bool false)], args := [d1, d2, d3] }
  | _ => none }
def CheckMoreWrongFalsely : Prop := checkMoreRow.holds Try.pinned (OpenSpec.ofChange checkMoreWrong)

/-- 'fermatalaw18.InstrSteps': WHATEVER THE INPUT: true; the input reads as it did. -/
def instrStepsSpec : ChangeSpec := { name := "instrSteps", fn := fun _ => fun
  | [d1, d2, d3] => { results := [.lit (.bool true)], args := [d1, d2, d3] }
  | _ => none }
def instrStepsRow : OpenClaim := { program := "ytmljmabbopkpiaa", sum := "3cacb93d44813ef48d100dd91e9cb7aff1eaa3ad207cc69fd85af64193940efd", func := "fermata/fermatalaw18.InstrSteps", spec := "instrSteps", unfollowed := true, recurses := true, apart := false }
def InstrStepsSaid : Prop := instrStepsRow.holds Try.pinned (OpenSpec.ofChange instrStepsSpec)

/-- ITS FALSE NEIGHBOUR: 'it returns false'. Refute it at one input. -/
def instrStepsWrong : ChangeSpec := { name := "instrSteps", fn := fun _ => fun
  | [d1, d2, d3] => { results := [.lit (.bool false)], args := [d1, d2, d3] }
  | _ => none }
def InstrStepsWrongFalsely : Prop := instrStepsRow.holds Try.pinned (OpenSpec.ofChange instrStepsWrong)

/-- 'fermatalaw17.CheckFacts': WHATEVER THE INPUT: true; the input reads as it did. -/
def checkFactsSpec : ChangeSpec := { name := "checkFacts", fn := fun _ => fun
  | [d] => { results := [.lit (.bool true)], args := [d] }
  | _ => none }
def checkFactsRow : OpenClaim := { program := "ytmljmabbopkpiaa", sum := "3cacb93d44813ef48d100dd91e9cb7aff1eaa3ad207cc69fd85af64193940efd", func := "fermata/fermatalaw17.CheckFacts", spec := "checkFacts", unfollowed := true, recurses := true, apart := false }
def CheckFactsSaid : Prop := checkFactsRow.holds Try.pinned (OpenSpec.ofChange checkFactsSpec)

/-- ITS FALSE NEIGHBOUR: 'it returns false'. Refute it at one input. -/
def checkFactsWrong : ChangeSpec := { name := "checkFacts", fn := fun _ => fun
  | [d] => { results := [.lit (.bool false)], args := [d] }
  | _ => none }
def CheckFactsWrongFalsely : Prop := checkFactsRow.holds Try.pinned (OpenSpec.ofChange checkFactsWrong)

/-- 'fermatalaw18.InstrOne': WHATEVER THE INPUT: true; the input reads as it did. -/
def instrOneSpec : ChangeSpec := { name := "instrOne", fn := fun _ => fun
  | [d1, d2, d3] => { results := [.lit (.bool true)], args := [d1, d2, d3] }
  | _ => none }
def instrOneRow : OpenClaim := { program := "ytmljmabbopkpiaa", sum := "3cacb93d44813ef48d100dd91e9cb7aff1eaa3ad207cc69fd85af64193940efd", func := "fermata/fermatalaw18.InstrOne", spec := "instrOne", unfollowed := true, recurses := true, apart := false }
def InstrOneSaid : Prop := instrOneRow.holds Try.pinned (OpenSpec.ofChange instrOneSpec)

/-- ITS FALSE NEIGHBOUR: 'it returns false'. Refute it at one input. -/
def instrOneWrong : ChangeSpec := { name := "instrOne", fn := fun _ => fun
  | [d1, d2, d3] => { results := [.lit (.bool false)], args := [d1, d2, d3] }
  | _ => none }
def InstrOneWrongFalsely : Prop := instrOneRow.holds Try.pinned (OpenSpec.ofChange instrOneWrong)

/- THE SECOND FORM. 'bulk': how many values and letters a reading holds, each counted each time it is reached (what is shared counts as often as it is met; a slice's spare places count too). A statement '..UptoSaid' is the law's where the arguments, and the package variables that the reading takes, are together of bulk at most 1048576: NARROWER than '..Said'. Prove '..Said' where nothing that the law and all that it calls make is longer than what came in: it says more and counts as full. Else prove '..UptoSaid'. A law counts once. -/
mutual
def uptoBulk {H : Type} : DataW H → Nat
  | .lit (.string bytes) => bytes.length + 1
  | .lit _ => 1
  | .nil => 1
  | .ptr d => uptoBulk d + 1
  | .slice elems spare => uptoBulkAll elems + uptoBulkAll spare + 1
  | .agg parts => uptoBulkAll parts + 1
  | .iface _ d => uptoBulk d + 1
  | .map entries => uptoBulkEntries entries + 1
  | .held _ => 1
def uptoBulkAll {H : Type} : List (DataW H) → Nat
  | [] => 0
  | d :: r => uptoBulk d + uptoBulkAll r
def uptoBulkEntries {H : Type} : List (Lit × DataW H) → Nat
  | [] => 0
  | x :: r => uptoBulkEntry x + uptoBulkEntries r
def uptoBulkEntry {H : Type} : Lit × DataW H → Nat
  | (.string bytes, d) => bytes.length + uptoBulk d + 1
  | (_, d) => uptoBulk d + 1
 end
def uptoSmall : (H : Type) → List (DataW H) → Bool := fun _ ds => decide (uptoBulkAll ds ≤ 1048576)
def OpenSpec.upto (s : _root_.Go.ChangeSpec) : _root_.Go.OpenSpec := { _root_.Go.OpenSpec.ofChange s with cond := some uptoSmall }

/-- 'fermatalaw17.CheckLeast', WHERE WHAT IT READS IS OF BULK AT MOST 1048576: true; the input reads as it did. -/
def checkLeastUptoRow : OpenClaim := { program := "ytmljmabbopkpiaa", sum := "3cacb93d44813ef48d100dd91e9cb7aff1eaa3ad207cc69fd85af64193940efd", func := "fermata/fermatalaw17.CheckLeast", spec := "checkLeast", unfollowed := true, recurses := true, apart := false, narrowed := true }
def CheckLeastUptoSaid : Prop := checkLeastUptoRow.holds Try.pinned (OpenSpec.upto checkLeastSpec)

/-- 'fermatalaw18.InstrCells', WHERE WHAT IT READS IS OF BULK AT MOST 1048576: true; the input reads as it did. -/
def instrCellsUptoRow : OpenClaim := { program := "ytmljmabbopkpiaa", sum := "3cacb93d44813ef48d100dd91e9cb7aff1eaa3ad207cc69fd85af64193940efd", func := "fermata/fermatalaw18.InstrCells", spec := "instrCells", unfollowed := true, recurses := true, apart := false, narrowed := true }
def InstrCellsUptoSaid : Prop := instrCellsUptoRow.holds Try.pinned (OpenSpec.upto instrCellsSpec)

/-- 'fermatalaw18.InstrDraws', WHERE WHAT IT READS IS OF BULK AT MOST 1048576: true; the input reads as it did. -/
def instrDrawsUptoRow : OpenClaim := { program := "ytmljmabbopkpiaa", sum := "3cacb93d44813ef48d100dd91e9cb7aff1eaa3ad207cc69fd85af64193940efd", func := "fermata/fermatalaw18.InstrDraws", spec := "instrDraws", unfollowed := true, recurses := true, apart := false, narrowed := true }
def InstrDrawsUptoSaid : Prop := instrDrawsUptoRow.holds Try.pinned (OpenSpec.upto instrDrawsSpec)

/-- 'fermatalaw18.InstrSends', WHERE WHAT IT READS IS OF BULK AT MOST 1048576: true; the input reads as it did. -/
def instrSendsUptoRow : OpenClaim := { program := "ytmljmabbopkpiaa", sum := "3cacb93d44813ef48d100dd91e9cb7aff1eaa3ad207cc69fd85af64193940efd", func := "fermata/fermatalaw18.InstrSends", spec := "instrSends", unfollowed := true, recurses := true, apart := false, narrowed := true }
def InstrSendsUptoSaid : Prop := instrSendsUptoRow.holds Try.pinned (OpenSpec.upto instrSendsSpec)

/-- 'fermatalaw18.InstrTells', WHERE WHAT IT READS IS OF BULK AT MOST 1048576: true; the input reads as it did. -/
def instrTellsUptoRow : OpenClaim := { program := "ytmljmabbopkpiaa", sum := "3cacb93d44813ef48d100dd91e9cb7aff1eaa3ad207cc69fd85af64193940efd", func := "fermata/fermatalaw18.InstrTells", spec := "instrTells", unfollowed := true, recurses := true, apart := false, narrowed := true }
def InstrTellsUptoSaid : Prop := instrTellsUptoRow.holds Try.pinned (OpenSpec.upto instrTellsSpec)

/-- 'fermatalaw18.InstrWords', WHERE WHAT IT READS IS OF BULK AT MOST 1048576: true; the input reads as it did. -/
def instrWordsUptoRow : OpenClaim := { program := "ytmljmabbopkpiaa", sum := "3cacb93d44813ef48d100dd91e9cb7aff1eaa3ad207cc69fd85af64193940efd", func := "fermata/fermatalaw18.InstrWords", spec := "instrWords", unfollowed := true, recurses := true, apart := false, narrowed := true }
def InstrWordsUptoSaid : Prop := instrWordsUptoRow.holds Try.pinned (OpenSpec.upto instrWordsSpec)

/-- 'fermatalaw18.InstrWrong', WHERE WHAT IT READS IS OF BULK AT MOST 1048576: true; the input reads as it did. -/
def instrWrongUptoRow : OpenClaim := { program := "ytmljmabbopkpiaa", sum := "3cacb93d44813ef48d100dd91e9cb7aff1eaa3ad207cc69fd85af64193940efd", func := "fermata/fermatalaw18.InstrWrong", spec := "instrWrong", unfollowed := true, recurses := true, apart := false, narrowed := true }
def InstrWrongUptoSaid : Prop := instrWrongUptoRow.holds Try.pinned (OpenSpec.upto instrWrongSpec)

/-- 'fermatalaw17.CheckSmall', WHERE WHAT IT READS IS OF BULK AT MOST 1048576: true; the input reads as it did. -/
def checkSmallUptoRow : OpenClaim := { program := "ytmljmabbopkpiaa", sum := "3cacb93d44813ef48d100dd91e9cb7aff1eaa3ad207cc69fd85af64193940efd", func := "fermata/fermatalaw17.CheckSmall", spec := "checkSmall", unfollowed := true, recurses := true, apart := false, narrowed := true }
def CheckSmallUptoSaid : Prop := checkSmallUptoRow.holds Try.pinned (OpenSpec.upto checkSmallSpec)

/-- 'fermatalaw17.CheckWrong', WHERE WHAT IT READS IS OF BULK AT MOST 1048576: true; the input reads as it did. -/
def checkWrongUptoRow : OpenClaim := { program := "ytmljmabbopkpiaa", sum := "3cacb93d44813ef48d100dd91e9cb7aff1eaa3ad207cc69fd85af64193940efd", func := "fermata/fermatalaw17.CheckWrong", spec := "checkWrong", unfollowed := true, recurses := true, apart := false, narrowed := true }
def CheckWrongUptoSaid : Prop := checkWrongUptoRow.holds Try.pinned (OpenSpec.upto checkWrongSpec)

/-- 'fermatalaw17.CheckSound', WHERE WHAT IT READS IS OF BULK AT MOST 1048576: true; the input reads as it did. -/
def checkSoundUptoRow : OpenClaim := { program := "ytmljmabbopkpiaa", sum := "3cacb93d44813ef48d100dd91e9cb7aff1eaa3ad207cc69fd85af64193940efd", func := "fermata/fermatalaw17.CheckSound", spec := "checkSound", unfollowed := true, recurses := true, apart := false, narrowed := true }
def CheckSoundUptoSaid : Prop := checkSoundUptoRow.holds Try.pinned (OpenSpec.upto checkSoundSpec)

/-- 'fermatalaw18.InstrSmall', WHERE WHAT IT READS IS OF BULK AT MOST 1048576: true; the input reads as it did. -/
def instrSmallUptoRow : OpenClaim := { program := "ytmljmabbopkpiaa", sum := "3cacb93d44813ef48d100dd91e9cb7aff1eaa3ad207cc69fd85af64193940efd", func := "fermata/fermatalaw18.InstrSmall", spec := "instrSmall", unfollowed := true, recurses := true, apart := false, narrowed := true }
def InstrSmallUptoSaid : Prop := instrSmallUptoRow.holds Try.pinned (OpenSpec.upto instrSmallSpec)

/-- 'fermatalaw17.CheckMore', WHERE WHAT IT READS IS OF BULK AT MOST 1048576: true; the input reads as it did. -/
def checkMoreUptoRow : OpenClaim := { program := "ytmljmabbopkpiaa", sum := "3cacb93d44813ef48d100dd91e9cb7aff1eaa3ad207cc69fd85af64193940efd", func := "fermata/fermatalaw17.CheckMore", spec := "checkMore", unfollowed := true, recurses := true, apart := false, narrowed := true }
def CheckMoreUptoSaid : Prop := checkMoreUptoRow.holds Try.pinned (OpenSpec.upto checkMoreSpec)

/-- 'fermatalaw18.InstrSteps', WHERE WHAT IT READS IS OF BULK AT MOST 1048576: true; the input reads as it did. -/
def instrStepsUptoRow : OpenClaim := { program := "ytmljmabbopkpiaa", sum := "3cacb93d44813ef48d100dd91e9cb7aff1eaa3ad207cc69fd85af64193940efd", func := "fermata/fermatalaw18.InstrSteps", spec := "instrSteps", unfollowed := true, recurses := true, apart := false, narrowed := true }
def InstrStepsUptoSaid : Prop := instrStepsUptoRow.holds Try.pinned (OpenSpec.upto instrStepsSpec)

/-- 'fermatalaw17.CheckFacts', WHERE WHAT IT READS IS OF BULK AT MOST 1048576: true; the input reads as it did. -/
def checkFactsUptoRow : OpenClaim := { program := "ytmljmabbopkpiaa", sum := "3cacb93d44813ef48d100dd91e9cb7aff1eaa3ad207cc69fd85af64193940efd", func := "fermata/fermatalaw17.CheckFacts", spec := "checkFacts", unfollowed := true, recurses := true, apart := false, narrowed := true }
def CheckFactsUptoSaid : Prop := checkFactsUptoRow.holds Try.pinned (OpenSpec.upto checkFactsSpec)

/-- 'fermatalaw18.InstrOne', WHERE WHAT IT READS IS OF BULK AT MOST 1048576: true; the input reads as it did. -/
def instrOneUptoRow : OpenClaim := { program := "ytmljmabbopkpiaa", sum := "3cacb93d44813ef48d100dd91e9cb7aff1eaa3ad207cc69fd85af64193940efd", func := "fermata/fermatalaw18.InstrOne", spec := "instrOne", unfollowed := true, recurses := true, apart := false, narrowed := true }
def InstrOneUptoSaid : Prop := instrOneUptoRow.holds Try.pinned (OpenSpec.upto instrOneSpec)

end Rows
end Go.Proofs.Ytmljmabbopkpiaa
