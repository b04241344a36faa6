/-
  No cell of these rows narrows 'for every input' (looked for: loops, veiled, ifaces, maps, wideKeys, modest, calm, conditions, laid).
  DERIVED. THE GIVEN ROWS OF THIS SEAT. 7 by the template 'for every input the law returns true; each argument reads behind the call as it read before'; 0 by the template 'total and deterministic' (their statements: YtjliakjbdcplcaaGreatTotals.lean).
  GIVEN WITH THE SEED: the statements are not yours to turn. If you find one false, say at which input.
  Laid BY PROGRAM, IN A SANDBOX (cutbox-rows.mjs): the forced cells as the released guide's own fill.sh prints them over the translation 6fa3af632fe101b0… (all of the seat's roots in one cut). By AI agents, Wed Nov 11 2026. No macro, syntax, notation, axiom, sorry.
-/
import Derived.Test.YtjliakjbdcplcaaGreatChecked
import GoSem.Claim
import GoSem.ClaimJoined
import GoSem.ClaimMapViews
import Derived.JoinedTies
import Derived.KernelRfl
namespace Go.Proofs.YtjliakjbdcplcaaGreat
/- THE CELL 'sum', in the pinned program and in every row, IS THE sha256 OF THE DUMP (.gsa) THAT YtjliakjbdcplcaaGreatProg.lean LOADS. Nothing in Lean hashes anything: it is a label: what it is worth is what the hold of that sum in a sandbox is worth. -/
noncomputable def Tryz.pinned : Pinned := { name := "ytjliakjbdcplcaagreat", sum := "6fa3af632fe101b0561967e6c84d162fa6e2e86e0c0f5a1543f8f2aa63f265bf", checked := Tryz.checked }
namespace Rows
def none {H : Type} : Left H := { results := [], args := [] }

/-- 'fermatalaw19.RunGoes': WHATEVER THE INPUT: true; the input reads as it did. -/
def runGoesSpec : ChangeSpec := { name := "runGoes", fn := fun _ => fun
  | [d1, d2] => { results := [.lit (.bool true)], args := [d1, d2] }
  | _ => none }
def runGoesRow : OpenClaim := { program := "ytjliakjbdcplcaagreat", sum := "6fa3af632fe101b0561967e6c84d162fa6e2e86e0c0f5a1543f8f2aa63f265bf", func := "fermata/fermatalaw19.RunGoes", spec := "runGoes", unfollowed := true, recurses := true, apart := false }
def RunGoesSaid : Prop := runGoesRow.holds Tryz.pinned (OpenSpec.ofChange runGoesSpec)

/-- ITS FALSE NEIGHBOUR: 'it returns false'. Refute it at one input. -/
def runGoesWrong : ChangeSpec := { name := "runGoes", fn := fun _ => fun
  | [d1, d2] => { results := [.lit (.bool false)], args := [d1, d2] }
  | _ => none }
def RunGoesWrongFalsely : Prop := runGoesRow.holds Tryz.pinned (OpenSpec.ofChange runGoesWrong)

/-- 'fermatalaw19.RunTells': WHATEVER THE INPUT: true; the input reads as it did. -/
def runTellsSpec : ChangeSpec := { name := "runTells", fn := fun _ => fun
  | [d] => { results := [.lit (.bool true)], args := [d] }
  | _ => none }
def runTellsRow : OpenClaim := { program := "ytjliakjbdcplcaagreat", sum := "6fa3af632fe101b0561967e6c84d162fa6e2e86e0c0f5a1543f8f2aa63f265bf", func := "fermata/fermatalaw19.RunTells", spec := "runTells", unfollowed := true, recurses := true, apart := false }
def RunTellsSaid : Prop := runTellsRow.holds Tryz.pinned (OpenSpec.ofChange runTellsSpec)

/-- ITS FALSE NEIGHBOUR: 'it returns false'. Refute it at one input. -/
def runTellsWrong : ChangeSpec := { name := "runTells", fn := fun _ => fun
  | [d] => { results := [.lit (.bool false)], args := [d] }
  | _ => none }
def RunTellsWrongFalsely : Prop := runTellsRow.holds Tryz.pinned (OpenSpec.ofChange runTellsWrong)

/-- 'fermatalaw19.RunSmall': WHATEVER THE INPUT: true; the input reads as it did. -/
def runSmallSpec : ChangeSpec := { name := "runSmall", fn := fun _ => fun
  | [] => { results := [.lit (.bool true)], args := [] }
  | _ => none }
def runSmallRow : OpenClaim := { program := "ytjliakjbdcplcaagreat", sum := "6fa3af632fe101b0561967e6c84d162fa6e2e86e0c0f5a1543f8f2aa63f265bf", func := "fermata/fermatalaw19.RunSmall", spec := "runSmall", unfollowed := true, recurses := true, apart := false }
def RunSmallSaid : Prop := runSmallRow.holds Tryz.pinned (OpenSpec.ofChange runSmallSpec)

/-- ITS FALSE NEIGHBOUR: 'it returns false'. Refute it at one input. -/
def runSmallWrong : ChangeSpec := { name := "runSmall", fn := fun _ => fun
  | [] => { results := [.lit (.bool false)], args := [] }
  | _ => none }
def RunSmallWrongFalsely : Prop := runSmallRow.holds Tryz.pinned (OpenSpec.ofChange runSmallWrong)

/-- 'fermatalaw28.ProcNew': WHATEVER THE INPUT: true; the input reads as it did. -/
def procNewSpec : ChangeSpec := { name := "procNew", fn := fun _ => fun
  | [d1, d2, d3, d4] => { results := [.lit (.bool true)], args := [d1, d2, d3, d4] }
  | _ => none }
def procNewRow : OpenClaim := { program := "ytjliakjbdcplcaagreat", sum := "6fa3af632fe101b0561967e6c84d162fa6e2e86e0c0f5a1543f8f2aa63f265bf", func := "fermata/fermatalaw28.ProcNew", spec := "procNew", unfollowed := true, recurses := true, apart := false }
def ProcNewSaid : Prop := procNewRow.holds Tryz.pinned (OpenSpec.ofChange procNewSpec)

/-- ITS FALSE NEIGHBOUR: 'it returns false'. Refute it at one input. -/
def procNewWrong : ChangeSpec := { name := "procNew", fn := fun _ => fun
  | [d1, d2, d3, d4] => { results := [.lit (.bool false)], args := [d1, d2, d3, d4] }
  | _ => none }
def ProcNewWrongFalsely : Prop := procNewRow.holds Tryz.pinned (OpenSpec.ofChange procNewWrong)

/-- 'fermatalaw28.ProcTells': WHATEVER THE INPUT: true; the input reads as it did. -/
def procTellsSpec : ChangeSpec := { name := "procTells", fn := fun _ => fun
  | [d1, d2, d3, d4] => { results := [.lit (.bool true)], args := [d1, d2, d3, d4] }
  | _ => none }
def procTellsRow : OpenClaim := { program := "ytjliakjbdcplcaagreat", sum := "6fa3af632fe101b0561967e6c84d162fa6e2e86e0c0f5a1543f8f2aa63f265bf", func := "fermata/fermatalaw28.ProcTells", spec := "procTells", unfollowed := true, recurses := true, apart := false }
def ProcTellsSaid : Prop := procTellsRow.holds Tryz.pinned (OpenSpec.ofChange procTellsSpec)

/-- ITS FALSE NEIGHBOUR: 'it returns false'. Refute it at one input. -/
def procTellsWrong : ChangeSpec := { name := "procTells", fn := fun _ => fun
  | [d1, d2, d3, d4] => { results := [.lit (.bool false)], args := [d1, d2, d3, d4] }
  | _ => none }
def ProcTellsWrongFalsely : Prop := procTellsRow.holds Tryz.pinned (OpenSpec.ofChange procTellsWrong)

/-- 'fermatalaw28.ProcSends': WHATEVER THE INPUT: true; the input reads as it did. -/
def procSendsSpec : ChangeSpec := { name := "procSends", fn := fun _ => fun
  | [d] => { results := [.lit (.bool true)], args := [d] }
  | _ => none }
def procSendsRow : OpenClaim := { program := "ytjliakjbdcplcaagreat", sum := "6fa3af632fe101b0561967e6c84d162fa6e2e86e0c0f5a1543f8f2aa63f265bf", func := "fermata/fermatalaw28.ProcSends", spec := "procSends", unfollowed := true, recurses := true, apart := false }
def ProcSendsSaid : Prop := procSendsRow.holds Tryz.pinned (OpenSpec.ofChange procSendsSpec)

/-- ITS FALSE NEIGHBOUR: 'it returns false'. Refute it at one input. -/
def procSendsWrong : ChangeSpec := { name := "procSends", fn := fun _ => fun
  | [d] => { results := [.lit (.bool false)], args := [d] }
  | _ => none }
def ProcSendsWrongFalsely : Prop := procSendsRow.holds Tryz.pinned (OpenSpec.ofChange procSendsWrong)

/-- 'fermatalaw28.ProcSmall': WHATEVER THE INPUT: true; the input reads as it did. -/
def procSmallSpec : ChangeSpec := { name := "procSmall", fn := fun _ => fun
  | [] => { results := [.lit (.bool true)], args := [] }
  | _ => none }
def procSmallRow : OpenClaim := { program := "ytjliakjbdcplcaagreat", sum := "6fa3af632fe101b0561967e6c84d162fa6e2e86e0c0f5a1543f8f2aa63f265bf", func := "fermata/fermatalaw28.ProcSmall", spec := "procSmall", unfollowed := true, recurses := true, apart := false }
def ProcSmallSaid : Prop := procSmallRow.holds Tryz.pinned (OpenSpec.ofChange procSmallSpec)

/-- ITS FALSE NEIGHBOUR: 'it returns false'. Refute it at one input. -/
def procSmallWrong : ChangeSpec := { name := "procSmall", fn := fun _ => fun
  | [] => { results := [.lit (.bool false)], args := [] }
  | _ => none }
def ProcSmallWrongFalsely : Prop := procSmallRow.holds Tryz.pinned (OpenSpec.ofChange procSmallWrong)

/- THE SECOND FORM. 'bulk': how many values and letters a reading holds, each counted each time it is reached (what is shared counts as often as it is met; a slice's spare places count too). A statement '..UptoSaid' is the law's where the arguments, and the package variables that the reading takes, are together of bulk at most 1048576: NARROWER than '..Said'. Prove '..Said' where nothing that the law and all that it calls make is longer than what came in: it says more and counts as full. Else prove '..UptoSaid'. A law counts once. -/
mutual
def uptoBulk {H : Type} : DataW H → Nat
  | .lit (.string bytes) => bytes.length + 1
  | .lit _ => 1
  | .nil => 1
  | .ptr d => uptoBulk d + 1
  | .slice elems spare => uptoBulkAll elems + uptoBulkAll spare + 1
  | .agg parts => uptoBulkAll parts + 1
  | .iface _ d => uptoBulk d + 1
  | .map entries => uptoBulkEntries entries + 1
  | .held _ => 1
def uptoBulkAll {H : Type} : List (DataW H) → Nat
  | [] => 0
  | d :: r => uptoBulk d + uptoBulkAll r
def uptoBulkEntries {H : Type} : List (Lit × DataW H) → Nat
  | [] => 0
  | x :: r => uptoBulkEntry x + uptoBulkEntries r
def uptoBulkEntry {H : Type} : Lit × DataW H → Nat
  | (.string bytes, d) => bytes.length + uptoBulk d + 1
  | (_, d) => uptoBulk d + 1
 end
def uptoSmall : (H : Type) → List (DataW H) → Bool := fun _ ds => decide (uptoBulkAll ds ≤ 1048576)
def OpenSpec.upto (s : _root_.Go.ChangeSpec) : _root_.Go.OpenSpec := { _root_.Go.OpenSpec.ofChange s with cond := some uptoSmall }

/-- 'fermatalaw19.RunGoes', WHERE WHAT IT READS IS OF BULK AT MOST 1048576: true; the input reads as it did. -/
def runGoesUptoRow : OpenClaim := { program := "ytjliakjbdcplcaagreat", sum := "6fa3af632fe101b0561967e6c84d162fa6e2e86e0c0f5a1543f8f2aa63f265bf", func := "fermata/fermatalaw19.RunGoes", spec := "runGoes", unfollowed := true, recurses := true, apart := false, narrowed := true }
def RunGoesUptoSaid : Prop := runGoesUptoRow.holds Tryz.pinned (OpenSpec.upto runGoesSpec)

/-- 'fermatalaw19.RunTells', WHERE WHAT IT READS IS OF BULK AT MOST 1048576: true; the input reads as it did. -/
def runTellsUptoRow : OpenClaim := { program := "ytjliakjbdcplcaagreat", sum := "6fa3af632fe101b0561967e6c84d162fa6e2e86e0c0f5a1543f8f2aa63f265bf", func := "fermata/fermatalaw19.RunTells", spec := "runTells", unfollowed := true, recurses := true, apart := false, narrowed := true }
def RunTellsUptoSaid : Prop := runTellsUptoRow.holds Tryz.pinned (OpenSpec.upto runTellsSpec)

/-- 'fermatalaw19.RunSmall', WHERE WHAT IT READS IS OF BULK AT MOST 1048576: true; the input reads as it did. -/
def runSmallUptoRow : OpenClaim := { program := "ytjliakjbdcplcaagreat", sum := "6fa3af632fe101b0561967e6c84d162fa6e2e86e0c0f5a1543f8f2aa63f265bf", func := "fermata/fermatalaw19.RunSmall", spec := "runSmall", unfollowed := true, recurses := true, apart := false, narrowed := true }
def RunSmallUptoSaid : Prop := runSmallUptoRow.holds Tryz.pinned (OpenSpec.upto runSmallSpec)

/-- 'fermatalaw28.ProcNew', WHERE WHAT IT READS IS OF BULK AT MOST 1048576: true; the input reads as it did. -/
def procNewUptoRow : OpenClaim := { program := "ytjliakjbdcplcaagreat", sum := "6fa3af632fe101b0561967e6c84d162fa6e2e86e0c0f5a1543f8f2aa63f265bf", func := "fermata/fermatalaw28.ProcNew", spec := "procNew", unfollowed := true, recurses := true, apart := false, narrowed := true }
def ProcNewUptoSaid : Prop := procNewUptoRow.holds Tryz.pinned (OpenSpec.upto procNewSpec)

/-- 'fermatalaw28.ProcTells', WHERE WHAT IT READS IS OF BULK AT MOST 1048576: true; the input reads as it did. -/
def procTellsUptoRow : OpenClaim := { program := "ytjliakjbdcplcaagreat", sum := "6fa3af632fe101b0561967e6c84d162fa6e2e86e0c0f5a1543f8f2aa63f265bf", func := "fermata/fermatalaw28.ProcTells", spec := "procTells", unfollowed := true, recurses := true, apart := false, narrowed := true }
def ProcTellsUptoSaid : Prop := procTellsUptoRow.holds Tryz.pinned (OpenSpec.upto procTellsSpec)

/-- 'fermatalaw28.ProcSends', WHERE WHAT IT READS IS OF BULK AT MOST 1048576: true; the input reads as it did. -/
def procSendsUptoRow : OpenClaim := { program := "ytjliakjbdcplcaagreat", sum := "6fa3af632fe101b0561967e6c84d162fa6e2e86e0c0f5a1543f8f2aa63f265bf", func := "fermata/fermatalaw28.ProcSends", spec := "procSends", unfollowed := true, recurses := true, apart := false, narrowed := true }
def ProcSendsUptoSaid : Prop := procSendsUptoRow.holds Tryz.pinned (OpenSpec.upto procSendsSpec)

/-- 'fermatalaw28.ProcSmall', WHERE WHAT IT READS IS OF BULK AT MOST 1048576: true; the input reads as it did. -/
def procSmallUptoRow : OpenClaim := { program := "ytjliakjbdcplcaagreat", sum := "6fa3af632fe101b0561967e6c84d162fa6e2e86e0c0f5a1543f8f2aa63f265bf", func := "fermata/fermatalaw28.ProcSmall", spec := "procSmall", unfollowed := true, recurses := true, apart := false, narrowed := true }
def ProcSmallUptoSaid : Prop := procSmallUptoRow.holds Tryz.pinned (OpenSpec.upto procSmallSpec)

end Rows
end Go.Proofs.YtjliakjbdcplcaaGreat
