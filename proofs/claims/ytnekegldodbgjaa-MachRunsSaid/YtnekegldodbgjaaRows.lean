/-
  No cell of these rows narrows 'for every input' (looked for: loops, veiled, ifaces, maps, wideKeys, modest, calm, conditions, laid).
  DERIVED. THE GIVEN ROWS OF THIS SEAT. 13 by the template 'for every input the law returns true; each argument reads behind the call as it read before'; 0 by the template 'total and deterministic' (their statements: YtnekegldodbgjaaTotals.lean).
  GIVEN WITH THE SEED: the statements are not yours to turn. If you find one false, say at which input.
  Laid BY PROGRAM, IN A SANDBOX (cutbox-rows.mjs): the forced cells as the released guide's own fill.sh prints them over the translation 8f6793de54fae49e… (all of the seat's roots in one cut). By AI agents, Wed Nov 11 2026. No macro, syntax, notation, axiom, sorry.
-/
import Derived.Test.YtnekegldodbgjaaChecked
import GoSem.Claim
import GoSem.ClaimJoined
import GoSem.ClaimMapViews
import Derived.JoinedTies
import Derived.KernelRfl
namespace Go.Proofs.Ytnekegldodbgjaa
/- THE CELL 'sum', in the pinned program and in every row, IS THE sha256 OF THE DUMP (.gsa) THAT YtnekegldodbgjaaProg.lean LOADS. Nothing in Lean hashes anything: it is a label: what it is worth is what the hold of that sum in a sandbox is worth. -/
noncomputable def Try.pinned : Pinned := { name := "ytnekegldodbgjaa", sum := "8f6793de54fae49e7810654cd7439d34d3d695bfa18d29171985d5a129701026", checked := Try.checked }
namespace Rows
def none {H : Type} : Left H := { results := [], args := [] }

/-- 'hauberklaw17.AsmMoves': WHATEVER THE INPUT: true; the input reads as it did. -/
def asmMovesSpec : ChangeSpec := { name := "asmMoves", fn := fun _ => fun
  | [d1, d2] => { results := [.lit (.bool true)], args := [d1, d2] }
  | _ => none }
def asmMovesRow : OpenClaim := { program := "ytnekegldodbgjaa", sum := "8f6793de54fae49e7810654cd7439d34d3d695bfa18d29171985d5a129701026", func := "hauberk/hauberklaw17.AsmMoves", spec := "asmMoves", unfollowed := true, recurses := true, apart := false }
def AsmMovesSaid : Prop := asmMovesRow.holds Try.pinned (OpenSpec.ofChange asmMovesSpec)

/-- ITS FALSE NEIGHBOUR: 'it returns false'. Refute it at one input. -/
def asmMovesWrong : ChangeSpec := { name := "asmMoves", fn := fun _ => fun
  | [d1, d2] => { results := [.lit (.bool false)], args := [d1, d2] }
  | _ => none }
def AsmMovesWrongFalsely : Prop := asmMovesRow.holds Try.pinned (OpenSpec.ofChange asmMovesWrong)

/-- 'hauberklaw17.AsmPlain': WHATEVER THE INPUT: true; the input reads as it did. -/
def asmPlainSpec : ChangeSpec := { name := "asmPlain", fn := fun _ => fun
  | [d1, d2] => { results := [.lit (.bool true)], args := [d1, d2] }
  | _ => none }
def asmPlainRow : OpenClaim := { program := "ytnekegldodbgjaa", sum := "8f6793de54fae49e7810654cd7439d34d3d695bfa18d29171985d5a129701026", func := "hauberk/hauberklaw17.AsmPlain", spec := "asmPlain", unfollowed := true, recurses := true, apart := false }
def AsmPlainSaid : Prop := asmPlainRow.holds Try.pinned (OpenSpec.ofChange asmPlainSpec)

/-- ITS FALSE NEIGHBOUR: 'it returns false'. Refute it at one input. -/
def asmPlainWrong : ChangeSpec := { name := "asmPlain", fn := fun _ => fun
  | [d1, d2] => { results := [.lit (.bool false)], args := [d1, d2] }
  | _ => none }
def AsmPlainWrongFalsely : Prop := asmPlainRow.holds Try.pinned (OpenSpec.ofChange asmPlainWrong)

/-- 'hauberklaw17.AsmLabels': WHATEVER THE INPUT: true; the input reads as it did. -/
def asmLabelsSpec : ChangeSpec := { name := "asmLabels", fn := fun _ => fun
  | [d1, d2] => { results := [.lit (.bool true)], args := [d1, d2] }
  | _ => none }
def asmLabelsRow : OpenClaim := { program := "ytnekegldodbgjaa", sum := "8f6793de54fae49e7810654cd7439d34d3d695bfa18d29171985d5a129701026", func := "hauberk/hauberklaw17.AsmLabels", spec := "asmLabels", unfollowed := true, recurses := true, apart := false }
def AsmLabelsSaid : Prop := asmLabelsRow.holds Try.pinned (OpenSpec.ofChange asmLabelsSpec)

/-- ITS FALSE NEIGHBOUR: 'it returns false'. Refute it at one input. -/
def asmLabelsWrong : ChangeSpec := { name := "asmLabels", fn := fun _ => fun
  | [d1, d2] => { results := [.lit (.bool false)], args := [d1, d2] }
  | _ => none }
def AsmLabelsWrongFalsely : Prop := asmLabelsRow.holds Try.pinned (OpenSpec.ofChange asmLabelsWrong)

/-- 'hauberklaw03.MachEchoes': WHATEVER THE INPUT: true; the input reads as it did. -/
def machEchoesSpec : ChangeSpec := { name := "machEchoes", fn := fun _ => fun
  | [d] => { results := [.lit (.bool true)], args := [d] }
  | _ => none }
def machEchoesRow : OpenClaim := { program := "ytnekegldodbgjaa", sum := "8f6793de54fae49e7810654cd7439d34d3d695bfa18d29171985d5a129701026", func := "hauberk/hauberklaw03.MachEchoes", spec := "machEchoes", unfollowed := true, recurses := true, apart := false }
def MachEchoesSaid : Prop := machEchoesRow.holds Try.pinned (OpenSpec.ofChange machEchoesSpec)

/-- ITS FALSE NEIGHBOUR: 'it returns false'. Refute it at one input. -/
def machEchoesWrong : ChangeSpec := { name := "machEchoes", fn := fun _ => fun
  | [d] => { results := [.lit (.bool false)], args := [d] }
  | _ => none }
def MachEchoesWrongFalsely : Prop := machEchoesRow.holds Try.pinned (OpenSpec.ofChange machEchoesWrong)

/-- 'hauberklaw03.MachMarks': WHATEVER THE INPUT: true; the input reads as it did. -/
def machMarksSpec : ChangeSpec := { name := "machMarks", fn := fun _ => fun
  | [d1, d2] => { results := [.lit (.bool true)], args := [d1, d2] }
  | _ => none }
def machMarksRow : OpenClaim := { program := "ytnekegldodbgjaa", sum := "8f6793de54fae49e7810654cd7439d34d3d695bfa18d29171985d5a129701026", func := "hauberk/hauberklaw03.MachMarks", spec := "machMarks", unfollowed := true, recurses := true, apart := false }
def MachMarksSaid : Prop := machMarksRow.holds Try.pinned (OpenSpec.ofChange machMarksSpec)

/-- ITS FALSE NEIGHBOUR: 'it returns false'. Refute it at one input. -/
def machMarksWrong : ChangeSpec := { name := "machMarks", fn := fun _ => fun
  | [d1, d2] => { results := [.lit (.bool false)], args := [d1, d2] }
  | _ => none }
def MachMarksWrongFalsely : Prop := machMarksRow.holds Try.pinned (OpenSpec.ofChange machMarksWrong)

/-- 'hauberklaw03.MachParts': WHATEVER THE INPUT: true; the input reads as it did. -/
def machPartsSpec : ChangeSpec := { name := "machParts", fn := fun _ => fun
  | [d1, d2, d3] => { results := [.lit (.bool true)], args := [d1, d2, d3] }
  | _ => none }
def machPartsRow : OpenClaim := { program := "ytnekegldodbgjaa", sum := "8f6793de54fae49e7810654cd7439d34d3d695bfa18d29171985d5a129701026", func := "hauberk/hauberklaw03.MachParts", spec := "machParts", unfollowed := true, recurses := true, apart := false }
def MachPartsSaid : Prop := machPartsRow.holds Try.pinned (OpenSpec.ofChange machPartsSpec)

/-- ITS FALSE NEIGHBOUR: 'it returns false'. Refute it at one input. -/
def machPartsWrong : ChangeSpec := { name := "machParts", fn := fun _ => fun
  | [d1, d2, d3] => { results := [.lit (.bool false)], args := [d1, d2, d3] }
  | _ => none }
def MachPartsWrongFalsely : Prop := machPartsRow.holds Try.pinned (OpenSpec.ofChange machPartsWrong)

/-- 'hauberklaw03.MachBranches': WHATEVER THE INPUT: true; the input reads as it did. -/
def machBranchesSpec : ChangeSpec := { name := "machBranches", fn := fun _ => fun
  | [d1, d2, d3] => { results := [.lit (.bool true)], args := [d1, d2, d3] }
  | _ => none }
def machBranchesRow : OpenClaim := { program := "ytnekegldodbgjaa", sum := "8f6793de54fae49e7810654cd7439d34d3d695bfa18d29171985d5a129701026", func := "hauberk/hauberklaw03.MachBranches", spec := "machBranches", unfollowed := true, recurses := true, apart := false }
def MachBranchesSaid : Prop := machBranchesRow.holds Try.pinned (OpenSpec.ofChange machBranchesSpec)

/-- ITS FALSE NEIGHBOUR: 'it returns false'. Refute it at one input. -/
def machBranchesWrong : ChangeSpec := { name := "machBranches", fn := fun _ => fun
  | [d1, d2, d3] => { results := [.lit (.bool false)], args := [d1, d2, d3] }
  | _ => none }
def MachBranchesWrongFalsely : Prop := machBranchesRow.holds Try.pinned (OpenSpec.ofChange machBranchesWrong)

/-- 'hauberklaw03.MachNews': WHATEVER THE INPUT: true; the input reads as it did. -/
def machNewsSpec : ChangeSpec := { name := "machNews", fn := fun _ => fun
  | [d1, d2] => { results := [.lit (.bool true)], args := [d1, d2] }
  | _ => none }
def machNewsRow : OpenClaim := { program := "ytnekegldodbgjaa", sum := "8f6793de54fae49e7810654cd7439d34d3d695bfa18d29171985d5a129701026", func := "hauberk/hauberklaw03.MachNews", spec := "machNews", unfollowed := true, recurses := true, apart := false }
def MachNewsSaid : Prop := machNewsRow.holds Try.pinned (OpenSpec.ofChange machNewsSpec)

/-- ITS FALSE NEIGHBOUR: 'it returns false'. Refute it at one input. -/
def machNewsWrong : ChangeSpec := { name := "machNews", fn := fun _ => fun
  | [d1, d2] => { results := [.lit (.bool false)], args := [d1, d2] }
  | _ => none }
def MachNewsWrongFalsely : Prop := machNewsRow.holds Try.pinned (OpenSpec.ofChange machNewsWrong)

/-- 'hauberklaw03.MachRuns': WHATEVER THE INPUT: true; the input reads as it did. -/
def machRunsSpec : ChangeSpec := { name := "machRuns", fn := fun _ => fun
  | [d1, d2, d3] => { results := [.lit (.bool true)], args := [d1, d2, d3] }
  | _ => none }
def machRunsRow : OpenClaim := { program := "ytnekegldodbgjaa", sum := "8f6793de54fae49e7810654cd7439d34d3d695bfa18d29171985d5a129701026", func := "hauberk/hauberklaw03.MachRuns", spec := "machRuns", unfollowed := true, recurses := true, apart := false }
def MachRunsSaid : Prop := machRunsRow.holds Try.pinned (OpenSpec.ofChange machRunsSpec)

/-- ITS FALSE NEIGHBOUR: 'it returns false'. Refute it at one input. -/
def machRunsWrong : ChangeSpec := { name := "machRuns", fn := fun _ => fun
  | [d1, d2, d3] => { results := [.lit (.bool false)], args := [d1, d2, d3] }
  | _ => none }
def MachRunsWrongFalsely : Prop := machRunsRow.holds Try.pinned (OpenSpec.ofChange machRunsWrong)

/-- 'hauberklaw03.MachKeeps': WHATEVER THE INPUT: true; the input reads as it did. -/
def machKeepsSpec : ChangeSpec := { name := "machKeeps", fn := fun _ => fun
  | [d1, d2, d3] => { results := [.lit (.bool true)], args := [d1, d2, d3] }
  | _ => none }
def machKeepsRow : OpenClaim := { program := "ytnekegldodbgjaa", sum := "8f6793de54fae49e7810654cd7439d34d3d695bfa18d29171985d5a129701026", func := "hauberk/hauberklaw03.MachKeeps", spec := "machKeeps", unfollowed := true, recurses := true, apart := false }
def MachKeepsSaid : Prop := machKeepsRow.holds Try.pinned (OpenSpec.ofChange machKeepsSpec)

/-- ITS FALSE NEIGHBOUR: 'it returns false'. Refute it at one input. -/
def machKeepsWrong : ChangeSpec := { name := "machKeeps", fn := fun _ => fun
  | [d1, d2, d3] => { results := [.lit (.bool false)], args := [d1, d2, d3] }
  | _ => none }
def MachKeepsWrongFalsely : Prop := machKeepsRow.holds Try.pinned (OpenSpec.ofChange machKeepsWrong)

/-- 'hauberklaw03.MachSteps': WHATEVER THE INPUT: true; the input reads as it did. -/
def machStepsSpec : ChangeSpec := { name := "machSteps", fn := fun _ => fun
  | [d1, d2, d3] => { results := [.lit (.bool true)], args := [d1, d2, d3] }
  | _ => none }
def machStepsRow : OpenClaim := { program := "ytnekegldodbgjaa", sum := "8f6793de54fae49e7810654cd7439d34d3d695bfa18d29171985d5a129701026", func := "hauberk/hauberklaw03.MachSteps", spec := "machSteps", unfollowed := true, recurses := true, apart := false }
def MachStepsSaid : Prop := machStepsRow.holds Try.pinned (OpenSpec.ofChange machStepsSpec)

/-- ITS FALSE NEIGHBOUR: 'it returns false'. Refute it at one input. -/
def machStepsWrong : ChangeSpec := { name := "machSteps", fn := fun _ => fun
  | [d1, d2, d3] => { results := [.lit (.bool false)], args := [d1, d2, d3] }
  | _ => none }
def MachStepsWrongFalsely : Prop := machStepsRow.holds Try.pinned (OpenSpec.ofChange machStepsWrong)

/-- 'hauberklaw17.AsmParts': WHATEVER THE INPUT: true; the input reads as it did. -/
def asmPartsSpec : ChangeSpec := { name := "asmParts", fn := fun _ => fun
  | [d1, d2] => { results := [.lit (.bool true)], args := [d1, d2] }
  | _ => none }
def asmPartsRow : OpenClaim := { program := "ytnekegldodbgjaa", sum := "8f6793de54fae49e7810654cd7439d34d3d695bfa18d29171985d5a129701026", func := "hauberk/hauberklaw17.AsmParts", spec := "asmParts", unfollowed := true, recurses := true, apart := false }
def AsmPartsSaid : Prop := asmPartsRow.holds Try.pinned (OpenSpec.ofChange asmPartsSpec)

/-- ITS FALSE NEIGHBOUR: 'it returns false'. Refute it at one input. -/
def asmPartsWrong : ChangeSpec := { name := "asmParts", fn := fun _ => fun
  | [d1, d2] => { results := [.lit (.bool false)], args := [d1, d2] }
  | _ => none }
def AsmPartsWrongFalsely : Prop := asmPartsRow.holds Try.pinned (OpenSpec.ofChange asmPartsWrong)

/-- 'hauberklaw17.AsmBranches': WHATEVER THE INPUT: true; the input reads as it did. -/
def asmBranchesSpec : ChangeSpec := { name := "asmBranches", fn := fun _ => fun
  | [d1, d2, d3] => { results := [.lit (.bool true)], args := [d1, d2, d3] }
  | _ => none }
def asmBranchesRow : OpenClaim := { program := "ytnekegldodbgjaa", sum := "8f6793de54fae49e7810654cd7439d34d3d695bfa18d29171985d5a129701026", func := "hauberk/hauberklaw17.AsmBranches", spec := "asmBranches", unfollowed := true, recurses := true, apart := false }
def AsmBranchesSaid : Prop := asmBranchesRow.holds Try.pinned (OpenSpec.ofChange asmBranchesSpec)

/-- ITS FALSE NEIGHBOUR: 'it returns false'. Refute it at one input. -/
def asmBranchesWrong : ChangeSpec := { name := "asmBranches", fn := fun _ => fun
  | [d1, d2, d3] => { results := [.lit (.bool false)], args := [d1, d2, d3] }
  | _ => none }
def AsmBranchesWrongFalsely : Prop := asmBranchesRow.holds Try.pinned (OpenSpec.ofChange asmBranchesWrong)

/- THE SECOND FORM. 'bulk': how many values and letters a reading holds, each counted each time it is reached (what is shared counts as often as it is met; a slice's spare places count too). A statement '..UptoSaid' is the law's where the arguments, and the package variables that the reading takes, are together of bulk at most 1048576: NARROWER than '..Said'. Prove '..Said' where nothing that the law and all that it calls make is longer than what came in: it says more and counts as full. Else prove '..UptoSaid'. A law counts once. -/
mutual
def uptoBulk {H : Type} : DataW H → Nat
  | .lit (.string bytes) => bytes.length + 1
  | .lit _ => 1
  | .nil => 1
  | .ptr d => uptoBulk d + 1
  | .slice elems spare => uptoBulkAll elems + uptoBulkAll spare + 1
  | .agg parts => uptoBulkAll parts + 1
  | .iface _ d => uptoBulk d + 1
  | .map entries => uptoBulkEntries entries + 1
  | .held _ => 1
def uptoBulkAll {H : Type} : List (DataW H) → Nat
  | [] => 0
  | d :: r => uptoBulk d + uptoBulkAll r
def uptoBulkEntries {H : Type} : List (Lit × DataW H) → Nat
  | [] => 0
  | x :: r => uptoBulkEntry x + uptoBulkEntries r
def uptoBulkEntry {H : Type} : Lit × DataW H → Nat
  | (.string bytes, d) => bytes.length + uptoBulk d + 1
  | (_, d) => uptoBulk d + 1
 end
def uptoSmall : (H : Type) → List (DataW H) → Bool := fun _ ds => decide (uptoBulkAll ds ≤ 1048576)
def OpenSpec.upto (s : _root_.Go.ChangeSpec) : _root_.Go.OpenSpec := { _root_.Go.OpenSpec.ofChange s with cond := some uptoSmall }

/-- 'hauberklaw17.AsmMoves', WHERE WHAT IT READS IS OF BULK AT MOST 1048576: true; the input reads as it did. -/
def asmMovesUptoRow : OpenClaim := { program := "ytnekegldodbgjaa", sum := "8f6793de54fae49e7810654cd7439d34d3d695bfa18d29171985d5a129701026", func := "hauberk/hauberklaw17.AsmMoves", spec := "asmMoves", unfollowed := true, recurses := true, apart := false, narrowed := true }
def AsmMovesUptoSaid : Prop := asmMovesUptoRow.holds Try.pinned (OpenSpec.upto asmMovesSpec)

/-- 'hauberklaw17.AsmPlain', WHERE WHAT IT READS IS OF BULK AT MOST 1048576: true; the input reads as it did. -/
def asmPlainUptoRow : OpenClaim := { program := "ytnekegldodbgjaa", sum := "8f6793de54fae49e7810654cd7439d34d3d695bfa18d29171985d5a129701026", func := "hauberk/hauberklaw17.AsmPlain", spec := "asmPlain", unfollowed := true, recurses := true, apart := false, narrowed := true }
def AsmPlainUptoSaid : Prop := asmPlainUptoRow.holds Try.pinned (OpenSpec.upto asmPlainSpec)

/-- 'hauberklaw17.AsmLabels', WHERE WHAT IT READS IS OF BULK AT MOST 1048576: true; the input reads as it did. -/
def asmLabelsUptoRow : OpenClaim := { program := "ytnekegldodbgjaa", sum := "8f6793de54fae49e7810654cd7439d34d3d695bfa18d29171985d5a129701026", func := "hauberk/hauberklaw17.AsmLabels", spec := "asmLabels", unfollowed := true, recurses := true, apart := false, narrowed := true }
def AsmLabelsUptoSaid : Prop := asmLabelsUptoRow.holds Try.pinned (OpenSpec.upto asmLabelsSpec)

/-- 'hauberklaw03.MachEchoes', WHERE WHAT IT READS IS OF BULK AT MOST 1048576: true; the input reads as it did. -/
def machEchoesUptoRow : OpenClaim := { program := "ytnekegldodbgjaa", sum := "8f6793de54fae49e7810654cd7439d34d3d695bfa18d29171985d5a129701026", func := "hauberk/hauberklaw03.MachEchoes", spec := "machEchoes", unfollowed := true, recurses := true, apart := false, narrowed := true }
def MachEchoesUptoSaid : Prop := machEchoesUptoRow.holds Try.pinned (OpenSpec.upto machEchoesSpec)

/-- 'hauberklaw03.MachMarks', WHERE WHAT IT READS IS OF BULK AT MOST 1048576: true; the input reads as it did. -/
def machMarksUptoRow : OpenClaim := { program := "ytnekegldodbgjaa", sum := "8f6793de54fae49e7810654cd7439d34d3d695bfa18d29171985d5a129701026", func := "hauberk/hauberklaw03.MachMarks", spec := "machMarks", unfollowed := true, recurses := true, apart := false, narrowed := true }
def MachMarksUptoSaid : Prop := machMarksUptoRow.holds Try.pinned (OpenSpec.upto machMarksSpec)

/-- 'hauberklaw03.MachParts', WHERE WHAT IT READS IS OF BULK AT MOST 1048576: true; the input reads as it did. -/
def machPartsUptoRow : OpenClaim := { program := "ytnekegldodbgjaa", sum := "8f6793de54fae49e7810654cd7439d34d3d695bfa18d29171985d5a129701026", func := "hauberk/hauberklaw03.MachParts", spec := "machParts", unfollowed := true, recurses := true, apart := false, narrowed := true }
def MachPartsUptoSaid : Prop := machPartsUptoRow.holds Try.pinned (OpenSpec.upto machPartsSpec)

/-- 'hauberklaw03.MachBranches', WHERE WHAT IT READS IS OF BULK AT MOST 1048576: true; the input reads as it did. -/
def machBranchesUptoRow : OpenClaim := { program := "ytnekegldodbgjaa", sum := "8f6793de54fae49e7810654cd7439d34d3d695bfa18d29171985d5a129701026", func := "hauberk/hauberklaw03.MachBranches", spec := "machBranches", unfollowed := true, recurses := true, apart := false, narrowed := true }
def MachBranchesUptoSaid : Prop := machBranchesUptoRow.holds Try.pinned (OpenSpec.upto machBranchesSpec)

/-- 'hauberklaw03.MachNews', WHERE WHAT IT READS IS OF BULK AT MOST 1048576: true; the input reads as it did. -/
def machNewsUptoRow : OpenClaim := { program := "ytnekegldodbgjaa", sum := "8f6793de54fae49e7810654cd7439d34d3d695bfa18d29171985d5a129701026", func := "hauberk/hauberklaw03.MachNews", spec := "machNews", unfollowed := true, recurses := true, apart := false, narrowed := true }
def MachNewsUptoSaid : Prop := machNewsUptoRow.holds Try.pinned (OpenSpec.upto machNewsSpec)

/-- 'hauberklaw03.MachRuns', WHERE WHAT IT READS IS OF BULK AT MOST 1048576: true; the input reads as it did. -/
def machRunsUptoRow : OpenClaim := { program := "ytnekegldodbgjaa", sum := "8f6793de54fae49e7810654cd7439d34d3d695bfa18d29171985d5a129701026", func := "hauberk/hauberklaw03.MachRuns", spec := "machRuns", unfollowed := true, recurses := true, apart := false, narrowed := true }
def MachRunsUptoSaid : Prop := machRunsUptoRow.holds Try.pinned (OpenSpec.upto machRunsSpec)

/-- 'hauberklaw03.MachKeeps', WHERE WHAT IT READS IS OF BULK AT MOST 1048576: true; the input reads as it did. -/
def machKeepsUptoRow : OpenClaim := { program := "ytnekegldodbgjaa", sum := "8f6793de54fae49e7810654cd7439d34d3d695bfa18d29171985d5a129701026", func := "hauberk/hauberklaw03.MachKeeps", spec := "machKeeps", unfollowed := true, recurses := true, apart := false, narrowed := true }
def MachKeepsUptoSaid : Prop := machKeepsUptoRow.holds Try.pinned (OpenSpec.upto machKeepsSpec)

/-- 'hauberklaw03.MachSteps', WHERE WHAT IT READS IS OF BULK AT MOST 1048576: true; the input reads as it did. -/
def machStepsUptoRow : OpenClaim := { program := "ytnekegldodbgjaa", sum := "8f6793de54fae49e7810654cd7439d34d3d695bfa18d29171985d5a129701026", func := "hauberk/hauberklaw03.MachSteps", spec := "machSteps", unfollowed := true, recurses := true, apart := false, narrowed := true }
def MachStepsUptoSaid : Prop := machStepsUptoRow.holds Try.pinned (OpenSpec.upto machStepsSpec)

/-- 'hauberklaw17.AsmParts', WHERE WHAT IT READS IS OF BULK AT MOST 1048576: true; the input reads as it did. -/
def asmPartsUptoRow : OpenClaim := { program := "ytnekegldodbgjaa", sum := "8f6793de54fae49e7810654cd7439d34d3d695bfa18d29171985d5a129701026", func := "hauberk/hauberklaw17.AsmParts", spec := "asmParts", unfollowed := true, recurses := true, apart := false, narrowed := true }
def AsmPartsUptoSaid : Prop := asmPartsUptoRow.holds Try.pinned (OpenSpec.upto asmPartsSpec)

/-- 'hauberklaw17.AsmBranches', WHERE WHAT IT READS IS OF BULK AT MOST 1048576: true; the input reads as it did. -/
def asmBranchesUptoRow : OpenClaim := { program := "ytnekegldodbgjaa", sum := "8f6793de54fae49e7810654cd7439d34d3d695bfa18d29171985d5a129701026", func := "hauberk/hauberklaw17.AsmBranches", spec := "asmBranches", unfollowed := true, recurses := true, apart := false, narrowed := true }
def AsmBranchesUptoSaid : Prop := asmBranchesUptoRow.holds Try.pinned (OpenSpec.upto asmBranchesSpec)

end Rows
end Go.Proofs.Ytnekegldodbgjaa
