/-
  No cell of these rows narrows 'for every input' (looked for: loops, veiled, ifaces, maps, wideKeys, modest, calm, conditions, laid).
  DERIVED. THE GIVEN ROWS OF THIS SEAT. 5 by the template 'for every input the law returns true; each argument reads behind the call as it read before'; 0 by the template 'total and deterministic' (their statements: YtkghggngmpmigaaTotals.lean).
  GIVEN WITH THE SEED: the statements are not yours to turn. If you find one false, say at which input.
  Laid BY PROGRAM, IN A SANDBOX (cutbox-rows.mjs): the forced cells as the released guide's own fill.sh prints them over the translation 1fe2d3f1241611b9… (all of the seat's roots in one cut). By AI agents, Wed Nov 11 2026. No macro, syntax, notation, axiom, sorry.
-/
import Derived.Test.YtkghggngmpmigaaChecked
import GoSem.Claim
import GoSem.ClaimJoined
import GoSem.ClaimMapViews
import Derived.JoinedTies
import Derived.KernelRfl
namespace Go.Proofs.Ytkghggngmpmigaa
/- THE CELL 'sum', in the pinned program and in every row, IS THE sha256 OF THE DUMP (.gsa) THAT YtkghggngmpmigaaProg.lean LOADS. Nothing in Lean hashes anything: it is a label: what it is worth is what the hold of that sum in a sandbox is worth. -/
noncomputable def Try.pinned : Pinned := { name := "ytkghggngmpmigaa", sum := "1fe2d3f1241611b94fc19c2413c70f7d6937cfa6a477cc3acb7ca625a7779008", checked := Try.checked }
namespace Rows
def none {H : Type} : Left H := { results := [], args := [] }

/-- 'hauberklaw18.RtFrees': WHATEVER THE INPUT: true; the input reads as it did. -/
def rtFreesSpec : ChangeSpec := { name := "rtFrees", fn := fun _ => fun
  | [d1, d2, d3] => { results := [.lit (.bool true)], args := [d1, d2, d3] }
  | _ => none }
def rtFreesRow : OpenClaim := { program := "ytkghggngmpmigaa", sum := "1fe2d3f1241611b94fc19c2413c70f7d6937cfa6a477cc3acb7ca625a7779008", func := "hauberk/hauberklaw18.RtFrees", spec := "rtFrees", unfollowed := true, recurses := true, apart := false }
def RtFreesSaid : Prop := rtFreesRow.holds Try.pinned (OpenSpec.ofChange rtFreesSpec)

/-- ITS FALSE NEIGHBOUR: 'it returns false'. Refute it at one input. -/
def rtFreesWrong : ChangeSpec := { name := "rtFrees", fn := fun _ => fun
  | [d1, d2, d3] => { results := [.lit (.bool false)], args := [d1, d2, d3] }
  | _ => none }
def RtFreesWrongFalsely : Prop := rtFreesRow.holds Try.pinned (OpenSpec.ofChange rtFreesWrong)

/-- 'hauberklaw18.RtLimits': WHATEVER THE INPUT: true; the input reads as it did. -/
def rtLimitsSpec : ChangeSpec := { name := "rtLimits", fn := fun _ => fun
  | [d] => { results := [.lit (.bool true)], args := [d] }
  | _ => none }
def rtLimitsRow : OpenClaim := { program := "ytkghggngmpmigaa", sum := "1fe2d3f1241611b94fc19c2413c70f7d6937cfa6a477cc3acb7ca625a7779008", func := "hauberk/hauberklaw18.RtLimits", spec := "rtLimits", unfollowed := true, recurses := true, apart := false }
def RtLimitsSaid : Prop := rtLimitsRow.holds Try.pinned (OpenSpec.ofChange rtLimitsSpec)

/-- ITS FALSE NEIGHBOUR: 'it returns false'. Refute it at one input. -/
def rtLimitsWrong : ChangeSpec := { name := "rtLimits", fn := fun _ => fun
  | [d] => { results := [.lit (.bool false)], args := [d] }
  | _ => none }
def RtLimitsWrongFalsely : Prop := rtLimitsRow.holds Try.pinned (OpenSpec.ofChange rtLimitsWrong)

/-- 'hauberklaw18.RtShadows': WHATEVER THE INPUT: true; the input reads as it did. -/
def rtShadowsSpec : ChangeSpec := { name := "rtShadows", fn := fun _ => fun
  | [d1, d2, d3] => { results := [.lit (.bool true)], args := [d1, d2, d3] }
  | _ => none }
def rtShadowsRow : OpenClaim := { program := "ytkghggngmpmigaa", sum := "1fe2d3f1241611b94fc19c2413c70f7d6937cfa6a477cc3acb7ca625a7779008", func := "hauberk/hauberklaw18.RtShadows", spec := "rtShadows", unfollowed := true, recurses := true, apart := false }
def RtShadowsSaid : Prop := rtShadowsRow.holds Try.pinned (OpenSpec.ofChange rtShadowsSpec)

/-- ITS FALSE NEIGHBOUR: 'it returns false'. Refute it at one input. -/
def rtShadowsWrong : ChangeSpec := { name := "rtShadows", fn := fun _ => fun
  | [d1, d2, d3] => { results := [.lit (.bool false)], args := [d1, d2, d3] }
  | _ => none }
def RtShadowsWrongFalsely : Prop := rtShadowsRow.holds Try.pinned (OpenSpec.ofChange rtShadowsWrong)

/-- 'hauberklaw18.RtApart': WHATEVER THE INPUT: true; the input reads as it did. -/
def rtApartSpec : ChangeSpec := { name := "rtApart", fn := fun _ => fun
  | [d1, d2] => { results := [.lit (.bool true)], args := [d1, d2] }
  | _ => none }
def rtApartRow : OpenClaim := { program := "ytkghggngmpmigaa", sum := "1fe2d3f1241611b94fc19c2413c70f7d6937cfa6a477cc3acb7ca625a7779008", func := "hauberk/hauberklaw18.RtApart", spec := "rtApart", unfollowed := true, recurses := true, apart := false }
def RtApartSaid : Prop := rtApartRow.holds Try.pinned (OpenSpec.ofChange rtApartSpec)

/-- ITS FALSE NEIGHBOUR: 'it returns false'. Refute it at one input. -/
def rtApartWrong : ChangeSpec := { name := "rtApart", fn := fun _ => fun
  | [d1, d2] => { results := [.lit (.bool false)], args := [d1, d2] }
  | _ => none }
def RtApartWrongFalsely : Prop := rtApartRow.holds Try.pinned (OpenSpec.ofChange rtApartWrong)

/-- 'hauberklaw18.RtFrames': WHATEVER THE INPUT: true; the input reads as it did. -/
def rtFramesSpec : ChangeSpec := { name := "rtFrames", fn := fun _ => fun
  | [d] => { results := [.lit (.bool true)], args := [d] }
  | _ => none }
def rtFramesRow : OpenClaim := { program := "ytkghggngmpmigaa", sum := "1fe2d3f1241611b94fc19c2413c70f7d6937cfa6a477cc3acb7ca625a7779008", func := "hauberk/hauberklaw18.RtFrames", spec := "rtFrames", unfollowed := true, recurses := true, apart := false }
def RtFramesSaid : Prop := rtFramesRow.holds Try.pinned (OpenSpec.ofChange rtFramesSpec)

/-- ITS FALSE NEIGHBOUR: 'it returns false'. Refute it at one input. -/
def rtFramesWrong : ChangeSpec := { name := "rtFrames", fn := fun _ => fun
  | [d] => { results := [.lit (.bool false)], args := [d] }
  | _ => none }
def RtFramesWrongFalsely : Prop := rtFramesRow.holds Try.pinned (OpenSpec.ofChange rtFramesWrong)

/- THE SECOND FORM. 'bulk': how many values and letters a reading holds, each counted each time it is reached (what is shared counts as often as it is met; a slice's spare places count too). A statement '..UptoSaid' is the law's where the arguments, and the package variables that the reading takes, are together of bulk at most 1048576: NARROWER than '..Said'. Prove '..Said' where nothing that the law and all that it calls make is longer than what came in: it says more and counts as full. Else prove '..UptoSaid'. A law counts once. -/
mutual
def uptoBulk {H : Type} : DataW H → Nat
  | .lit (.string bytes) => bytes.length + 1
  | .lit _ => 1
  | .nil => 1
  | .ptr d => uptoBulk d + 1
  | .slice elems spare => uptoBulkAll elems + uptoBulkAll spare + 1
  | .agg parts => uptoBulkAll parts + 1
  | .iface _ d => uptoBulk d + 1
  | .map entries => uptoBulkEntries entries + 1
  | .held _ => 1
def uptoBulkAll {H : Type} : List (DataW H) → Nat
  | [] => 0
  | d :: r => uptoBulk d + uptoBulkAll r
def uptoBulkEntries {H : Type} : List (Lit × DataW H) → Nat
  | [] => 0
  | x :: r => uptoBulkEntry x + uptoBulkEntries r
def uptoBulkEntry {H : Type} : Lit × DataW H → Nat
  | (.string bytes, d) => bytes.length + uptoBulk d + 1
  | (_, d) => uptoBulk d + 1
 end
def uptoSmall : (H : Type) → List (DataW H) → Bool := fun _ ds => decide (uptoBulkAll ds ≤ 1048576)
def OpenSpec.upto (s : _root_.Go.ChangeSpec) : _root_.Go.OpenSpec := { _root_.Go.OpenSpec.ofChange s with cond := some uptoSmall }

/-- 'hauberklaw18.RtFrees', WHERE WHAT IT READS IS OF BULK AT MOST 1048576: true; the input reads as it did. -/
def rtFreesUptoRow : OpenClaim := { program := "ytkghggngmpmigaa", sum := "1fe2d3f1241611b94fc19c2413c70f7d6937cfa6a477cc3acb7ca625a7779008", func := "hauberk/hauberklaw18.RtFrees", spec := "rtFrees", unfollowed := true, recurses := true, apart := false, narrowed := true }
def RtFreesUptoSaid : Prop := rtFreesUptoRow.holds Try.pinned (OpenSpec.upto rtFreesSpec)

/-- 'hauberklaw18.RtLimits', WHERE WHAT IT READS IS OF BULK AT MOST 1048576: true; the input reads as it did. -/
def rtLimitsUptoRow : OpenClaim := { program := "ytkghggngmpmigaa", sum := "1fe2d3f1241611b94fc19c2413c70f7d6937cfa6a477cc3acb7ca625a7779008", func := "hauberk/hauberklaw18.RtLimits", spec := "rtLimits", unfollowed := true, recurses := true, apart := false, narrowed := true }
def RtLimitsUptoSaid : Prop := rtLimitsUptoRow.holds Try.pinned (OpenSpec.upto rtLimitsSpec)

/-- 'hauberklaw18.RtShadows', WHERE WHAT IT READS IS OF BULK AT MOST 1048576: true; the input reads as it did. -/
def rtShadowsUptoRow : OpenClaim := { program := "ytkghggngmpmigaa", sum := "1fe2d3f1241611b94fc19c2413c70f7d6937cfa6a477cc3acb7ca625a7779008", func := "hauberk/hauberklaw18.RtShadows", spec := "rtShadows", unfollowed := true, recurses := true, apart := false, narrowed := true }
def RtShadowsUptoSaid : Prop := rtShadowsUptoRow.holds Try.pinned (OpenSpec.upto rtShadowsSpec)

/-- 'hauberklaw18.RtApart', WHERE WHAT IT READS IS OF BULK AT MOST 1048576: true; the input reads as it did. -/
def rtApartUptoRow : OpenClaim := { program := "ytkghggngmpmigaa", sum := "1fe2d3f1241611b94fc19c2413c70f7d6937cfa6a477cc3acb7ca625a7779008", func := "hauberk/hauberklaw18.RtApart", spec := "rtApart", unfollowed := true, recurses := true, apart := false, narrowed := true }
def RtApartUptoSaid : Prop := rtApartUptoRow.holds Try.pinned (OpenSpec.upto rtApartSpec)

/-- 'hauberklaw18.RtFrames', WHERE WHAT IT READS IS OF BULK AT MOST 1048576: true; the input reads as it did. -/
def rtFramesUptoRow : OpenClaim := { program := "ytkghggngmpmigaa", sum := "1fe2d3f1241611b94fc19c2413c70f7d6937cfa6a477cc3acb7ca625a7779008", func := "hauberk/hauberklaw18.RtFrames", spec := "rtFrames", unfollowed := true, recurses := true, apart := false, narrowed := true }
def RtFramesUptoSaid : Prop := rtFramesUptoRow.holds Try.pinned (OpenSpec.upto rtFramesSpec)

end Rows
end Go.Proofs.Ytkghggngmpmigaa
