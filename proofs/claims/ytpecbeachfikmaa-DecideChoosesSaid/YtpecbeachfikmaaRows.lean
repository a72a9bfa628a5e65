/-
  No cell of these rows narrows 'for every input' (looked for: loops, veiled, ifaces, maps, wideKeys, modest, calm, conditions, laid).
  DERIVED. THE GIVEN ROWS OF THIS SEAT. 5 by the template 'for every input the law returns true; each argument reads behind the call as it read before'; 0 by the template 'total and deterministic' (their statements: YtpecbeachfikmaaTotals.lean).
  GIVEN WITH THE SEED: the statements are not yours to turn. If you find one false, say at which input.
  Laid BY PROGRAM, IN A SANDBOX (cutbox-rows.mjs): the forced cells as the released guide's own fill.sh prints them over the translation c9dc909eaa2c4da5… (all of the seat's roots in one cut). By AI agents, Wed Nov 11 2026. No macro, syntax, notation, axiom, sorry.
-/
import Derived.Test.YtpecbeachfikmaaChecked
import GoSem.Claim
import GoSem.ClaimJoined
import GoSem.ClaimMapViews
import Derived.JoinedTies
import Derived.KernelRfl
namespace Go.Proofs.Ytpecbeachfikmaa
/- THE CELL 'sum', in the pinned program and in every row, IS THE sha256 OF THE DUMP (.gsa) THAT YtpecbeachfikmaaProg.lean LOADS. Nothing in Lean hashes anything: it is a label: what it is worth is what the hold of that sum in a sandbox is worth. -/
noncomputable def Try.pinned : Pinned := { name := "ytpecbeachfikmaa", sum := "c9dc909eaa2c4da5f3a324a093e2dbb2c5b70a783dd5e4f95b749a47fbc28c4b", checked := Try.checked }
namespace Rows
def none {H : Type} : Left H := { results := [], args := [] }

/-- 'phalanxlaw23.DecideSteps': WHATEVER THE INPUT: true; the input reads as it did. -/
def decideStepsSpec : ChangeSpec := { name := "decideSteps", fn := fun _ => fun
  | [d1, d2] => { results := [.lit (.bool true)], args := [d1, d2] }
  | _ => none }
def decideStepsRow : OpenClaim := { program := "ytpecbeachfikmaa", sum := "c9dc909eaa2c4da5f3a324a093e2dbb2c5b70a783dd5e4f95b749a47fbc28c4b", func := "phalanx/phalanxlaw23.DecideSteps", spec := "decideSteps", unfollowed := true, recurses := true, plainKeys := false, apart := false }
def DecideStepsSaid : Prop := decideStepsRow.holds Try.pinned (OpenSpec.ofChange decideStepsSpec)

/-- ITS FALSE NEIGHBOUR: 'it returns false'. Refute it at one input. -/
def decideStepsWrong : ChangeSpec := { name := "decideSteps", fn := fun _ => fun
  | [d1, d2] => { results := [.lit (.bool false)], args := [d1, d2] }
  | _ => none }
def DecideStepsWrongFalsely : Prop := decideStepsRow.holds Try.pinned (OpenSpec.ofChange decideStepsWrong)

/-- 'phalanxlaw23.DecideChooses': WHATEVER THE INPUT: true; the input reads as it did. -/
def decideChoosesSpec : ChangeSpec := { name := "decideChooses", fn := fun _ => fun
  | [d1, d2] => { results := [.lit (.bool true)], args := [d1, d2] }
  | _ => none }
def decideChoosesRow : OpenClaim := { program := "ytpecbeachfikmaa", sum := "c9dc909eaa2c4da5f3a324a093e2dbb2c5b70a783dd5e4f95b749a47fbc28c4b", func := "phalanx/phalanxlaw23.DecideChooses", spec := "decideChooses", unfollowed := true, recurses := true, plainKeys := false, apart := false }
def DecideChoosesSaid : Prop := decideChoosesRow.holds Try.pinned (OpenSpec.ofChange decideChoosesSpec)

/-- ITS FALSE NEIGHBOUR: 'it returns false'. Refute it at one input. -/
def decideChoosesWrong : ChangeSpec := { name := "decideChooses", fn := fun _ => fun
  | [d1, d2] => { results := [.lit (.bool false)], args := [d1, d2] }
  | _ => none }
def DecideChoosesWrongFalsely : Prop := decideChoosesRow.holds Try.pinned (OpenSpec.ofChange decideChoosesWrong)

/-- 'phalanxlaw12.PortalBetween': WHATEVER THE INPUT: true; the input reads as it did. -/
def portalBetweenSpec : ChangeSpec := { name := "portalBetween", fn := fun _ => fun
  | [d1, d2, d3] => { results := [.lit (.bool true)], args := [d1, d2, d3] }
  | _ => none }
def portalBetweenRow : OpenClaim := { program := "ytpecbeachfikmaa", sum := "c9dc909eaa2c4da5f3a324a093e2dbb2c5b70a783dd5e4f95b749a47fbc28c4b", func := "phalanx/phalanxlaw12.PortalBetween", spec := "portalBetween", unfollowed := true, recurses := true, plainKeys := false, apart := false }
def PortalBetweenSaid : Prop := portalBetweenRow.holds Try.pinned (OpenSpec.ofChange portalBetweenSpec)

/-- ITS FALSE NEIGHBOUR: 'it returns false'. Refute it at one input. -/
def portalBetweenWrong : ChangeSpec := { name := "portalBetween", fn := fun _ => fun
  | [d1, d2, d3] => { results := [.lit (.bool false)], args := [d1, d2, d3] }
  | _ => none }
def PortalBetweenWrongFalsely : Prop := portalBetweenRow.holds Try.pinned (OpenSpec.ofChange portalBetweenWrong)

/-- 'phalanxlaw12.PortalAll': WHATEVER THE INPUT: true; the input reads as it did. -/
def portalAllSpec : ChangeSpec := { name := "portalAll", fn := fun _ => fun
  | [d1, d2] => { results := [.lit (.bool true)], args := [d1, d2] }
  | _ => none }
def portalAllRow : OpenClaim := { program := "ytpecbeachfikmaa", sum := "c9dc909eaa2c4da5f3a324a093e2dbb2c5b70a783dd5e4f95b749a47fbc28c4b", func := "phalanx/phalanxlaw12.PortalAll", spec := "portalAll", unfollowed := true, recurses := true, plainKeys := false, apart := false }
def PortalAllSaid : Prop := portalAllRow.holds Try.pinned (OpenSpec.ofChange portalAllSpec)

/-- ITS FALSE NEIGHBOUR: 'it returns false'. Refute it at one input. -/
def portalAllWrong : ChangeSpec := { name := "portalAll", fn := fun _ => fun
  | [d1, d2] => { results := [.lit (.bool false)], args := [d1, d2] }
  | _ => none }
def PortalAllWrongFalsely : Prop := portalAllRow.holds Try.pinned (OpenSpec.ofChange portalAllWrong)

/-- 'phalanxlaw12.PortalCrosses': WHATEVER THE INPUT: true; the input reads as it did. -/
def portalCrossesSpec : ChangeSpec := { name := "portalCrosses", fn := fun _ => fun
  | [d1, d2, d3] => { results := [.lit (.bool true)], args := [d1, d2, d3] }
  | _ => none }
def portalCrossesRow : OpenClaim := { program := "ytpecbeachfikmaa", sum := "c9dc909eaa2c4da5f3a324a093e2dbb2c5b70a783dd5e4f95b749a47fbc28c4b", func := "phalanx/phalanxlaw12.PortalCrosses", spec := "portalCrosses", unfollowed := true, recurses := true, plainKeys := false, apart := false }
def PortalCrossesSaid : Prop := portalCrossesRow.holds Try.pinned (OpenSpec.ofChange portalCrossesSpec)

/-- ITS FALSE NEIGHBOUR: 'it returns false'. Refute it at one input. -/
def portalCrossesWrong : ChangeSpec := { name := "portalCrosses", fn := fun _ => fun
  | [d1, d2, d3] => { results := [.lit (.bool false)], args := [d1, d2, d3] }
  | _ => none }
def PortalCrossesWrongFalsely : Prop := portalCrossesRow.holds Try.pinned (OpenSpec.ofChange portalCrossesWrong)

/- THE SECOND FORM. 'bulk': how many values and letters a reading holds, each counted each time it is reached (what is shared counts as often as it is met; a slice's spare places count too). A statement '..UptoSaid' is the law's where the arguments, and the package variables that the reading takes, are together of bulk at most 1048576: NARROWER than '..Said'. Prove '..Said' where nothing that the law and all that it calls make is longer than what came in: it says more and counts as full. Else prove '..UptoSaid'. A law counts once. -/
mutual
def uptoBulk {H : Type} : DataW H → Nat
  | .lit (.string bytes) => bytes.length + 1
  | .lit _ => 1
  | .nil => 1
  | .ptr d => uptoBulk d + 1
  | .slice elems spare => uptoBulkAll elems + uptoBulkAll spare + 1
  | .agg parts => uptoBulkAll parts + 1
  | .iface _ d => uptoBulk d + 1
  | .map entries => uptoBulkEntries entries + 1
  | .held _ => 1
def uptoBulkAll {H : Type} : List (DataW H) → Nat
  | [] => 0
  | d :: r => uptoBulk d + uptoBulkAll r
def uptoBulkEntries {H : Type} : List (Lit × DataW H) → Nat
  | [] => 0
  | x :: r => uptoBulkEntry x + uptoBulkEntries r
def uptoBulkEntry {H : Type} : Lit × DataW H → Nat
  | (.string bytes, d) => bytes.length + uptoBulk d + 1
  | (_, d) => uptoBulk d + 1
 end
def uptoSmall : (H : Type) → List (DataW H) → Bool := fun _ ds => decide (uptoBulkAll ds ≤ 1048576)
def OpenSpec.upto (s : _root_.Go.ChangeSpec) : _root_.Go.OpenSpec := { _root_.Go.OpenSpec.ofChange s with cond := some uptoSmall }

/-- 'phalanxlaw23.DecideSteps', WHERE WHAT IT READS IS OF BULK AT MOST 1048576: true; the input reads as it did. -/
def decideStepsUptoRow : OpenClaim := { program := "ytpecbeachfikmaa", sum := "c9dc909eaa2c4da5f3a324a093e2dbb2c5b70a783dd5e4f95b749a47fbc28c4b", func := "phalanx/phalanxlaw23.DecideSteps", spec := "decideSteps", unfollowed := true, recurses := true, plainKeys := false, apart := false, narrowed := true }
def DecideStepsUptoSaid : Prop := decideStepsUptoRow.holds Try.pinned (OpenSpec.upto decideStepsSpec)

/-- 'phalanxlaw23.DecideChooses', WHERE WHAT IT READS IS OF BULK AT MOST 1048576: true; the input reads as it did. -/
def decideChoosesUptoRow : OpenClaim := { program := "ytpecbeachfikmaa", sum := "c9dc909eaa2c4da5f3a324a093e2dbb2c5b70a783dd5e4f95b749a47fbc28c4b", func := "phalanx/phalanxlaw23.DecideChooses", spec := "decideChooses", unfollowed := true, recurses := true, plainKeys := false, apart := false, narrowed := true }
def DecideChoosesUptoSaid : Prop := decideChoosesUptoRow.holds Try.pinned (OpenSpec.upto decideChoosesSpec)

/-- 'phalanxlaw12.PortalBetween', WHERE WHAT IT READS IS OF BULK AT MOST 1048576: true; the input reads as it did. -/
def portalBetweenUptoRow : OpenClaim := { program := "ytpecbeachfikmaa", sum := "c9dc909eaa2c4da5f3a324a093e2dbb2c5b70a783dd5e4f95b749a47fbc28c4b", func := "phalanx/phalanxlaw12.PortalBetween", spec := "portalBetween", unfollowed := true, recurses := true, plainKeys := false, apart := false, narrowed := true }
def PortalBetweenUptoSaid : Prop := portalBetweenUptoRow.holds Try.pinned (OpenSpec.upto portalBetweenSpec)

/-- 'phalanxlaw12.PortalAll', WHERE WHAT IT READS IS OF BULK AT MOST 1048576: true; the input reads as it did. -/
def portalAllUptoRow : OpenClaim := { program := "ytpecbeachfikmaa", sum := "c9dc909eaa2c4da5f3a324a093e2dbb2c5b70a783dd5e4f95b749a47fbc28c4b", func := "phalanx/phalanxlaw12.PortalAll", spec := "portalAll", unfollowed := true, recurses := true, plainKeys := false, apart := false, narrowed := true }
def PortalAllUptoSaid : Prop := portalAllUptoRow.holds Try.pinned (OpenSpec.upto portalAllSpec)

/-- 'phalanxlaw12.PortalCrosses', WHERE WHAT IT READS IS OF BULK AT MOST 1048576: true; the input reads as it did. -/
def portalCrossesUptoRow : OpenClaim := { program := "ytpecbeachfikmaa", sum := "c9dc909eaa2c4da5f3a324a093e2dbb2c5b70a783dd5e4f95b749a47fbc28c4b", func := "phalanx/phalanxlaw12.PortalCrosses", spec := "portalCrosses", unfollowed := true, recurses := true, plainKeys := false, apart := false, narrowed := true }
def PortalCrossesUptoSaid : Prop := portalCrossesUptoRow.holds Try.pinned (OpenSpec.upto portalCrossesSpec)

end Rows
end Go.Proofs.Ytpecbeachfikmaa
