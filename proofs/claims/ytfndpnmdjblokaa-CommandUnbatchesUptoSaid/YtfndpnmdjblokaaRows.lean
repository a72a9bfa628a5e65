/-
  No cell of these rows narrows 'for every input' (looked for: loops, veiled, ifaces, maps, wideKeys, modest, calm, conditions, laid).
  DERIVED. THE GIVEN ROWS OF THIS SEAT. 11 by the template 'for every input the law returns true; each argument reads behind the call as it read before'; 0 by the template 'total and deterministic' (their statements: YtfndpnmdjblokaaTotals.lean).
  GIVEN WITH THE SEED: the statements are not yours to turn. If you find one false, say at which input.
  Laid BY PROGRAM, IN A SANDBOX (cutbox-rows.mjs): the forced cells as the released guide's own fill.sh prints them over the translation 80190fe2ae2547a5… (all of the seat's roots in one cut). By AI agents, Wed Nov 11 2026. No macro, syntax, notation, axiom, sorry.
-/
import Derived.Test.YtfndpnmdjblokaaChecked
import GoSem.Claim
import GoSem.ClaimJoined
import GoSem.ClaimMapViews
import Derived.JoinedTies
import Derived.KernelRfl
namespace Go.Proofs.Ytfndpnmdjblokaa
/- THE CELL 'sum', in the pinned program and in every row, IS THE sha256 OF THE DUMP (.gsa) THAT YtfndpnmdjblokaaProg.lean LOADS. Nothing in Lean hashes anything: it is a label: what it is worth is what the hold of that sum in a sandbox is worth. -/
noncomputable def Try.pinned : Pinned := { name := "ytfndpnmdjblokaa", sum := "80190fe2ae2547a57b7c3b6b142746a6cc38018349a042b13ec2c1a44c5c0f71", checked := Try.checked }
namespace Rows
def none {H : Type} : Left H := { results := [], args := [] }

/-- 'phalanxlaw02.WireWrites': WHATEVER THE INPUT: true; the input reads as it did. -/
def wireWritesSpec : ChangeSpec := { name := "wireWrites", fn := fun _ => fun
  | [d1, d2] => { results := [.lit (.bool true)], args := [d1, d2] }
  | _ => none }
def wireWritesRow : OpenClaim := { program := "ytfndpnmdjblokaa", sum := "80190fe2ae2547a57b7c3b6b142746a6cc38018349a042b13ec2c1a44c5c0f71", func := "phalanx/phalanxlaw02.WireWrites", spec := "wireWrites", apart := false }
def WireWritesSaid : Prop := wireWritesRow.holds Try.pinned (OpenSpec.ofChange wireWritesSpec)

/-- ITS FALSE NEIGHBOUR: 'it returns false'. Refute it at one input. -/
def wireWritesWrong : ChangeSpec := { name := "wireWrites", fn := fun _ => fun
  | [d1, d2] => { results := [.lit (.bool false)], args := [d1, d2] }
  | _ => none }
def WireWritesWrongFalsely : Prop := wireWritesRow.holds Try.pinned (OpenSpec.ofChange wireWritesWrong)

/-- 'phalanxlaw02.WireCanonical': WHATEVER THE INPUT: true; the input reads as it did. -/
def wireCanonicalSpec : ChangeSpec := { name := "wireCanonical", fn := fun _ => fun
  | [d] => { results := [.lit (.bool true)], args := [d] }
  | _ => none }
def wireCanonicalRow : OpenClaim := { program := "ytfndpnmdjblokaa", sum := "80190fe2ae2547a57b7c3b6b142746a6cc38018349a042b13ec2c1a44c5c0f71", func := "phalanx/phalanxlaw02.WireCanonical", spec := "wireCanonical", apart := false }
def WireCanonicalSaid : Prop := wireCanonicalRow.holds Try.pinned (OpenSpec.ofChange wireCanonicalSpec)

/-- ITS FALSE NEIGHBOUR: 'it returns false'. Refute it at one input. -/
def wireCanonicalWrong : ChangeSpec := { name := "wireCanonical", fn := fun _ => fun
  | [d] => { results := [.lit (.bool false)], args := [d] }
  | _ => none }
def WireCanonicalWrongFalsely : Prop := wireCanonicalRow.holds Try.pinned (OpenSpec.ofChange wireCanonicalWrong)

/-- 'phalanxlaw02.WireBack': WHATEVER THE INPUT: true; the input reads as it did. -/
def wireBackSpec : ChangeSpec := { name := "wireBack", fn := fun _ => fun
  | [d] => { results := [.lit (.bool true)], args := [d] }
  | _ => none }
def wireBackRow : OpenClaim := { program := "ytfndpnmdjblokaa", sum := "80190fe2ae2547a57b7c3b6b142746a6cc38018349a042b13ec2c1a44c5c0f71", func := "phalanx/phalanxlaw02.WireBack", spec := "wireBack", apart := false }
def WireBackSaid : Prop := wireBackRow.holds Try.pinned (OpenSpec.ofChange wireBackSpec)

/-- ITS FALSE NEIGHBOUR: 'it returns false'. Refute it at one input. -/
def wireBackWrong : ChangeSpec := { name := "wireBack", fn := fun _ => fun
  | [d] => { results := [.lit (.bool false)], args := [d] }
  | _ => none }
def WireBackWrongFalsely : Prop := wireBackRow.holds Try.pinned (OpenSpec.ofChange wireBackWrong)

/-- 'phalanxlaw02.WireNobody': WHATEVER THE INPUT: true; the input reads as it did. -/
def wireNobodySpec : ChangeSpec := { name := "wireNobody", fn := fun _ => fun
  | [d] => { results := [.lit (.bool true)], args := [d] }
  | _ => none }
def wireNobodyRow : OpenClaim := { program := "ytfndpnmdjblokaa", sum := "80190fe2ae2547a57b7c3b6b142746a6cc38018349a042b13ec2c1a44c5c0f71", func := "phalanx/phalanxlaw02.WireNobody", spec := "wireNobody", apart := false }
def WireNobodySaid : Prop := wireNobodyRow.holds Try.pinned (OpenSpec.ofChange wireNobodySpec)

/-- ITS FALSE NEIGHBOUR: 'it returns false'. Refute it at one input. -/
def wireNobodyWrong : ChangeSpec := { name := "wireNobody", fn := fun _ => fun
  | [d] => { results := [.lit (.bool false)], args := [d] }
  | _ => none }
def WireNobodyWrongFalsely : Prop := wireNobodyRow.holds Try.pinned (OpenSpec.ofChange wireNobodyWrong)

/-- 'phalanxlaw02.WireReads': WHATEVER THE INPUT: true; the input reads as it did. -/
def wireReadsSpec : ChangeSpec := { name := "wireReads", fn := fun _ => fun
  | [d1, d2] => { results := [.lit (.bool true)], args := [d1, d2] }
  | _ => none }
def wireReadsRow : OpenClaim := { program := "ytfndpnmdjblokaa", sum := "80190fe2ae2547a57b7c3b6b142746a6cc38018349a042b13ec2c1a44c5c0f71", func := "phalanx/phalanxlaw02.WireReads", spec := "wireReads", apart := false }
def WireReadsSaid : Prop := wireReadsRow.holds Try.pinned (OpenSpec.ofChange wireReadsSpec)

/-- ITS FALSE NEIGHBOUR: 'it returns false'. Refute it at one input. -/
def wireReadsWrong : ChangeSpec := { name := "wireReads", fn := fun _ => fun
  | [d1, d2] => { results := [.lit (.bool false)], args := [d1, d2] }
  | _ => none }
def WireReadsWrongFalsely : Prop := wireReadsRow.holds Try.pinned (OpenSpec.ofChange wireReadsWrong)

/-- 'phalanxlaw24.CommandChecks': WHATEVER THE INPUT: true; the input reads as it did. -/
def commandChecksSpec : ChangeSpec := { name := "commandChecks", fn := fun _ => fun
  | [d] => { results := [.lit (.bool true)], args := [d] }
  | _ => none }
def commandChecksRow : OpenClaim := { program := "ytfndpnmdjblokaa", sum := "80190fe2ae2547a57b7c3b6b142746a6cc38018349a042b13ec2c1a44c5c0f71", func := "phalanx/phalanxlaw24.CommandChecks", spec := "commandChecks", apart := false }
def CommandChecksSaid : Prop := commandChecksRow.holds Try.pinned (OpenSpec.ofChange commandChecksSpec)

/-- ITS FALSE NEIGHBOUR: 'it returns false'. Refute it at one input. -/
def commandChecksWrong : ChangeSpec := { name := "commandChecks", fn := fun _ => fun
  | [d] => { results := [.lit (.bool false)], args := [d] }
  | _ => none }
def CommandChecksWrongFalsely : Prop := commandChecksRow.holds Try.pinned (OpenSpec.ofChange commandChecksWrong)

/-- 'phalanxlaw24.CommandUnlike': WHATEVER THE INPUT: true; the input reads as it did. -/
def commandUnlikeSpec : ChangeSpec := { name := "commandUnlike", fn := fun _ => fun
  | [d1, d2] => { results := [.lit (.bool true)], args := [d1, d2] }
  | _ => none }
def commandUnlikeRow : OpenClaim := { program := "ytfndpnmdjblokaa", sum := "80190fe2ae2547a57b7c3b6b142746a6cc38018349a042b13ec2c1a44c5c0f71", func := "phalanx/phalanxlaw24.CommandUnlike", spec := "commandUnlike", apart := false }
def CommandUnlikeSaid : Prop := commandUnlikeRow.holds Try.pinned (OpenSpec.ofChange commandUnlikeSpec)

/-- ITS FALSE NEIGHBOUR: 'it returns false'. Refute it at one input. -/
def commandUnlikeWrong : ChangeSpec := { name := "commandUnlike", fn := fun _ => fun
  | [d1, d2] => { results := [.lit (.bool false)], args := [d1, d2] }
  | _ => none }
def CommandUnlikeWrongFalsely : Prop := commandUnlikeRow.holds Try.pinned (OpenSpec.ofChange commandUnlikeWrong)

/-- 'phalanxlaw24.CommandOrders': WHATEVER THE INPUT: true; the input reads as it did. -/
def commandOrdersSpec : ChangeSpec := { name := "commandOrders", fn := fun _ => fun
  | [d1, d2, d3] => { results := [.lit (.bool true)], args := [d1, d2, d3] }
  | _ => none }
def commandOrdersRow : OpenClaim := { program := "ytfndpnmdjblokaa", sum := "80190fe2ae2547a57b7c3b6b142746a6cc38018349a042b13ec2c1a44c5c0f71", func := "phalanx/phalanxlaw24.CommandOrders", spec := "commandOrders", apart := false }
def CommandOrdersSaid : Prop := commandOrdersRow.holds Try.pinned (OpenSpec.ofChange commandOrdersSpec)

/-- ITS FALSE NEIGHBOUR: 'it returns false'. Refute it at one input. -/
def commandOrdersWrong : ChangeSpec := { name := "commandOrders", fn := fun _ => fun
  | [d1, d2, d3] => { results := [.lit (.bool false)], args := [d1, d2, d3] }
  | _ => none }
def CommandOrdersWrongFalsely : Prop := commandOrdersRow.holds Try.pinned (OpenSpec.ofChange commandOrdersWrong)

/-- 'phalanxlaw24.CommandDecodes': WHATEVER THE INPUT: true; the input reads as it did. -/
def commandDecodesSpec : ChangeSpec := { name := "commandDecodes", fn := fun _ => fun
  | [d] => { results := [.lit (.bool true)], args := [d] }
  | _ => none }
def commandDecodesRow : OpenClaim := { program := "ytfndpnmdjblokaa", sum := "80190fe2ae2547a57b7c3b6b142746a6cc38018349a042b13ec2c1a44c5c0f71", func := "phalanx/phalanxlaw24.CommandDecodes", spec := "commandDecodes", unfollowed := true, recurses := true, apart := false }
def CommandDecodesSaid : Prop := commandDecodesRow.holds Try.pinned (OpenSpec.ofChange commandDecodesSpec)

/-- ITS FALSE NEIGHBOUR: 'it returns false'. Refute it at one input. -/
def commandDecodesWrong : ChangeSpec := { name := "commandDecodes", fn := fun _ => fun
  | [d] => { results := [.lit (.bool false)], args := [d] }
  | _ => none }
def CommandDecodesWrongFalsely : Prop := commandDecodesRow.holds Try.pinned (OpenSpec.ofChange commandDecodesWrong)

/-- 'phalanxlaw24.CommandCodes': WHATEVER THE INPUT: true; the input reads as it did. -/
def commandCodesSpec : ChangeSpec := { name := "commandCodes", fn := fun _ => fun
  | [d] => { results := [.lit (.bool true)], args := [d] }
  | _ => none }
def commandCodesRow : OpenClaim := { program := "ytfndpnmdjblokaa", sum := "80190fe2ae2547a57b7c3b6b142746a6cc38018349a042b13ec2c1a44c5c0f71", func := "phalanx/phalanxlaw24.CommandCodes", spec := "commandCodes", unfollowed := true, recurses := true, apart := false }
def CommandCodesSaid : Prop := commandCodesRow.holds Try.pinned (OpenSpec.ofChange commandCodesSpec)

/-- ITS FALSE NEIGHBOUR: 'it returns false'. Refute it at one input. -/
def commandCodesWrong : ChangeSpec := { name := "commandCodes", fn := fun _ => fun
  | [d] => { results := [.lit (.bool false)], args := [d] }
  | _ => none }
def CommandCodesWrongFalsely : Prop := commandCodesRow.holds Try.pinned (OpenSpec.ofChange commandCodesWrong)

/-- 'phalanxlaw24.CommandUnbatches': WHATEVER THE INPUT: true; the input reads as it did. -/
def commandUnbatchesSpec : ChangeSpec := { name := "commandUnbatches", fn := fun _ => fun
  | [d] => { results := [.lit (.bool true)], args := [d] }
  | _ => none }
def commandUnbatchesRow : OpenClaim := { program := "ytfndpnmdjblokaa", sum := "80190fe2ae2547a57b7c3b6b142746a6cc38018349a042b13ec2c1a44c5c0f71", func := "phalanx/phalanxlaw24.CommandUnbatches", spec := "commandUnbatches", unfollowed := true, recurses := true, apart := false }
def CommandUnbatchesSaid : Prop := commandUnbatchesRow.holds Try.pinned (OpenSpec.ofChange commandUnbatchesSpec)

/-- ITS FALSE NEIGHBOUR: 'it returns false'. Refute it at one input. -/
def commandUnbatchesWrong : ChangeSpec := { name := "commandUnbatches", fn := fun _ => fun
  | [d] => { results := [.lit (.bool false)], args := [d] }
  | _ => none }
def CommandUnbatchesWrongFalsely : Prop := commandUnbatchesRow.holds Try.pinned (OpenSpec.ofChange commandUnbatchesWrong)

/- THE SECOND FORM. 'bulk': how many values and letters a reading holds, each counted each time it is reached (what is shared counts as often as it is met; a slice's spare places count too). A statement '..UptoSaid' is the law's where the arguments, and the package variables that the reading takes, are together of bulk at most 1048576: NARROWER than '..Said'. Prove '..Said' where nothing that the law and all that it calls make is longer than what came in: it says more and counts as full. Else prove '..UptoSaid'. A law counts once. -/
mutual
def uptoBulk {H : Type} : DataW H → Nat
  | .lit (.string bytes) => bytes.length + 1
  | .lit _ => 1
  | .nil => 1
  | .ptr d => uptoBulk d + 1
  | .slice elems spare => uptoBulkAll elems + uptoBulkAll spare + 1
  | .agg parts => uptoBulkAll parts + 1
  | .iface _ d => uptoBulk d + 1
  | .map entries => uptoBulkEntries entries + 1
  | .held _ => 1
def uptoBulkAll {H : Type} : List (DataW H) → Nat
  | [] => 0
  | d :: r => uptoBulk d + uptoBulkAll r
def uptoBulkEntries {H : Type} : List (Lit × DataW H) → Nat
  | [] => 0
  | x :: r => uptoBulkEntry x + uptoBulkEntries r
def uptoBulkEntry {H : Type} : Lit × DataW H → Nat
  | (.string bytes, d) => bytes.length + uptoBulk d + 1
  | (_, d) => uptoBulk d + 1
 end
def uptoSmall : (H : Type) → List (DataW H) → Bool := fun _ ds => decide (uptoBulkAll ds ≤ 1048576)
def OpenSpec.upto (s : _root_.Go.ChangeSpec) : _root_.Go.OpenSpec := { _root_.Go.OpenSpec.ofChange s with cond := some uptoSmall }

/-- 'phalanxlaw02.WireWrites', WHERE WHAT IT READS IS OF BULK AT MOST 1048576: true; the input reads as it did. -/
def wireWritesUptoRow : OpenClaim := { program := "ytfndpnmdjblokaa", sum := "80190fe2ae2547a57b7c3b6b142746a6cc38018349a042b13ec2c1a44c5c0f71", func := "phalanx/phalanxlaw02.WireWrites", spec := "wireWrites", apart := false, narrowed := true }
def WireWritesUptoSaid : Prop := wireWritesUptoRow.holds Try.pinned (OpenSpec.upto wireWritesSpec)

/-- 'phalanxlaw02.WireCanonical', WHERE WHAT IT READS IS OF BULK AT MOST 1048576: true; the input reads as it did. -/
def wireCanonicalUptoRow : OpenClaim := { program := "ytfndpnmdjblokaa", sum := "80190fe2ae2547a57b7c3b6b142746a6cc38018349a042b13ec2c1a44c5c0f71", func := "phalanx/phalanxlaw02.WireCanonical", spec := "wireCanonical", apart := false, narrowed := true }
def WireCanonicalUptoSaid : Prop := wireCanonicalUptoRow.holds Try.pinned (OpenSpec.upto wireCanonicalSpec)

/-- 'phalanxlaw02.WireBack', WHERE WHAT IT READS IS OF BULK AT MOST 1048576: true; the input reads as it did. -/
def wireBackUptoRow : OpenClaim := { program := "ytfndpnmdjblokaa", sum := "80190fe2ae2547a57b7c3b6b142746a6cc38018349a042b13ec2c1a44c5c0f71", func := "phalanx/phalanxlaw02.WireBack", spec := "wireBack", apart := false, narrowed := true }
def WireBackUptoSaid : Prop := wireBackUptoRow.holds Try.pinned (OpenSpec.upto wireBackSpec)

/-- 'phalanxlaw02.WireNobody', WHERE WHAT IT READS IS OF BULK AT MOST 1048576: true; the input reads as it did. -/
def wireNobodyUptoRow : OpenClaim := { program := "ytfndpnmdjblokaa", sum := "80190fe2ae2547a57b7c3b6b142746a6cc38018349a042b13ec2c1a44c5c0f71", func := "phalanx/phalanxlaw02.WireNobody", spec := "wireNobody", apart := false, narrowed := true }
def WireNobodyUptoSaid : Prop := wireNobodyUptoRow.holds Try.pinned (OpenSpec.upto wireNobodySpec)

/-- 'phalanxlaw02.WireReads', WHERE WHAT IT READS IS OF BULK AT MOST 1048576: true; the input reads as it did. -/
def wireReadsUptoRow : OpenClaim := { program := "ytfndpnmdjblokaa", sum := "80190fe2ae2547a57b7c3b6b142746a6cc38018349a042b13ec2c1a44c5c0f71", func := "phalanx/phalanxlaw02.WireReads", spec := "wireReads", apart := false, narrowed := true }
def WireReadsUptoSaid : Prop := wireReadsUptoRow.holds Try.pinned (OpenSpec.upto wireReadsSpec)

/-- 'phalanxlaw24.CommandChecks', WHERE WHAT IT READS IS OF BULK AT MOST 1048576: true; the input reads as it did. -/
def commandChecksUptoRow : OpenClaim := { program := "ytfndpnmdjblokaa", sum := "80190fe2ae2547a57b7c3b6b142746a6cc38018349a042b13ec2c1a44c5c0f71", func := "phalanx/phalanxlaw24.CommandChecks", spec := "commandChecks", apart := false, narrowed := true }
def CommandChecksUptoSaid : Prop := commandChecksUptoRow.holds Try.pinned (OpenSpec.upto commandChecksSpec)

/-- 'phalanxlaw24.CommandUnlike', WHERE WHAT IT READS IS OF BULK AT MOST 1048576: true; the input reads as it did. -/
def commandUnlikeUptoRow : OpenClaim := { program := "ytfndpnmdjblokaa", sum := "80190fe2ae2547a57b7c3b6b142746a6cc38018349a042b13ec2c1a44c5c0f71", func := "phalanx/phalanxlaw24.CommandUnlike", spec := "commandUnlike", apart := false, narrowed := true }
def CommandUnlikeUptoSaid : Prop := commandUnlikeUptoRow.holds Try.pinned (OpenSpec.upto commandUnlikeSpec)

/-- 'phalanxlaw24.CommandOrders', WHERE WHAT IT READS IS OF BULK AT MOST 1048576: true; the input reads as it did. -/
def commandOrdersUptoRow : OpenClaim := { program := "ytfndpnmdjblokaa", sum := "80190fe2ae2547a57b7c3b6b142746a6cc38018349a042b13ec2c1a44c5c0f71", func := "phalanx/phalanxlaw24.CommandOrders", spec := "commandOrders", apart := false, narrowed := true }
def CommandOrdersUptoSaid : Prop := commandOrdersUptoRow.holds Try.pinned (OpenSpec.upto commandOrdersSpec)

/-- 'phalanxlaw24.CommandDecodes', WHERE WHAT IT READS IS OF BULK AT MOST 1048576: true; the input reads as it did. -/
def commandDecodesUptoRow : OpenClaim := { program := "ytfndpnmdjblokaa", sum := "80190fe2ae2547a57b7c3b6b142746a6cc38018349a042b13ec2c1a44c5c0f71", func := "phalanx/phalanxlaw24.CommandDecodes", spec := "commandDecodes", unfollowed := true, recurses := true, apart := false, narrowed := true }
def CommandDecodesUptoSaid : Prop := commandDecodesUptoRow.holds Try.pinned (OpenSpec.upto commandDecodesSpec)

/-- 'phalanxlaw24.CommandCodes', WHERE WHAT IT READS IS OF BULK AT MOST 1048576: true; the input reads as it did. -/
def commandCodesUptoRow : OpenClaim := { program := "ytfndpnmdjblokaa", sum := "80190fe2ae2547a57b7c3b6b142746a6cc38018349a042b13ec2c1a44c5c0f71", func := "phalanx/phalanxlaw24.CommandCodes", spec := "commandCodes", unfollowed := true, recurses := true, apart := false, narrowed := true }
def CommandCodesUptoSaid : Prop := commandCodesUptoRow.holds Try.pinned (OpenSpec.upto commandCodesSpec)

/-- 'phalanxlaw24.CommandUnbatches', WHERE WHAT IT READS IS OF BULK AT MOST 1048576: true; the input reads as it did. -/
def commandUnbatchesUptoRow : OpenClaim := { program := "ytfndpnmdjblokaa", sum := "80190fe2ae2547a57b7c3b6b142746a6cc38018349a042b13ec2c1a44c5c0f71", func := "phalanx/phalanxlaw24.CommandUnbatches", spec := "commandUnbatches", unfollowed := true, recurses := true, apart := false, narrowed := true }
def CommandUnbatchesUptoSaid : Prop := commandUnbatchesUptoRow.holds Try.pinned (OpenSpec.upto commandUnbatchesSpec)

end Rows
end Go.Proofs.Ytfndpnmdjblokaa
