/-
  No cell of these rows narrows 'for every input' (looked for: loops, veiled, ifaces, maps, wideKeys, modest, calm, conditions, laid).
  DERIVED. THE GIVEN ROWS OF THIS SEAT. 12 by the template 'for every input the law returns true; each argument reads behind the call as it read before'; 0 by the template 'total and deterministic' (their statements: YtgmccnnjpejigaaTotals.lean).
  GIVEN WITH THE SEED: the statements are not yours to turn. If you find one false, say at which input.
  Laid BY PROGRAM, IN A SANDBOX (cutbox-rows.mjs): the forced cells as the released guide's own fill.sh prints them over the translation 36d9b36f7a671282… (all of the seat's roots in one cut). By AI agents, Wed Nov 11 2026. No macro, syntax, notation, axiom, sorry.
-/
import Derived.Test.YtgmccnnjpejigaaChecked
import GoSem.Claim
import GoSem.ClaimJoined
import GoSem.ClaimMapViews
import Derived.JoinedTies
import Derived.KernelRfl
namespace Go.Proofs.Ytgmccnnjpejigaa
/- THE CELL 'sum', in the pinned program and in every row, IS THE sha256 OF THE DUMP (.gsa) THAT YtgmccnnjpejigaaProg.lean LOADS. Nothing in Lean hashes anything: it is a label: what it is worth is what the hold of that sum in a sandbox is worth. -/
noncomputable def Try.pinned : Pinned := { name := "ytgmccnnjpejigaa", sum := "36d9b36f7a671282ca9abde3bbfeb2adeeba611ea0814f75e20664479900d85e", checked := Try.checked }
namespace Rows
def none {H : Type} : Left H := { results := [], args := [] }

/-- 'phalanxlaw05.OccupyActs': WHATEVER THE INPUT: true; the input reads as it did. -/
def occupyActsSpec : ChangeSpec := { name := "occupyActs", fn := fun _ => fun
  | [d] => { results := [.lit (.bool true)], args := [d] }
  | _ => none }
def occupyActsRow : OpenClaim := { program := "ytgmccnnjpejigaa", sum := "36d9b36f7a671282ca9abde3bbfeb2adeeba611ea0814f75e20664479900d85e", func := "phalanx/phalanxlaw05.OccupyActs", spec := "occupyActs", unfollowed := true, recurses := true, plainKeys := false, apart := false }
def OccupyActsSaid : Prop := occupyActsRow.holds Try.pinned (OpenSpec.ofChange occupyActsSpec)

/-- ITS FALSE NEIGHBOUR: 'it returns false'. Refute it at one input. -/
def occupyActsWrong : ChangeSpec := { name := "occupyActs", fn := fun _ => fun
  | [d] => { results := [.lit (.bool false)], args := [d] }
  | _ => none }
def OccupyActsWrongFalsely : Prop := occupyActsRow.holds Try.pinned (OpenSpec.ofChange occupyActsWrong)

/-- 'phalanxlaw05.OccupyApart': WHATEVER THE INPUT: true; the input reads as it did. -/
def occupyApartSpec : ChangeSpec := { name := "occupyApart", fn := fun _ => fun
  | [d] => { results := [.lit (.bool true)], args := [d] }
  | _ => none }
def occupyApartRow : OpenClaim := { program := "ytgmccnnjpejigaa", sum := "36d9b36f7a671282ca9abde3bbfeb2adeeba611ea0814f75e20664479900d85e", func := "phalanx/phalanxlaw05.OccupyApart", spec := "occupyApart", unfollowed := true, recurses := true, plainKeys := false, apart := false }
def OccupyApartSaid : Prop := occupyApartRow.holds Try.pinned (OpenSpec.ofChange occupyApartSpec)

/-- ITS FALSE NEIGHBOUR: 'it returns false'. Refute it at one input. -/
def occupyApartWrong : ChangeSpec := { name := "occupyApart", fn := fun _ => fun
  | [d] => { results := [.lit (.bool false)], args := [d] }
  | _ => none }
def OccupyApartWrongFalsely : Prop := occupyApartRow.holds Try.pinned (OpenSpec.ofChange occupyApartWrong)

/-- 'phalanxlaw05.OccupyAsks': WHATEVER THE INPUT: true; the input reads as it did. -/
def occupyAsksSpec : ChangeSpec := { name := "occupyAsks", fn := fun _ => fun
  | [d1, d2, d3] => { results := [.lit (.bool true)], args := [d1, d2, d3] }
  | _ => none }
def occupyAsksRow : OpenClaim := { program := "ytgmccnnjpejigaa", sum := "36d9b36f7a671282ca9abde3bbfeb2adeeba611ea0814f75e20664479900d85e", func := "phalanx/phalanxlaw05.OccupyAsks", spec := "occupyAsks", unfollowed := true, recurses := true, plainKeys := false, apart := false }
def OccupyAsksSaid : Prop := occupyAsksRow.holds Try.pinned (OpenSpec.ofChange occupyAsksSpec)

/-- ITS FALSE NEIGHBOUR: 'it returns false'. Refute it at one input. -/
def occupyAsksWrong : ChangeSpec := { name := "occupyAsks", fn := fun _ => fun
  | [d1, d2, d3] => { results := [.lit (.bool false)], args := [d1, d2, d3] }
  | _ => none }
def OccupyAsksWrongFalsely : Prop := occupyAsksRow.holds Try.pinned (OpenSpec.ofChange occupyAsksWrong)

/-- 'phalanxlaw05.OccupyNobody': WHATEVER THE INPUT: true; the input reads as it did. -/
def occupyNobodySpec : ChangeSpec := { name := "occupyNobody", fn := fun _ => fun
  | [d] => { results := [.lit (.bool true)], args := [d] }
  | _ => none }
def occupyNobodyRow : OpenClaim := { program := "ytgmccnnjpejigaa", sum := "36d9b36f7a671282ca9abde3bbfeb2adeeba611ea0814f75e20664479900d85e", func := "phalanx/phalanxlaw05.OccupyNobody", spec := "occupyNobody", unfollowed := true, recurses := true, plainKeys := false, apart := false }
def OccupyNobodySaid : Prop := occupyNobodyRow.holds Try.pinned (OpenSpec.ofChange occupyNobodySpec)

/-- ITS FALSE NEIGHBOUR: 'it returns false'. Refute it at one input. -/
def occupyNobodyWrong : ChangeSpec := { name := "occupyNobody", fn := fun _ => fun
  | [d] => { results := [.lit (.bool false)], args := [d] }
  | _ => none }
def OccupyNobodyWrongFalsely : Prop := occupyNobodyRow.holds Try.pinned (OpenSpec.ofChange occupyNobodyWrong)

/-- 'phalanxlaw18.AssignMatches': WHATEVER THE INPUT: true; the input reads as it did. -/
def assignMatchesSpec : ChangeSpec := { name := "assignMatches", fn := fun _ => fun
  | [d1, d2] => { results := [.lit (.bool true)], args := [d1, d2] }
  | _ => none }
def assignMatchesRow : OpenClaim := { program := "ytgmccnnjpejigaa", sum := "36d9b36f7a671282ca9abde3bbfeb2adeeba611ea0814f75e20664479900d85e", func := "phalanx/phalanxlaw18.AssignMatches", spec := "assignMatches", inPlace := ["math/bits.Add64"], unfollowed := true, recurses := true, plainKeys := false, apart := false }
def AssignMatchesSaid : Prop := assignMatchesRow.holds Try.pinned (OpenSpec.ofChange assignMatchesSpec)

/-- ITS FALSE NEIGHBOUR: 'it returns false'. Refute it at one input. -/
def assignMatchesWrong : ChangeSpec := { name := "assignMatches", fn := fun _ => fun
  | [d1, d2] => { results := [.lit (.bool false)], args := [d1, d2] }
  | _ => none }
def AssignMatchesWrongFalsely : Prop := assignMatchesRow.holds Try.pinned (OpenSpec.ofChange assignMatchesWrong)

/-- 'phalanxlaw18.AssignTotals': WHATEVER THE INPUT: true; the input reads as it did. -/
def assignTotalsSpec : ChangeSpec := { name := "assignTotals", fn := fun _ => fun
  | [d1, d2, d3] => { results := [.lit (.bool true)], args := [d1, d2, d3] }
  | _ => none }
def assignTotalsRow : OpenClaim := { program := "ytgmccnnjpejigaa", sum := "36d9b36f7a671282ca9abde3bbfeb2adeeba611ea0814f75e20664479900d85e", func := "phalanx/phalanxlaw18.AssignTotals", spec := "assignTotals", inPlace := ["math/bits.Add64"], unfollowed := true, recurses := true, plainKeys := false, apart := false }
def AssignTotalsSaid : Prop := assignTotalsRow.holds Try.pinned (OpenSpec.ofChange assignTotalsSpec)

/-- ITS FALSE NEIGHBOUR: 'it returns false'. Refute it at one input. -/
def assignTotalsWrong : ChangeSpec := { name := "assignTotals", fn := fun _ => fun
  | [d1, d2, d3] => { results := [.lit (.bool false)], args := [d1, d2, d3] }
  | _ => none }
def AssignTotalsWrongFalsely : Prop := assignTotalsRow.holds Try.pinned (OpenSpec.ofChange assignTotalsWrong)

/-- 'phalanxlaw18.AssignStable': WHATEVER THE INPUT: true; the input reads as it did. -/
def assignStableSpec : ChangeSpec := { name := "assignStable", fn := fun _ => fun
  | [d1, d2] => { results := [.lit (.bool true)], args := [d1, d2] }
  | _ => none }
def assignStableRow : OpenClaim := { program := "ytgmccnnjpejigaa", sum := "36d9b36f7a671282ca9abde3bbfeb2adeeba611ea0814f75e20664479900d85e", func := "phalanx/phalanxlaw18.AssignStable", spec := "assignStable", inPlace := ["math/bits.Add64"], unfollowed := true, recurses := true, plainKeys := false, apart := false }
def AssignStableSaid : Prop := assignStableRow.holds Try.pinned (OpenSpec.ofChange assignStableSpec)

/-- ITS FALSE NEIGHBOUR: 'it returns false'. Refute it at one input. -/
def assignStableWrong : ChangeSpec := { name := "assignStable", fn := fun _ => fun
  | [d1, d2] => { results := [.lit (.bool false)], args := [d1, d2] }
  | _ => none }
def AssignStableWrongFalsely : Prop := assignStableRow.holds Try.pinned (OpenSpec.ofChange assignStableWrong)

/-- 'phalanxlaw18.AssignOnly': WHATEVER THE INPUT: true; the input reads as it did. -/
def assignOnlySpec : ChangeSpec := { name := "assignOnly", fn := fun _ => fun
  | [d1, d2, d3] => { results := [.lit (.bool true)], args := [d1, d2, d3] }
  | _ => none }
def assignOnlyRow : OpenClaim := { program := "ytgmccnnjpejigaa", sum := "36d9b36f7a671282ca9abde3bbfeb2adeeba611ea0814f75e20664479900d85e", func := "phalanx/phalanxlaw18.AssignOnly", spec := "assignOnly", inPlace := ["math/bits.Add64"], unfollowed := true, recurses := true, plainKeys := false, apart := false }
def AssignOnlySaid : Prop := assignOnlyRow.holds Try.pinned (OpenSpec.ofChange assignOnlySpec)

/-- ITS FALSE NEIGHBOUR: 'it returns false'. Refute it at one input. -/
def assignOnlyWrong : ChangeSpec := { name := "assignOnly", fn := fun _ => fun
  | [d1, d2, d3] => { results := [.lit (.bool false)], args := [d1, d2, d3] }
  | _ => none }
def AssignOnlyWrongFalsely : Prop := assignOnlyRow.holds Try.pinned (OpenSpec.ofChange assignOnlyWrong)

/-- 'phalanxlaw22.ReserveSwaps': WHATEVER THE INPUT: true; the input reads as it did. -/
def reserveSwapsSpec : ChangeSpec := { name := "reserveSwaps", fn := fun _ => fun
  | [d1, d2] => { results := [.lit (.bool true)], args := [d1, d2] }
  | _ => none }
def reserveSwapsRow : OpenClaim := { program := "ytgmccnnjpejigaa", sum := "36d9b36f7a671282ca9abde3bbfeb2adeeba611ea0814f75e20664479900d85e", func := "phalanx/phalanxlaw22.ReserveSwaps", spec := "reserveSwaps", unfollowed := true, recurses := true, plainKeys := false, apart := false }
def ReserveSwapsSaid : Prop := reserveSwapsRow.holds Try.pinned (OpenSpec.ofChange reserveSwapsSpec)

/-- ITS FALSE NEIGHBOUR: 'it returns false'. Refute it at one input. -/
def reserveSwapsWrong : ChangeSpec := { name := "reserveSwaps", fn := fun _ => fun
  | [d1, d2] => { results := [.lit (.bool false)], args := [d1, d2] }
  | _ => none }
def ReserveSwapsWrongFalsely : Prop := reserveSwapsRow.holds Try.pinned (OpenSpec.ofChange reserveSwapsWrong)

/-- 'phalanxlaw22.ReserveNobody': WHATEVER THE INPUT: true; the input reads as it did. -/
def reserveNobodySpec : ChangeSpec := { name := "reserveNobody", fn := fun _ => fun
  | [d] => { results := [.lit (.bool true)], args := [d] }
  | _ => none }
def reserveNobodyRow : OpenClaim := { program := "ytgmccnnjpejigaa", sum := "36d9b36f7a671282ca9abde3bbfeb2adeeba611ea0814f75e20664479900d85e", func := "phalanx/phalanxlaw22.ReserveNobody", spec := "reserveNobody", unfollowed := true, recurses := true, plainKeys := false, apart := false }
def ReserveNobodySaid : Prop := reserveNobodyRow.holds Try.pinned (OpenSpec.ofChange reserveNobodySpec)

/-- ITS FALSE NEIGHBOUR: 'it returns false'. Refute it at one input. -/
def reserveNobodyWrong : ChangeSpec := { name := "reserveNobody", fn := fun _ => fun
  | [d] => { results := [.lit (.bool false)], args := [d] }
  | _ => none }
def ReserveNobodyWrongFalsely : Prop := reserveNobodyRow.holds Try.pinned (OpenSpec.ofChange reserveNobodyWrong)

/-- 'phalanxlaw22.ReserveActs': WHATEVER THE INPUT: true; the input reads as it did. -/
def reserveActsSpec : ChangeSpec := { name := "reserveActs", fn := fun _ => fun
  | [d1, d2] => { results := [.lit (.bool true)], args := [d1, d2] }
  | _ => none }
def reserveActsRow : OpenClaim := { program := "ytgmccnnjpejigaa", sum := "36d9b36f7a671282ca9abde3bbfeb2adeeba611ea0814f75e20664479900d85e", func := "phalanx/phalanxlaw22.ReserveActs", spec := "reserveActs", unfollowed := true, recurses := true, plainKeys := false, apart := false }
def ReserveActsSaid : Prop := reserveActsRow.holds Try.pinned (OpenSpec.ofChange reserveActsSpec)

/-- ITS FALSE NEIGHBOUR: 'it returns false'. Refute it at one input. -/
def reserveActsWrong : ChangeSpec := { name := "reserveActs", fn := fun _ => fun
  | [d1, d2] => { results := [.lit (.bool false)], args := [d1, d2] }
  | _ => none }
def ReserveActsWrongFalsely : Prop := reserveActsRow.holds Try.pinned (OpenSpec.ofChange reserveActsWrong)

/-- 'phalanxlaw22.ReserveApart': WHATEVER THE INPUT: true; the input reads as it did. -/
def reserveApartSpec : ChangeSpec := { name := "reserveApart", fn := fun _ => fun
  | [d1, d2] => { results := [.lit (.bool true)], args := [d1, d2] }
  | _ => none }
def reserveApartRow : OpenClaim := { program := "ytgmccnnjpejigaa", sum := "36d9b36f7a671282ca9abde3bbfeb2adeeba611ea0814f75e20664479900d85e", func := "phalanx/phalanxlaw22.ReserveApart", spec := "reserveApart", unfollowed := true, recurses := true, plainKeys := false, apart := false }
def ReserveApartSaid : Prop := reserveApartRow.holds Try.pinned (OpenSpec.ofChange reserveApartSpec)

/-- ITS FALSE NEIGHBOUR: 'it returns false'. Refute it at one input. -/
def reserveApartWrong : ChangeSpec := { name := "reserveApart", fn := fun _ => fun
  | [d1, d2] => { results := [.lit (.bool false)], args := [d1, d2] }
  | _ => none }
def ReserveApartWrongFalsely : Prop := reserveApartRow.holds Try.pinned (OpenSpec.ofChange reserveApartWrong)

/- THE SECOND FORM. 'bulk': how many values and letters a reading holds, each counted each time it is reached (what is shared counts as often as it is met; a slice's spare places count too). A statement '..UptoSaid' is the law's where the arguments, and the package variables that the reading takes, are together of bulk at most 1048576: NARROWER than '..Said'. Prove '..Said' where nothing that the law and all that it calls make is longer than what came in: it says more and counts as full. Else prove '..UptoSaid'. A law counts once. -/
mutual
def uptoBulk {H : Type} : DataW H → Nat
  | .lit (.string bytes) => bytes.length + 1
  | .lit _ => 1
  | .nil => 1
  | .ptr d => uptoBulk d + 1
  | .slice elems spare => uptoBulkAll elems + uptoBulkAll spare + 1
  | .agg parts => uptoBulkAll parts + 1
  | .iface _ d => uptoBulk d + 1
  | .map entries => uptoBulkEntries entries + 1
  | .held _ => 1
def uptoBulkAll {H : Type} : List (DataW H) → Nat
  | [] => 0
  | d :: r => uptoBulk d + uptoBulkAll r
def uptoBulkEntries {H : Type} : List (Lit × DataW H) → Nat
  | [] => 0
  | x :: r => uptoBulkEntry x + uptoBulkEntries r
def uptoBulkEntry {H : Type} : Lit × DataW H → Nat
  | (.string bytes, d) => bytes.length + uptoBulk d + 1
  | (_, d) => uptoBulk d + 1
 end
def uptoSmall : (H : Type) → List (DataW H) → Bool := fun _ ds => decide (uptoBulkAll ds ≤ 1048576)
def OpenSpec.upto (s : _root_.Go.ChangeSpec) : _root_.Go.OpenSpec := { _root_.Go.OpenSpec.ofChange s with cond := some uptoSmall }

/-- 'phalanxlaw05.OccupyActs', WHERE WHAT IT READS IS OF BULK AT MOST 1048576: true; the input reads as it did. -/
def occupyActsUptoRow : OpenClaim := { program := "ytgmccnnjpejigaa", sum := "36d9b36f7a671282ca9abde3bbfeb2adeeba611ea0814f75e20664479900d85e", func := "phalanx/phalanxlaw05.OccupyActs", spec := "occupyActs", unfollowed := true, recurses := true, plainKeys := false, apart := false, narrowed := true }
def OccupyActsUptoSaid : Prop := occupyActsUptoRow.holds Try.pinned (OpenSpec.upto occupyActsSpec)

/-- 'phalanxlaw05.OccupyApart', WHERE WHAT IT READS IS OF BULK AT MOST 1048576: true; the input reads as it did. -/
def occupyApartUptoRow : OpenClaim := { program := "ytgmccnnjpejigaa", sum := "36d9b36f7a671282ca9abde3bbfeb2adeeba611ea0814f75e20664479900d85e", func := "phalanx/phalanxlaw05.OccupyApart", spec := "occupyApart", unfollowed := true, recurses := true, plainKeys := false, apart := false, narrowed := true }
def OccupyApartUptoSaid : Prop := occupyApartUptoRow.holds Try.pinned (OpenSpec.upto occupyApartSpec)

/-- 'phalanxlaw05.OccupyAsks', WHERE WHAT IT READS IS OF BULK AT MOST 1048576: true; the input reads as it did. -/
def occupyAsksUptoRow : OpenClaim := { program := "ytgmccnnjpejigaa", sum := "36d9b36f7a671282ca9abde3bbfeb2adeeba611ea0814f75e20664479900d85e", func := "phalanx/phalanxlaw05.OccupyAsks", spec := "occupyAsks", unfollowed := true, recurses := true, plainKeys := false, apart := false, narrowed := true }
def OccupyAsksUptoSaid : Prop := occupyAsksUptoRow.holds Try.pinned (OpenSpec.upto occupyAsksSpec)

/-- 'phalanxlaw05.OccupyNobody', WHERE WHAT IT READS IS OF BULK AT MOST 1048576: true; the input reads as it did. -/
def occupyNobodyUptoRow : OpenClaim := { program := "ytgmccnnjpejigaa", sum := "36d9b36f7a671282ca9abde3bbfeb2adeeba611ea0814f75e20664479900d85e", func := "phalanx/phalanxlaw05.OccupyNobody", spec := "occupyNobody", unfollowed := true, recurses := true, plainKeys := false, apart := false, narrowed := true }
def OccupyNobodyUptoSaid : Prop := occupyNobodyUptoRow.holds Try.pinned (OpenSpec.upto occupyNobodySpec)

/-- 'phalanxlaw18.AssignMatches', WHERE WHAT IT READS IS OF BULK AT MOST 1048576: true; the input reads as it did. -/
def assignMatchesUptoRow : OpenClaim := { program := "ytgmccnnjpejigaa", sum := "36d9b36f7a671282ca9abde3bbfeb2adeeba611ea0814f75e20664479900d85e", func := "phalanx/phalanxlaw18.AssignMatches", spec := "assignMatches", inPlace := ["math/bits.Add64"], unfollowed := true, recurses := true, plainKeys := false, apart := false, narrowed := true }
def AssignMatchesUptoSaid : Prop := assignMatchesUptoRow.holds Try.pinned (OpenSpec.upto assignMatchesSpec)

/-- 'phalanxlaw18.AssignTotals', WHERE WHAT IT READS IS OF BULK AT MOST 1048576: true; the input reads as it did. -/
def assignTotalsUptoRow : OpenClaim := { program := "ytgmccnnjpejigaa", sum := "36d9b36f7a671282ca9abde3bbfeb2adeeba611ea0814f75e20664479900d85e", func := "phalanx/phalanxlaw18.AssignTotals", spec := "assignTotals", inPlace := ["math/bits.Add64"], unfollowed := true, recurses := true, plainKeys := false, apart := false, narrowed := true }
def AssignTotalsUptoSaid : Prop := assignTotalsUptoRow.holds Try.pinned (OpenSpec.upto assignTotalsSpec)

/-- 'phalanxlaw18.AssignStable', WHERE WHAT IT READS IS OF BULK AT MOST 1048576: true; the input reads as it did. -/
def assignStableUptoRow : OpenClaim := { program := "ytgmccnnjpejigaa", sum := "36d9b36f7a671282ca9abde3bbfeb2adeeba611ea0814f75e20664479900d85e", func := "phalanx/phalanxlaw18.AssignStable", spec := "assignStable", inPlace := ["math/bits.Add64"], unfollowed := true, recurses := true, plainKeys := false, apart := false, narrowed := true }
def AssignStableUptoSaid : Prop := assignStableUptoRow.holds Try.pinned (OpenSpec.upto assignStableSpec)

/-- 'phalanxlaw18.AssignOnly', WHERE WHAT IT READS IS OF BULK AT MOST 1048576: true; the input reads as it did. -/
def assignOnlyUptoRow : OpenClaim := { program := "ytgmccnnjpejigaa", sum := "36d9b36f7a671282ca9abde3bbfeb2adeeba611ea0814f75e20664479900d85e", func := "phalanx/phalanxlaw18.AssignOnly", spec := "assignOnly", inPlace := ["math/bits.Add64"], unfollowed := true, recurses := true, plainKeys := false, apart := false, narrowed := true }
def AssignOnlyUptoSaid : Prop := assignOnlyUptoRow.holds Try.pinned (OpenSpec.upto assignOnlySpec)

/-- 'phalanxlaw22.ReserveSwaps', WHERE WHAT IT READS IS OF BULK AT MOST 1048576: true; the input reads as it did. -/
def reserveSwapsUptoRow : OpenClaim := { program := "ytgmccnnjpejigaa", sum := "36d9b36f7a671282ca9abde3bbfeb2adeeba611ea0814f75e20664479900d85e", func := "phalanx/phalanxlaw22.ReserveSwaps", spec := "reserveSwaps", unfollowed := true, recurses := true, plainKeys := false, apart := false, narrowed := true }
def ReserveSwapsUptoSaid : Prop := reserveSwapsUptoRow.holds Try.pinned (OpenSpec.upto reserveSwapsSpec)

/-- 'phalanxlaw22.ReserveNobody', WHERE WHAT IT READS IS OF BULK AT MOST 1048576: true; the input reads as it did. -/
def reserveNobodyUptoRow : OpenClaim := { program := "ytgmccnnjpejigaa", sum := "36d9b36f7a671282ca9abde3bbfeb2adeeba611ea0814f75e20664479900d85e", func := "phalanx/phalanxlaw22.ReserveNobody", spec := "reserveNobody", unfollowed := true, recurses := true, plainKeys := false, apart := false, narrowed := true }
def ReserveNobodyUptoSaid : Prop := reserveNobodyUptoRow.holds Try.pinned (OpenSpec.upto reserveNobodySpec)

/-- 'phalanxlaw22.ReserveActs', WHERE WHAT IT READS IS OF BULK AT MOST 1048576: true; the input reads as it did. -/
def reserveActsUptoRow : OpenClaim := { program := "ytgmccnnjpejigaa", sum := "36d9b36f7a671282ca9abde3bbfeb2adeeba611ea0814f75e20664479900d85e", func := "phalanx/phalanxlaw22.ReserveActs", spec := "reserveActs", unfollowed := true, recurses := true, plainKeys := false, apart := false, narrowed := true }
def ReserveActsUptoSaid : Prop := reserveActsUptoRow.holds Try.pinned (OpenSpec.upto reserveActsSpec)

/-- 'phalanxlaw22.ReserveApart', WHERE WHAT IT READS IS OF BULK AT MOST 1048576: true; the input reads as it did. -/
def reserveApartUptoRow : OpenClaim := { program := "ytgmccnnjpejigaa", sum := "36d9b36f7a671282ca9abde3bbfeb2adeeba611ea0814f75e20664479900d85e", func := "phalanx/phalanxlaw22.ReserveApart", spec := "reserveApart", unfollowed := true, recurses := true, plainKeys := false, apart := false, narrowed := true }
def ReserveApartUptoSaid : Prop := reserveApartUptoRow.holds Try.pinned (OpenSpec.upto reserveApartSpec)

end Rows
end Go.Proofs.Ytgmccnnjpejigaa
