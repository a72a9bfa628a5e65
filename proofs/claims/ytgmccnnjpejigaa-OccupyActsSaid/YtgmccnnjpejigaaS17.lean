/- OccupyActs: the row. For all acts the law answers true; no conditions. -/
import Derived.Test.YtgmccnnjpejigaaX10
import Derived.Test.YtgmccnnjpejigaaGS
import Derived.Test.YtgmccnnjpejigaaRows
import Derived.SizedLaws
set_option linter.unusedVariables false
set_option linter.unusedSimpArgs false
namespace Go.Proofs.Ytgmccnnjpejigaa.occupyActs
open Go Go.M Go.ChangeShapes Go.WideShapes Go.ChangeAt Go.RowKit
attribute [local irreducible] acallF acode aops adraw aloop
set_option maxRecDepth 100000 in
theorem run (vs : List V) (h : TA Try.prog Try.f3.params.toList vs) : acallF Try.prog pl 12 200000000000000 3 vs [] fun v _ => v = .sc (.bool true) := by
  rw [Try.params3] at h
  obtain ⟨x1, v1, rfl, h1, rfl⟩ := h
  obtain ⟨lv, E, rfl, he, hid, hEl⟩ := tv_acts h1
  simp only [argOf, Try.underlying22, List.headD_cons]
  exact l5_Acts (n := 0) (m := 200000000000000) he hid hEl (by omega) (by omega) fun _ => rfl
theorem own : ownKnob Try.prog.godebug = none := by kernel_rfl
theorem laidOut : laidOutB Try.prog = true := by kernel_rfl
theorem plain : (Try.f3.params.toList.all (plainT Try.prog 16)) = true := by kernel_rfl
theorem again : (Try.f3.params.toList.all fun t => Try.prog.readableRec t && decide (t < Try.prog.types.size)) = true := by kernel_rfl
set_option maxRecDepth 100000 in
theorem lifted (os : Os) (started : os.Started) (H : Type) (enc : TypeId × Value → H) :
    ReturnsInHanded {} Try.checked os 3 .any (Rows.occupyActsSpec.pre6 enc Try.prog Try.f3 Rows.occupyActsRow.domain false) (Rows.occupyActsSpec.post enc Try.prog Try.f3 false true false false) := by
  refine returnsInHanded_of_change_sized (C := Try.checked) own started (by kernel_rfl) Try.func3
    (ChangeSpec.witness6 (enc := enc) (C := Try.checked) false ⟨#[], #[.slice none 0 0], []⟩ 8 (by kernel_rfl) (by kernel_rfl) (by kernel_rfl) (by kernel_rfl)) ?_
  intro W base args ds gs before hval hW _ hsz _
  exact law_contract (B := fun _ => True) follows noGor plans primsOK laidOut plain again rfl Try.underlying4 rfl (fun ds hd => by
    match ds, hd with
    | [d0], _ => rfl) (fun vs h _ => run vs h) hval hW hsz trivial
theorem over : Rows.occupyActsRow.holds Try.pinned (OpenSpec.ofChange Rows.occupyActsSpec) :=
  OpenClaim.holds_of_wide 3 Try.f3 rfl rfl rfl rfl rfl rfl rfl ⟨rfl, rfl, rfl, rfl, rfl⟩ rfl rfl rfl rfl rfl (by kernel_rfl) Try.func3 (by kernel_rfl)
    (of_decide_eq_true (by kernel_rfl)) (by unfold Func.isWrapper; first | (rw [if_pos (by decide +kernel)]; kernel_rfl) | (rw [if_neg (by decide +kernel)]; exact ⟨rfl, rfl⟩))
    (fun os started H enc _ => lifted os started H enc)
end Go.Proofs.Ytgmccnnjpejigaa.occupyActs
namespace Go.Proofs.Ytgmccnnjpejigaa
theorem occupyActs_holds : Rows.OccupyActsSaid := occupyActs.over
end Go.Proofs.Ytgmccnnjpejigaa
