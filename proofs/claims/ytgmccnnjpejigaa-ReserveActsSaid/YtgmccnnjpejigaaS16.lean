/- ReserveActs: the row. For all units and all claims the law answers true; no conditions. -/
import Derived.Test.YtgmccnnjpejigaaX9
import Derived.Test.YtgmccnnjpejigaaGS
import Derived.Test.YtgmccnnjpejigaaRows
import Derived.SizedLaws
set_option linter.unusedVariables false
set_option linter.unusedSimpArgs false
namespace Go.Proofs.Ytgmccnnjpejigaa.reserveActs
open Go Go.M Go.ChangeShapes Go.WideShapes Go.ChangeAt Go.RowKit
attribute [local irreducible] acallF acode aops adraw aloop
set_option maxRecDepth 100000 in
theorem run (vs : List V) (h : TA Try.prog Try.f13.params.toList vs) : acallF Try.prog pl 12 200000000000000 13 vs [] fun v _ => v = .sc (.bool true) := by
  rw [Try.params13] at h
  obtain ⟨x1, v1, rfl, h1, x2, v2, rfl, h2, rfl⟩ := h
  obtain ⟨lv, E, rfl, he, hid, hEl⟩ := tv_units h1
  obtain ⟨cv, C, rfl, hc, hCl⟩ := tv_claims h2
  simp only [argOf, Try.underlying75, Try.underlying76, List.headD_cons]
  exact l22_Acts (n := 0) (m := 200000000000000) he hid (by omega) hEl hc (by omega) hCl (by omega) fun _ => rfl
theorem own : ownKnob Try.prog.godebug = none := by kernel_rfl
theorem laidOut : laidOutB Try.prog = true := by kernel_rfl
theorem plain : (Try.f13.params.toList.all (plainT Try.prog 16)) = true := by kernel_rfl
theorem again : (Try.f13.params.toList.all fun t => Try.prog.readableRec t && decide (t < Try.prog.types.size)) = true := by kernel_rfl
set_option maxRecDepth 100000 in
theorem lifted (os : Os) (started : os.Started) (H : Type) (enc : TypeId × Value → H) :
    ReturnsInHanded {} Try.checked os 13 .any (Rows.reserveActsSpec.pre6 enc Try.prog Try.f13 Rows.reserveActsRow.domain false) (Rows.reserveActsSpec.post enc Try.prog Try.f13 false true false false) := by
  refine returnsInHanded_of_change_sized (C := Try.checked) own started (by kernel_rfl) Try.func13
    (ChangeSpec.witness6 (enc := enc) (C := Try.checked) false ⟨#[], #[.slice none 0 0, .slice none 0 0], []⟩ 8 (by kernel_rfl) (by kernel_rfl) (by kernel_rfl) (by kernel_rfl)) ?_
  intro W base args ds gs before hval hW _ hsz _
  exact law_contract (B := fun _ => True) follows noGor plans primsOK laidOut plain again rfl Try.underlying4 rfl (fun ds hd => by
    match ds, hd with
    | [d0, d1], _ => rfl) (fun vs h _ => run vs h) hval hW hsz trivial
theorem over : Rows.reserveActsRow.holds Try.pinned (OpenSpec.ofChange Rows.reserveActsSpec) :=
  OpenClaim.holds_of_wide 13 Try.f13 rfl rfl rfl rfl rfl rfl rfl ⟨rfl, rfl, rfl, rfl, rfl⟩ rfl rfl rfl rfl rfl (by kernel_rfl) Try.func13 (by kernel_rfl)
    (of_decide_eq_true (by kernel_rfl)) (by unfold Func.isWrapper; first | (rw [if_pos (by decide +kernel)]; kernel_rfl) | (rw [if_neg (by decide +kernel)]; exact ⟨rfl, rfl⟩))
    (fun os started H enc _ => lifted os started H enc)
end Go.Proofs.Ytgmccnnjpejigaa.reserveActs
namespace Go.Proofs.Ytgmccnnjpejigaa
theorem reserveActs_holds : Rows.ReserveActsSaid := reserveActs.over
end Go.Proofs.Ytgmccnnjpejigaa
