/- GridNobody: the row. For every building the law answers true; no conditions. -/
import Derived.Test.YtndjhaeeldegfaaG11
import Derived.Test.YtndjhaeeldegfaaRows
import Derived.SizedLaws
set_option linter.unusedVariables false
set_option linter.unusedSimpArgs false
namespace Go.Proofs.Ytndjhaeeldegfaa.gridNobody
open Go Go.M Go.ChangeShapes Go.WideShapes Go.ChangeAt Go.RowKit
attribute [local irreducible] acallF acode aops adraw aloop
set_option maxRecDepth 100000 in
theorem run (vs : List V) (h : TA Try.prog Try.f12.params.toList vs) : acallF Try.prog pl 11 400 12 vs [] fun v _ => v = .sc (.bool true) := by
  rw [Try.params12] at h
  obtain ⟨xs, vs', rfl, h, rfl⟩ := h
  have h := tv_struct h Try.underlying90
  obtain ⟨y1, z1, rfl, h1, h⟩ := h
  obtain ⟨y2, z2, rfl, h2, h⟩ := h
  obtain rfl : z2 = [] := h
  obtain ⟨i, rfl, _⟩ := tv_int h1 Try.underlying3
  have h := tv_struct h2 Try.underlying78
  obtain ⟨a0, b0, rfl, j0, h⟩ := h
  obtain ⟨a1, b1, rfl, j1, h⟩ := h
  obtain ⟨a2, b2, rfl, j2, h⟩ := h
  obtain rfl : b2 = [] := h
  have h := tv_struct j0 Try.underlying24
  obtain ⟨a3, b3, rfl, j3, h⟩ := h
  obtain ⟨a4, b4, rfl, j4, h⟩ := h
  obtain rfl : b4 = [] := h
  obtain ⟨x, rfl, _⟩ := tv_int j3 Try.underlying3
  obtain ⟨y, rfl, _⟩ := tv_int j4 Try.underlying3
  obtain ⟨w, rfl, _⟩ := tv_int j1 Try.underlying3
  obtain ⟨h, rfl, _⟩ := tv_int j2 Try.underlying3
  simp only [argOf, Try.underlying90]
  exact l4_Nobody (n := 0) (m := 400) (by omega) fun _ => rfl
theorem own : ownKnob Try.prog.godebug = none := by kernel_rfl
theorem laidOut : laidOutB Try.prog = true := by kernel_rfl
theorem plain : (Try.f12.params.toList.all (plainT Try.prog 16)) = true := by kernel_rfl
theorem again : (Try.f12.params.toList.all fun t => Try.prog.readableRec t && decide (t < Try.prog.types.size)) = true := by kernel_rfl
set_option maxRecDepth 100000 in
theorem lifted (os : Os) (started : os.Started) (H : Type) (enc : TypeId × Value → H) :
    ReturnsInHanded {} Try.checked os 12 .any (Rows.gridNobodySpec.pre6 enc Try.prog Try.f12 Rows.gridNobodyRow.domain false) (Rows.gridNobodySpec.post enc Try.prog Try.f12 false true false false) := by
  refine returnsInHanded_of_change_sized (C := Try.checked) own started (by kernel_rfl) Try.func12
    (ChangeSpec.witness6 (enc := enc) (C := Try.checked) false ⟨#[], #[.agg #[.int .i64 0, .int .i64 0, .int .i64 0, .int .i64 0, .int .i64 0]], []⟩ 8 (by kernel_rfl) (by kernel_rfl) (by kernel_rfl) (by kernel_rfl)) ?_
  intro W base args ds gs before hval hW _ hsz _
  exact law_contract (B := fun _ => True) follows noGor plans laidOut plain again rfl Try.underlying4 rfl (fun ds hd => by
    match ds, hd with
    | [d0], _ => rfl) (fun vs h _ => run vs h) hval hW hsz trivial
theorem over : Rows.gridNobodyRow.holds Try.pinned (OpenSpec.ofChange Rows.gridNobodySpec) :=
  OpenClaim.holds_of_wide 12 Try.f12 rfl rfl rfl rfl rfl rfl rfl ⟨rfl, rfl, rfl, rfl, rfl⟩ rfl rfl rfl rfl rfl (by kernel_rfl) Try.func12 (by kernel_rfl)
    (of_decide_eq_true (by kernel_rfl)) (by unfold Func.isWrapper; first | (rw [if_pos (by decide +kernel)]; kernel_rfl) | (rw [if_neg (by decide +kernel)]; exact ⟨rfl, rfl⟩))
    (fun os started H enc _ => lifted os started H enc)
end Go.Proofs.Ytndjhaeeldegfaa.gridNobody
namespace Go.Proofs.Ytndjhaeeldegfaa
theorem gridNobody_holds : Rows.GridNobodySaid := gridNobody.over
end Go.Proofs.Ytndjhaeeldegfaa
