/- GridCells: the row. For every map, all edits and all numbers the law answers true; no conditions. -/
import Derived.Test.YtndjhaeeldegfaaG25
import Derived.Test.YtndjhaeeldegfaaRows
import Derived.SizedLaws
set_option linter.unusedVariables false
set_option linter.unusedSimpArgs false
namespace Go.Proofs.Ytndjhaeeldegfaa.gridCells
open Go Go.M Go.ChangeShapes Go.WideShapes Go.ChangeAt Go.RowKit
attribute [local irreducible] acallF acode aops adraw aloop
set_option maxRecDepth 100000 in
theorem run (vs : List V) (h : TA Try.prog Try.f8.params.toList vs) : acallF Try.prog pl 12 200000000000000 8 vs [] fun v _ => v = .sc (.bool true) := by
  rw [Try.params8] at h
  obtain ⟨x1, v1, rfl, h1, x2, v2, rfl, h2, x3, v3, rfl, h3, rfl⟩ := h
  obtain ⟨WW, HH, tv, bv, T, L, rfl, ht, hb, ot, ob, hT, hTl, hLl⟩ := tv_map h1
  obtain ⟨lv, E, rfl, he, hEl⟩ := tv_edits h2
  have h := tv_array h3 Try.underlying67
  obtain ⟨y0, z0, rfl, j0, h⟩ := h
  obtain ⟨y1, z1, rfl, j1, h⟩ := h
  obtain ⟨y2, z2, rfl, j2, h⟩ := h
  obtain ⟨y3, z3, rfl, j3, h⟩ := h
  obtain rfl : z3 = [] := h
  obtain ⟨x, rfl, _⟩ := tv_int j0 Try.underlying3
  obtain ⟨y, rfl, _⟩ := tv_int j1 Try.underlying3
  obtain ⟨z, rfl, _⟩ := tv_int j2 Try.underlying3
  obtain ⟨q, rfl, _⟩ := tv_int j3 Try.underlying3
  simp only [argOf, Try.underlying65, Try.underlying66, Try.underlying67, List.headD_cons]
  exact l_Cells (n := 0) (m := 200000000000000) ht hb he ot ob (by omega) (by omega) (by omega) hT hTl hLl hEl fun _ => rfl
theorem own : ownKnob Try.prog.godebug = none := by kernel_rfl
theorem laidOut : laidOutB Try.prog = true := by kernel_rfl
theorem plain : (Try.f8.params.toList.all (plainT Try.prog 16)) = true := by kernel_rfl
theorem again : (Try.f8.params.toList.all fun t => Try.prog.readableRec t && decide (t < Try.prog.types.size)) = true := by kernel_rfl
set_option maxRecDepth 100000 in
theorem lifted (os : Os) (started : os.Started) (H : Type) (enc : TypeId × Value → H) :
    ReturnsInHanded {} Try.checked os 8 .any (Rows.gridCellsSpec.pre6 enc Try.prog Try.f8 Rows.gridCellsRow.domain false) (Rows.gridCellsSpec.post enc Try.prog Try.f8 false true false false) := by
  refine returnsInHanded_of_change_sized (C := Try.checked) own started (by kernel_rfl) Try.func8
    (ChangeSpec.witness6 (enc := enc) (C := Try.checked) false ⟨#[], #[.agg #[.int .i64 0, .int .i64 0, .slice none 0 0, .slice none 0 0], .slice none 0 0, .agg #[.int .i64 0, .int .i64 0, .int .i64 0, .int .i64 0]], []⟩ 8 (by kernel_rfl) (by kernel_rfl) (by kernel_rfl) (by kernel_rfl)) ?_
  intro W base args ds gs before hval hW _ hsz _
  exact law_contract (B := fun _ => True) follows noGor plans laidOut plain again rfl Try.underlying4 rfl (fun ds hd => by
    match ds, hd with
    | [d0, d1, d2], _ => rfl) (fun vs h _ => run vs h) hval hW hsz trivial
theorem over : Rows.gridCellsRow.holds Try.pinned (OpenSpec.ofChange Rows.gridCellsSpec) :=
  OpenClaim.holds_of_wide 8 Try.f8 rfl rfl rfl rfl rfl rfl rfl ⟨rfl, rfl, rfl, rfl, rfl⟩ rfl rfl rfl rfl rfl (by kernel_rfl) Try.func8 (by kernel_rfl)
    (of_decide_eq_true (by kernel_rfl)) (by unfold Func.isWrapper; first | (rw [if_pos (by decide +kernel)]; kernel_rfl) | (rw [if_neg (by decide +kernel)]; exact ⟨rfl, rfl⟩))
    (fun os started H enc _ => lifted os started H enc)
end Go.Proofs.Ytndjhaeeldegfaa.gridCells
namespace Go.Proofs.Ytndjhaeeldegfaa
theorem gridCells_holds : Rows.GridCellsSaid := gridCells.over
end Go.Proofs.Ytndjhaeeldegfaa
