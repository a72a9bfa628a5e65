/- GridUndoes: the row. For every map, all edits and every building the law answers true; no conditions. -/
import Derived.Test.YtndjhaeeldegfaaG33
import Derived.Test.YtndjhaeeldegfaaG25
import Derived.Test.YtndjhaeeldegfaaGS
import Derived.Test.YtndjhaeeldegfaaRows
import Derived.SizedLaws
set_option linter.unusedVariables false
set_option linter.unusedSimpArgs false
namespace Go.Proofs.Ytndjhaeeldegfaa.gridUndoes
open Go Go.M Go.ChangeShapes Go.WideShapes Go.ChangeAt Go.RowKit
attribute [local irreducible] acallF acode aops adraw aloop
set_option maxRecDepth 100000 in
theorem run (vs : List V) (h : TA Try.prog Try.f10.params.toList vs) : acallF Try.prog pl 12 200000000000000 10 vs [] fun v _ => v = .sc (.bool true) := by
  rw [Try.params10] at h
  obtain ⟨x1, v1, rfl, h1, x2, v2, rfl, h2, x3, v3, rfl, h3, rfl⟩ := h
  obtain ⟨WW, HH, tv, bv, T, L, rfl, ht, hb, ot, ob, hT, hTl, hLl⟩ := tv_map h1
  obtain ⟨lv, E, rfl, he, hEl⟩ := tv_edits h2
  obtain ⟨u, rfl⟩ := tv_bd h3
  simp only [argOf, Try.underlying65, Try.underlying66, Try.underlying90, List.headD_cons]
  exact l_Undoes (n := 0) (m := 200000000000000) ht hb he ot ob (by omega) (by omega) (by omega) hT hTl hLl hEl fun _ => rfl
theorem own : ownKnob Try.prog.godebug = none := by kernel_rfl
theorem laidOut : laidOutB Try.prog = true := by kernel_rfl
theorem plain : (Try.f10.params.toList.all (plainT Try.prog 16)) = true := by kernel_rfl
theorem again : (Try.f10.params.toList.all fun t => Try.prog.readableRec t && decide (t < Try.prog.types.size)) = true := by kernel_rfl
set_option maxRecDepth 100000 in
theorem lifted (os : Os) (started : os.Started) (H : Type) (enc : TypeId × Value → H) :
    ReturnsInHanded {} Try.checked os 10 .any (Rows.gridUndoesSpec.pre6 enc Try.prog Try.f10 Rows.gridUndoesRow.domain false) (Rows.gridUndoesSpec.post enc Try.prog Try.f10 false true false false) := by
  refine returnsInHanded_of_change_sized (C := Try.checked) own started (by kernel_rfl) Try.func10
    (ChangeSpec.witness6 (enc := enc) (C := Try.checked) false ⟨#[], #[.agg #[.int .i64 0, .int .i64 0, .slice none 0 0, .slice none 0 0], .slice none 0 0, .agg #[.int .i64 0, .int .i64 0, .int .i64 0, .int .i64 0, .int .i64 0]], []⟩ 8 (by kernel_rfl) (by kernel_rfl) (by kernel_rfl) (by kernel_rfl)) ?_
  intro W base args ds gs before hval hW _ hsz _
  exact law_contract (B := fun _ => True) follows noGor plans primsOK laidOut plain again rfl Try.underlying4 rfl (fun ds hd => by
    match ds, hd with
    | [d0, d1, d2], _ => rfl) (fun vs h _ => run vs h) hval hW hsz trivial
theorem over : Rows.gridUndoesRow.holds Try.pinned (OpenSpec.ofChange Rows.gridUndoesSpec) :=
  OpenClaim.holds_of_wide 10 Try.f10 rfl rfl rfl rfl rfl rfl rfl ⟨rfl, rfl, rfl, rfl, rfl⟩ rfl rfl rfl rfl rfl (by kernel_rfl) Try.func10 (by kernel_rfl)
    (of_decide_eq_true (by kernel_rfl)) (by unfold Func.isWrapper; first | (rw [if_pos (by decide +kernel)]; kernel_rfl) | (rw [if_neg (by decide +kernel)]; exact ⟨rfl, rfl⟩))
    (fun os started H enc _ => lifted os started H enc)
end Go.Proofs.Ytndjhaeeldegfaa.gridUndoes
namespace Go.Proofs.Ytndjhaeeldegfaa
theorem gridUndoes_holds : Rows.GridUndoesSaid := gridUndoes.over
end Go.Proofs.Ytndjhaeeldegfaa
