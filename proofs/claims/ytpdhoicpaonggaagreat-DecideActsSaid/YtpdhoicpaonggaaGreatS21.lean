/- DecideActs: the row. For every map and every scene the law answers true; no conditions. -/
import Derived.Test.YtpdhoicpaonggaaGreatXE
import Derived.Test.YtpdhoicpaonggaaGreatGS
import Derived.Test.YtpdhoicpaonggaaGreatRows
import Derived.SizedLaws
set_option linter.unusedVariables false
set_option linter.unusedSimpArgs false
namespace Go.Proofs.YtpdhoicpaonggaaGreat.decideActs
open Go Go.M Go.ChangeShapes Go.WideShapes Go.ChangeAt Go.RowKit
attribute [local irreducible] acallF acode aops adraw aloop
set_option maxRecDepth 100000 in
theorem run (vs : List V) (h : TA Tryz.prog Tryz.f3.params.toList vs) : acallF Tryz.prog pl 15 200000000000000 3 vs [] fun v _ => v = .sc (.bool true) := by
  rw [Tryz.params3] at h
  obtain ⟨x1, v1, rfl, h1, x2, v2, rfl, h2, rfl⟩ := h
  obtain ⟨WW, HH, tv, bv, T, L, rfl, ht, hb, ot, ob, hT, hTl, hLl⟩ := tv_map h1
  obtain ⟨lv, cv, pv, E, C, u, rfl, he, hid, hEl, ol, hc, hCl, oc, hp, hPl, hcut⟩ := tv_scene h2
  simp only [argOf, Tryz.underlying25, Tryz.underlying36]
  exact l23_Acts (n := 0) (m := 200000000000000) ht hb ot ob (by omega) (by omega) hT hTl hLl he hid (by omega) hEl ol hc (by omega) hCl oc hp (by omega) hPl hcut fun _ => rfl
theorem own : ownKnob Tryz.prog.godebug = none := by kernel_rfl
theorem laidOut : laidOutB Tryz.prog = true := by kernel_rfl
theorem plain : (Tryz.f3.params.toList.all (plainT Tryz.prog 16)) = true := by kernel_rfl
theorem again : (Tryz.f3.params.toList.all fun t => Tryz.prog.readableRec t && decide (t < Tryz.prog.types.size)) = true := by kernel_rfl
set_option maxRecDepth 100000 in
theorem lifted (os : Os) (started : os.Started) (H : Type) (enc : TypeId × Value → H) :
    ReturnsInHanded {} Tryz.checked os 3 .any (Rows.decideActsSpec.pre6 enc Tryz.prog Tryz.f3 Rows.decideActsRow.domain false) (Rows.decideActsSpec.post enc Tryz.prog Tryz.f3 false true false false) := by
  refine returnsInHanded_of_change_sized (C := Tryz.checked) own started (by kernel_rfl) Tryz.func3
    (ChangeSpec.witness6 (enc := enc) (C := Tryz.checked) false ⟨#[], #[.agg #[.int .i64 0, .int .i64 0, .slice none 0 0, .slice none 0 0], .agg #[.slice none 0 0, .slice none 0 0, .int .i64 0, .int .i64 0, .int .i64 0, .int .i64 0, .int .i64 0, .int .i64 0, .int .i64 0, .int .i64 0, .int .i64 0, .slice none 0 0, .int .i64 0]], []⟩ 8 (by kernel_rfl) (by kernel_rfl) (by kernel_rfl) (by kernel_rfl)) ?_
  intro W base args ds gs before hval hW _ hsz _
  exact law_contract (B := fun _ => True) follows noGor plans primsOK laidOut plain again rfl Tryz.underlying4 rfl (fun ds hd => by
    match ds, hd with
    | [d0, d1], _ => rfl) (fun vs h _ => run vs h) hval hW hsz trivial
theorem over : Rows.decideActsRow.holds Tryz.pinned (OpenSpec.ofChange Rows.decideActsSpec) :=
  OpenClaim.holds_of_wide 3 Tryz.f3 rfl rfl rfl rfl rfl rfl rfl ⟨rfl, rfl, rfl, rfl, rfl⟩ rfl rfl rfl rfl rfl (by kernel_rfl) Tryz.func3 (by kernel_rfl)
    (of_decide_eq_true (by kernel_rfl)) (by unfold Func.isWrapper; first | (rw [if_pos (by decide +kernel)]; kernel_rfl) | (rw [if_neg (by decide +kernel)]; exact ⟨rfl, rfl⟩))
    (fun os started H enc _ => lifted os started H enc)
end Go.Proofs.YtpdhoicpaonggaaGreat.decideActs
namespace Go.Proofs.YtpdhoicpaonggaaGreat
theorem decideActs_holds : Rows.DecideActsSaid := decideActs.over
end Go.Proofs.YtpdhoicpaonggaaGreat
