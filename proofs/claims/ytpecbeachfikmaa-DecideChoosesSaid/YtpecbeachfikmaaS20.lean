/- DecideChooses: the row. For every map and every scene the law answers true; no conditions. -/
import Derived.Test.YtpecbeachfikmaaXC
import Derived.Test.YtpecbeachfikmaaRows
import Derived.SizedLaws
set_option linter.unusedVariables false
set_option linter.unusedSimpArgs false
namespace Go.Proofs.Ytpecbeachfikmaa.decideChooses
open Go Go.M Go.ChangeShapes Go.WideShapes Go.ChangeAt Go.RowKit
attribute [local irreducible] acallF acode aops adraw aloop
theorem primsOK : PrimOK Try.prog pl := fun f gs e h => (primS f gs e h).elim
set_option maxRecDepth 100000 in
theorem run (vs : List V) (h : TA Try.prog Try.f4.params.toList vs) : acallF Try.prog pl 15 200000000000000 4 vs [] fun v _ => v = .sc (.bool true) := by
  rw [Try.params4] at h
  obtain ⟨x1, v1, rfl, h1, x2, v2, rfl, h2, rfl⟩ := h
  obtain ⟨WW, HH, tv, bv, T, L, rfl, ht, hb, ot, ob, hT, hTl, hLl⟩ := tv_map h1
  obtain ⟨lv, cv, pv, E, C, u, rfl, he, hid, hEl, ol, hc, hCl, oc, hp⟩ := tv_scene h2
  simp only [argOf, Try.underlying25, Try.underlying36]
  exact l23_Chooses (n := 0) (m := 200000000000000) ht hb ot ob (by omega) (by omega) hT hTl hLl he hid (by omega) hEl ol hc (by omega) hCl oc hp fun _ => rfl
theorem own : ownKnob Try.prog.godebug = none := by kernel_rfl
theorem laidOut : laidOutB Try.prog = true := by kernel_rfl
theorem plain : (Try.f4.params.toList.all (plainT Try.prog 16)) = true := by kernel_rfl
theorem again : (Try.f4.params.toList.all fun t => Try.prog.readableRec t && decide (t < Try.prog.types.size)) = true := by kernel_rfl
set_option maxRecDepth 100000 in
theorem lifted (os : Os) (started : os.Started) (H : Type) (enc : TypeId × Value → H) :
    ReturnsInHanded {} Try.checked os 4 .any (Rows.decideChoosesSpec.pre6 enc Try.prog Try.f4 Rows.decideChoosesRow.domain false) (Rows.decideChoosesSpec.post enc Try.prog Try.f4 false true false false) := by
  refine returnsInHanded_of_change_sized (C := Try.checked) own started (by kernel_rfl) Try.func4
    (ChangeSpec.witness6 (enc := enc) (C := Try.checked) false ⟨#[], #[.agg #[.int .i64 0, .int .i64 0, .slice none 0 0, .slice none 0 0], .agg #[.slice none 0 0, .slice none 0 0, .int .i64 0, .int .i64 0, .int .i64 0, .int .i64 0, .int .i64 0, .int .i64 0, .int .i64 0, .int .i64 0, .int .i64 0, .slice none 0 0, .int .i64 0]], []⟩ 8 (by kernel_rfl) (by kernel_rfl) (by kernel_rfl) (by kernel_rfl)) ?_
  intro W base args ds gs before hval hW _ hsz _
  exact law_contract (B := fun _ => True) follows noGor plans primsOK laidOut plain again rfl Try.underlying4 rfl (fun ds hd => by
    match ds, hd with
    | [d0, d1], _ => rfl) (fun vs h _ => run vs h) hval hW hsz trivial
theorem over : Rows.decideChoosesRow.holds Try.pinned (OpenSpec.ofChange Rows.decideChoosesSpec) :=
  OpenClaim.holds_of_wide 4 Try.f4 rfl rfl rfl rfl rfl rfl rfl ⟨rfl, rfl, rfl, rfl, rfl⟩ rfl rfl rfl rfl rfl (by kernel_rfl) Try.func4 (by kernel_rfl)
    (of_decide_eq_true (by kernel_rfl)) (by unfold Func.isWrapper; first | (rw [if_pos (by decide +kernel)]; kernel_rfl) | (rw [if_neg (by decide +kernel)]; exact ⟨rfl, rfl⟩))
    (fun os started H enc _ => lifted os started H enc)
end Go.Proofs.Ytpecbeachfikmaa.decideChooses
namespace Go.Proofs.Ytpecbeachfikmaa
theorem decideChooses_holds : Rows.DecideChoosesSaid := decideChooses.over
end Go.Proofs.Ytpecbeachfikmaa
