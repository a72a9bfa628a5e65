/- OccupyAsks: the row. For all acts, every cell and every rectangle the law answers true; no conditions. -/
import Derived.Test.YtgmccnnjpejigaaX11
import Derived.Test.YtgmccnnjpejigaaGS
import Derived.Test.YtgmccnnjpejigaaRows
import Derived.SizedLaws
set_option linter.unusedVariables false
set_option linter.unusedSimpArgs false
namespace Go.Proofs.Ytgmccnnjpejigaa.occupyAsks
open Go Go.M Go.ChangeShapes Go.WideShapes Go.ChangeAt Go.RowKit
attribute [local irreducible] acallF acode aops adraw aloop
set_option maxRecDepth 100000 in
theorem run (vs : List V) (h : TA Try.prog Try.f5.params.toList vs) : acallF Try.prog pl 12 200000000000000 5 vs [] fun v _ => v = .sc (.bool true) := by
  rw [Try.params5] at h
  obtain ⟨x1, v1, rfl, h1, x2, v2, rfl, h2, x3, v3, rfl, h3, rfl⟩ := h
  obtain ⟨lv, E, rfl, he, hid, hEl⟩ := tv_acts h1
  have h := tv_struct h2 Try.underlying32
  obtain ⟨a3, b3, rfl, j3, h⟩ := h
  obtain ⟨a4, b4, rfl, j4, h⟩ := h
  obtain rfl : b4 = [] := h
  obtain ⟨ca, rfl, _⟩ := tv_int j3 Try.underlying3
  obtain ⟨cb, rfl, _⟩ := tv_int j4 Try.underlying3
  obtain ⟨x, y, w, hh, rfl⟩ := tv_rect h3
  simp only [argOf, Try.underlying22, Try.underlying32, Try.underlying34, List.headD_cons]
  have q := l5_Asks (st := []) (K := fun v _ => v = .sc (.bool true)) (n := 0) (m := 200000000000000) (ca := ca) (cb := cb) (x := x) (y := y) (w := w) (h := hh) he hid hEl (by omega) (by omega) fun _ => rfl
  simp only [cl, List.cons_append, List.nil_append, Nat.zero_add] at q ⊢
  exact q
theorem own : ownKnob Try.prog.godebug = none := by kernel_rfl
theorem laidOut : laidOutB Try.prog = true := by kernel_rfl
theorem plain : (Try.f5.params.toList.all (plainT Try.prog 16)) = true := by kernel_rfl
theorem again : (Try.f5.params.toList.all fun t => Try.prog.readableRec t && decide (t < Try.prog.types.size)) = true := by kernel_rfl
set_option maxRecDepth 100000 in
theorem lifted (os : Os) (started : os.Started) (H : Type) (enc : TypeId × Value → H) :
    ReturnsInHanded {} Try.checked os 5 .any (Rows.occupyAsksSpec.pre6 enc Try.prog Try.f5 Rows.occupyAsksRow.domain false) (Rows.occupyAsksSpec.post enc Try.prog Try.f5 false true false false) := by
  refine returnsInHanded_of_change_sized (C := Try.checked) own started (by kernel_rfl) Try.func5
    (ChangeSpec.witness6 (enc := enc) (C := Try.checked) false ⟨#[], #[.slice none 0 0, .agg #[.int .i64 0, .int .i64 0], .agg #[.int .i64 0, .int .i64 0, .int .i64 0, .int .i64 0]], []⟩ 8 (by kernel_rfl) (by kernel_rfl) (by kernel_rfl) (by kernel_rfl)) ?_
  intro W base args ds gs before hval hW _ hsz _
  exact law_contract (B := fun _ => True) follows noGor plans primsOK laidOut plain again rfl Try.underlying4 rfl (fun ds hd => by
    match ds, hd with
    | [d0, d1, d2], _ => rfl) (fun vs h _ => run vs h) hval hW hsz trivial
theorem over : Rows.occupyAsksRow.holds Try.pinned (OpenSpec.ofChange Rows.occupyAsksSpec) :=
  OpenClaim.holds_of_wide 5 Try.f5 rfl rfl rfl rfl rfl rfl rfl ⟨rfl, rfl, rfl, rfl, rfl⟩ rfl rfl rfl rfl rfl (by kernel_rfl) Try.func5 (by kernel_rfl)
    (of_decide_eq_true (by kernel_rfl)) (by unfold Func.isWrapper; first | (rw [if_pos (by decide +kernel)]; kernel_rfl) | (rw [if_neg (by decide +kernel)]; exact ⟨rfl, rfl⟩))
    (fun os started H enc _ => lifted os started H enc)
end Go.Proofs.Ytgmccnnjpejigaa.occupyAsks
namespace Go.Proofs.Ytgmccnnjpejigaa
theorem occupyAsks_holds : Rows.OccupyAsksSaid := occupyAsks.over
end Go.Proofs.Ytgmccnnjpejigaa
