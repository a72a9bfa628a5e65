/- The row of WireNobody. -/
import Derived.Test.YtfndpnmdjblokaaW6
import Derived.Test.YtfndpnmdjblokaaRows
import Derived.SizedLaws
set_option linter.unusedVariables false
set_option linter.unusedSimpArgs false
namespace Go.Proofs.Ytfndpnmdjblokaa.wireNobody
open Go Go.M Go.ChangeShapes Go.WideShapes Go.ChangeAt Go.RowKit
theorem own : ownKnob Try.prog.godebug = none := by kernel_rfl
theorem laidOut : laidOutB Try.prog = true := by kernel_rfl
theorem plain : (Try.f6.params.toList.all (plainT Try.prog 16)) = true := by kernel_rfl
theorem again : (Try.f6.params.toList.all fun t => Try.prog.readableRec t && decide (t < Try.prog.types.size)) = true := by kernel_rfl
set_option maxRecDepth 100000 in
theorem run (vs : List V) (h : TA Try.prog Try.f6.params.toList vs) : acallF Try.prog pl 8 64 6 vs [] fun v _ => v = .sc (.bool true) := by
  rw [Try.params6] at h
  obtain ⟨xs, vs', rfl, h, rfl⟩ := h
  have h := tv_struct h Try.underlying28
  obtain ⟨y0, z0, rfl, h0, h⟩ := h
  obtain ⟨y1, z1, rfl, h1, h⟩ := h
  obtain ⟨y2, z2, rfl, h2, h⟩ := h
  obtain ⟨y3, z3, rfl, h3, h⟩ := h
  obtain rfl : z3 = [] := h
  obtain ⟨a, rfl, _⟩ := tv_int h0 Try.underlying3
  obtain ⟨b, rfl, _⟩ := tv_int h1 Try.underlying26
  obtain ⟨l, k, nil, full, rfl, _⟩ := tv_slice h2 Try.underlying22
  obtain ⟨c, rfl, _⟩ := tv_int h3 Try.underlying3
  simp only [argOf, Try.underlying28]
  exact law6 a b c l k nil full
set_option maxRecDepth 100000 in
theorem lifted (os : Os) (started : os.Started) (H : Type) (enc : TypeId × Value → H) :
    ReturnsInHanded {} Try.checked os 6 .any (Rows.wireNobodySpec.pre6 enc Try.prog Try.f6 Rows.wireNobodyRow.domain false) (Rows.wireNobodySpec.post enc Try.prog Try.f6 false true false false) := by
  refine returnsInHanded_of_change_sized (C := Try.checked) own started (by kernel_rfl) Try.func6
    (ChangeSpec.witness6 (enc := enc) (C := Try.checked) false ⟨#[], #[.agg #[.int .i64 0, .int .u64 0, .slice none 0 0, .int .i64 0]], []⟩ 8 (by kernel_rfl) (by kernel_rfl) (by kernel_rfl) (by kernel_rfl)) ?_
  intro W base args ds gs before hval hW _ hsz _
  exact law_contract (B := fun _ => True) follows noGor plans laidOut plain again rfl Try.underlying4 rfl (fun ds hd => by
    match ds, hd with
    | [d], _ => rfl) (fun vs h _ => run vs h) hval hW hsz trivial
theorem over : Rows.wireNobodyRow.holds Try.pinned (OpenSpec.ofChange Rows.wireNobodySpec) :=
  OpenClaim.holds_of_wide 6 Try.f6 rfl rfl rfl rfl rfl rfl rfl ⟨rfl, rfl, rfl, rfl, rfl⟩ rfl rfl rfl rfl rfl (by kernel_rfl) Try.func6 (by kernel_rfl)
    (of_decide_eq_true (by kernel_rfl)) (by unfold Func.isWrapper; first | (rw [if_pos (by decide +kernel)]; kernel_rfl) | (rw [if_neg (by decide +kernel)]; exact ⟨rfl, rfl⟩))
    (fun os started H enc _ => lifted os started H enc)
end Go.Proofs.Ytfndpnmdjblokaa.wireNobody
namespace Go.Proofs.Ytfndpnmdjblokaa
theorem wireNobody_holds : Rows.WireNobodySaid := wireNobody.over
end Go.Proofs.Ytfndpnmdjblokaa
