/- CommandCodes: the row. -/
import Derived.Test.YtfndpnmdjblokaaC28
import Derived.Test.YtfndpnmdjblokaaC14
import Derived.Test.YtfndpnmdjblokaaRows
import Derived.Deep.CondSized
set_option linter.unusedVariables false
set_option linter.unusedSimpArgs false
namespace Go.Proofs.Ytfndpnmdjblokaa.commandCodes
open Go Go.M Go.ChangeShapes Go.WideShapes Go.ChangeAt Go.RowKit
set_option maxRecDepth 100000 in
theorem run (vs : List V) (h : TA Try.prog Try.f12.params.toList vs) (hb : bulkVl vs ≤ 1048576) : acallF Try.prog pl 12 1048577 12 vs [] fun v _ => v = .sc (.bool true) := by
  rw [Try.params12] at h
  obtain ⟨xs, vs', rfl, h1, rfl⟩ := h
  simp only [argOf, Try.underlying59, bulkVl, bulkV, Nat.add_zero] at hb ⊢
  obtain ⟨a, rfl, ha, hl, _⟩ := cmd1 h1 (by omega)
  exact l24_CommandCodes ha (by omega) (by omega)
theorem own : ownKnob Try.prog.godebug = none := by kernel_rfl
theorem laidOut : laidOutB Try.prog = true := by kernel_rfl
theorem plain : (Try.f12.params.toList.all (plainT Try.prog 16)) = true := by kernel_rfl
theorem again : (Try.f12.params.toList.all fun t => Try.prog.readableRec t && decide (t < Try.prog.types.size)) = true := by kernel_rfl
set_option maxRecDepth 100000 in
theorem lifted (os : Os) (started : os.Started) (H : Type) (enc : TypeId × Value → H) (F : Stop.Interp) :
    ReturnsInHanded {} Try.checked os 12 .any ((Rows.OpenSpec.upto Rows.commandCodesSpec).pre6 enc Try.prog Try.f12 Rows.commandCodesUptoRow.domain false) (((Rows.OpenSpec.upto Rows.commandCodesSpec).at F).post enc Try.prog Try.f12 false true false false) := by
  refine returnsInHanded_of_cond_sized (C := Try.checked) (s := Rows.OpenSpec.upto Rows.commandCodesSpec) (k := Rows.uptoSmall) rfl own started (by kernel_rfl) Try.func12
    (OpenSpec.witness (enc := enc) (C := Try.checked) (s := Rows.OpenSpec.upto Rows.commandCodesSpec) (k := Rows.uptoSmall) rfl false ⟨#[], #[.agg #[.int .i64 0, .int .i64 0, .int .i64 0, .int .i64 0, .slice none 0 0, .int .i64 0, .int .i64 0, .int .i64 0, .int .i64 0, .int .i64 0, .int .i64 0, .int .i64 0]], []⟩ 8 (by kernel_rfl) (by kernel_rfl) (by kernel_rfl)
      (x := ([.agg [.lit (.int .i64 0), .lit (.int .i64 0), .lit (.int .i64 0), .lit (.int .i64 0), .nil, .agg [.lit (.int .i64 0), .lit (.int .i64 0)], .lit (.int .i64 0), .lit (.int .i64 0), .lit (.int .i64 0), .agg [.lit (.int .i64 0), .lit (.int .i64 0)]]], [], [])) (by kernel_rfl) rfl (by kernel_rfl)) ?_
  intro W base args ds gs before hval hW _ hk hsz _
  exact law_contract (s := Rows.commandCodesSpec) (B := fun n => n ≤ 1048576) follows noGor plans laidOut plain again rfl Try.underlying4 rfl (fun ds hd => by
    match ds, hd with
    | [d0], _ => rfl) (fun vs h hb => by
      obtain ⟨b, h1, h2⟩ := hb
      exact run vs h (Nat.le_trans h2 h1)) hval hW hsz (of_decide_eq_true hk)
theorem over : Rows.commandCodesUptoRow.holds Try.pinned (Rows.OpenSpec.upto Rows.commandCodesSpec) :=
  OpenClaim.holds_of_cond 12 Try.f12 rfl rfl rfl rfl rfl rfl rfl ⟨rfl, rfl, rfl, rfl, rfl⟩ rfl rfl rfl rfl rfl (by kernel_rfl) Try.func12 (by kernel_rfl)
    (of_decide_eq_true (by kernel_rfl)) (by unfold Func.isWrapper; first | (rw [if_pos (by decide +kernel)]; kernel_rfl) | (rw [if_neg (by decide +kernel)]; exact ⟨rfl, rfl⟩))
    (fun os started H enc _ F => lifted os started H enc F)
end Go.Proofs.Ytfndpnmdjblokaa.commandCodes
namespace Go.Proofs.Ytfndpnmdjblokaa
theorem commandCodes_holds : Rows.CommandCodesUptoSaid := commandCodes.over
end Go.Proofs.Ytfndpnmdjblokaa
