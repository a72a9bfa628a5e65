/- CommandOrders: the row. -/
import Derived.Test.YtfndpnmdjblokaaC7
import Derived.Test.YtfndpnmdjblokaaRows
import Derived.Deep.CondSized
set_option linter.unusedVariables false
set_option linter.unusedSimpArgs false
namespace Go.Proofs.Ytfndpnmdjblokaa.commandOrders
open Go Go.M Go.ChangeShapes Go.WideShapes Go.ChangeAt Go.RowKit
set_option maxRecDepth 100000 in
theorem key1 {k : Nat} {ys : List V} (h : TV Try.prog (k + 2) 64 ys) : ∃ a : Ky, V.agg ys = a.v := by
  have h := tv_struct h Try.underlying64
  obtain ⟨y0, z0, rfl, h0, h⟩ := h
  obtain ⟨y1, z1, rfl, h1, h⟩ := h
  obtain ⟨y2, z2, rfl, h2, h⟩ := h
  obtain rfl : z2 = [] := h
  obtain ⟨a, rfl, _⟩ := tv_int h0 Try.underlying3
  obtain ⟨b, rfl, _⟩ := tv_int h1 Try.underlying3
  obtain ⟨c, rfl, _⟩ := tv_int h2 Try.underlying3
  exact ⟨⟨a, b, c⟩, rfl⟩
set_option maxRecDepth 100000 in
theorem run (vs : List V) (h : TA Try.prog Try.f10.params.toList vs) (hb : bulkVl vs ≤ 1048576) : acallF Try.prog pl 12 1048577 10 vs [] fun v _ => v = .sc (.bool true) := by
  rw [Try.params10] at h
  obtain ⟨xs, vs', rfl, h1, ys, vs'', rfl, h2, zs, vs''', rfl, h3, rfl⟩ := h
  obtain ⟨a, ha⟩ := key1 h1
  obtain ⟨b, hb⟩ := key1 h2
  obtain ⟨c, hc⟩ := key1 h3
  simp only [argOf, Try.underlying64, ha, hb, hc]
  exact l24_CommandOrders (by omega)
theorem own : ownKnob Try.prog.godebug = none := by kernel_rfl
theorem laidOut : laidOutB Try.prog = true := by kernel_rfl
theorem plain : (Try.f10.params.toList.all (plainT Try.prog 16)) = true := by kernel_rfl
theorem again : (Try.f10.params.toList.all fun t => Try.prog.readableRec t && decide (t < Try.prog.types.size)) = true := by kernel_rfl
set_option maxRecDepth 100000 in
theorem lifted (os : Os) (started : os.Started) (H : Type) (enc : TypeId × Value → H) (F : Stop.Interp) :
    ReturnsInHanded {} Try.checked os 10 .any ((Rows.OpenSpec.upto Rows.commandOrdersSpec).pre6 enc Try.prog Try.f10 Rows.commandOrdersUptoRow.domain false) (((Rows.OpenSpec.upto Rows.commandOrdersSpec).at F).post enc Try.prog Try.f10 false true false false) := by
  refine returnsInHanded_of_cond_sized (C := Try.checked) (s := Rows.OpenSpec.upto Rows.commandOrdersSpec) (k := Rows.uptoSmall) rfl own started (by kernel_rfl) Try.func10
    (OpenSpec.witness (enc := enc) (C := Try.checked) (s := Rows.OpenSpec.upto Rows.commandOrdersSpec) (k := Rows.uptoSmall) rfl false ⟨#[], #[.agg #[.int .i64 0, .int .i64 0, .int .i64 0], .agg #[.int .i64 0, .int .i64 0, .int .i64 0], .agg #[.int .i64 0, .int .i64 0, .int .i64 0]], []⟩ 8 (by kernel_rfl) (by kernel_rfl) (by kernel_rfl)
      (x := ([.agg [.lit (.int .i64 0), .lit (.int .i64 0), .lit (.int .i64 0)], .agg [.lit (.int .i64 0), .lit (.int .i64 0), .lit (.int .i64 0)], .agg [.lit (.int .i64 0), .lit (.int .i64 0), .lit (.int .i64 0)]], [], [])) (by kernel_rfl) rfl (by kernel_rfl)) ?_
  intro W base args ds gs before hval hW _ hk hsz _
  exact law_contract (s := Rows.commandOrdersSpec) (B := fun n => n ≤ 1048576) follows noGor plans laidOut plain again rfl Try.underlying4 rfl (fun ds hd => by
    match ds, hd with
    | [d0, d1, d2], _ => rfl) (fun vs h hb => by
      obtain ⟨b, h1, h2⟩ := hb
      exact run vs h (Nat.le_trans h2 h1)) hval hW hsz (of_decide_eq_true hk)
theorem over : Rows.commandOrdersUptoRow.holds Try.pinned (Rows.OpenSpec.upto Rows.commandOrdersSpec) :=
  OpenClaim.holds_of_cond 10 Try.f10 rfl rfl rfl rfl rfl rfl rfl ⟨rfl, rfl, rfl, rfl, rfl⟩ rfl rfl rfl rfl rfl (by kernel_rfl) Try.func10 (by kernel_rfl)
    (of_decide_eq_true (by kernel_rfl)) (by unfold Func.isWrapper; first | (rw [if_pos (by decide +kernel)]; kernel_rfl) | (rw [if_neg (by decide +kernel)]; exact ⟨rfl, rfl⟩))
    (fun os started H enc _ F => lifted os started H enc F)
end Go.Proofs.Ytfndpnmdjblokaa.commandOrders
namespace Go.Proofs.Ytfndpnmdjblokaa
theorem commandOrders_holds : Rows.CommandOrdersUptoSaid := commandOrders.over
end Go.Proofs.Ytfndpnmdjblokaa
