/- WireBack: the row. -/
import Derived.Test.YtfndpnmdjblokaaW18
import Derived.Test.YtfndpnmdjblokaaRows
import Derived.Deep.CondSized
set_option linter.unusedVariables false
set_option linter.unusedSimpArgs false
namespace Go.Proofs.Ytfndpnmdjblokaa.wireBack
open Go Go.M Go.ChangeShapes Go.WideShapes Go.ChangeAt Go.RowKit
set_option maxRecDepth 100000 in
theorem run (vs : List V) (h : TA Try.prog Try.f5.params.toList vs) (hb : bulkVl vs ≤ 1048576) : acallF Try.prog pl 8 1048577 5 vs [] fun v _ => v = .sc (.bool true) := by
  rw [Try.params5] at h
  obtain ⟨ys, vs'', rfl, k, rfl⟩ := h
  obtain ⟨us, q, nil', full', rfl, hu, hq, hnil'⟩ := tv_slice k Try.underlying23
  obtain ⟨l, rfl, rfl, hok⟩ := items hu
  simp only [argOf, Try.underlying23, List.headD_cons, bulkVl, bulkV, bulk_bs] at hb ⊢
  exact l02_WireBack (l := l) (fun s => tsl_rd sz28 (by rw [flatMap_len (s := 4) (fun a => rfl)]) (fun hh => (hnil' hh).1)) hok (by omega) (by omega)
theorem own : ownKnob Try.prog.godebug = none := by kernel_rfl
theorem laidOut : laidOutB Try.prog = true := by kernel_rfl
theorem plain : (Try.f5.params.toList.all (plainT Try.prog 16)) = true := by kernel_rfl
theorem again : (Try.f5.params.toList.all fun t => Try.prog.readableRec t && decide (t < Try.prog.types.size)) = true := by kernel_rfl
set_option maxRecDepth 100000 in
theorem lifted (os : Os) (started : os.Started) (H : Type) (enc : TypeId × Value → H) (F : Stop.Interp) :
    ReturnsInHanded {} Try.checked os 5 .any ((Rows.OpenSpec.upto Rows.wireBackSpec).pre6 enc Try.prog Try.f5 Rows.wireBackUptoRow.domain false) (((Rows.OpenSpec.upto Rows.wireBackSpec).at F).post enc Try.prog Try.f5 false true false false) := by
  refine returnsInHanded_of_cond_sized (C := Try.checked) (s := Rows.OpenSpec.upto Rows.wireBackSpec) (k := Rows.uptoSmall) rfl own started (by kernel_rfl) Try.func5
    (OpenSpec.witness (enc := enc) (C := Try.checked) (s := Rows.OpenSpec.upto Rows.wireBackSpec) (k := Rows.uptoSmall) rfl false ⟨#[], #[.slice none 0 0], []⟩ 8 (by kernel_rfl) (by kernel_rfl) (by kernel_rfl)
      (x := ([.nil], [], [])) (by kernel_rfl) rfl (by kernel_rfl)) ?_
  intro W base args ds gs before hval hW _ hk hsz _
  exact law_contract (s := Rows.wireBackSpec) (B := fun n => n ≤ 1048576) follows noGor plans laidOut plain again rfl Try.underlying4 rfl (fun ds hd => by
    match ds, hd with
    | [d0], _ => rfl) (fun vs h hb => by
      obtain ⟨b, h1, h2⟩ := hb
      exact run vs h (Nat.le_trans h2 h1)) hval hW hsz (of_decide_eq_true hk)
theorem over : Rows.wireBackUptoRow.holds Try.pinned (Rows.OpenSpec.upto Rows.wireBackSpec) :=
  OpenClaim.holds_of_cond 5 Try.f5 rfl rfl rfl rfl rfl rfl rfl ⟨rfl, rfl, rfl, rfl, rfl⟩ rfl rfl rfl rfl rfl (by kernel_rfl) Try.func5 (by kernel_rfl)
    (of_decide_eq_true (by kernel_rfl)) (by unfold Func.isWrapper; first | (rw [if_pos (by decide +kernel)]; kernel_rfl) | (rw [if_neg (by decide +kernel)]; exact ⟨rfl, rfl⟩))
    (fun os started H enc _ F => lifted os started H enc F)
end Go.Proofs.Ytfndpnmdjblokaa.wireBack
namespace Go.Proofs.Ytfndpnmdjblokaa
theorem wireBack_holds : Rows.WireBackUptoSaid := wireBack.over
end Go.Proofs.Ytfndpnmdjblokaa
