/- CommandUnbatches: the row. -/
import Derived.Test.YtfndpnmdjblokaaCL
import Derived.Test.YtfndpnmdjblokaaC14
import Derived.Test.YtfndpnmdjblokaaRows
import Derived.Deep.CondSized
set_option linter.unusedVariables false
set_option linter.unusedSimpArgs false
namespace Go.Proofs.Ytfndpnmdjblokaa.commandUnbatches
open Go Go.M Go.ChangeShapes Go.WideShapes Go.ChangeAt Go.RowKit
set_option maxRecDepth 100000 in
theorem run (vs : List V) (h : TA Try.prog Try.f13.params.toList vs) (hb : bulkVl vs ≤ 1048576) : acallF Try.prog pl 13 1048577 13 vs [] fun v _ => v = .sc (.bool true) := by
  rw [Try.params13] at h
  obtain ⟨xs, vs', rfl, h, rfl⟩ := h
  obtain ⟨zs, n, nil, full, rfl, hz, hn, hnil⟩ := tv_slice h Try.underlying22
  obtain ⟨b, rfl, rfl, hbb⟩ := tv_bytes Try.underlying5 hz
  simp only [argOf, Try.underlying22, List.headD_cons, bulkVl, bulkV, bulk_bs] at hb ⊢
  exact l24_CommandUnbatches (b := b) (fun s => ⟨tsl_rd sz5 (by simp [bs]) (fun hh => (hnil hh).1), .inl ⟨_, _, _, _, rfl⟩, fun hh => (hnil hh).1⟩) (by omega) hbb (by omega) rfl rfl
theorem own : ownKnob Try.prog.godebug = none := by kernel_rfl
theorem laidOut : laidOutB Try.prog = true := by kernel_rfl
theorem plain : (Try.f13.params.toList.all (plainT Try.prog 16)) = true := by kernel_rfl
theorem again : (Try.f13.params.toList.all fun t => Try.prog.readableRec t && decide (t < Try.prog.types.size)) = true := by kernel_rfl
set_option maxRecDepth 100000 in
theorem lifted (os : Os) (started : os.Started) (H : Type) (enc : TypeId × Value → H) (F : Stop.Interp) :
    ReturnsInHanded {} Try.checked os 13 .any ((Rows.OpenSpec.upto Rows.commandUnbatchesSpec).pre6 enc Try.prog Try.f13 Rows.commandUnbatchesUptoRow.domain false) (((Rows.OpenSpec.upto Rows.commandUnbatchesSpec).at F).post enc Try.prog Try.f13 false true false false) := by
  refine returnsInHanded_of_cond_sized (C := Try.checked) (s := Rows.OpenSpec.upto Rows.commandUnbatchesSpec) (k := Rows.uptoSmall) rfl own started (by kernel_rfl) Try.func13
    (OpenSpec.witness (enc := enc) (C := Try.checked) (s := Rows.OpenSpec.upto Rows.commandUnbatchesSpec) (k := Rows.uptoSmall) rfl false ⟨#[], #[.slice none 0 0], []⟩ 8 (by kernel_rfl) (by kernel_rfl) (by kernel_rfl)
      (x := ([.nil], [], [])) (by kernel_rfl) rfl (by kernel_rfl)) ?_
  intro W base args ds gs before hval hW _ hk hsz _
  exact law_contract (s := Rows.commandUnbatchesSpec) (B := fun n => n ≤ 1048576) follows noGor plans laidOut plain again rfl Try.underlying4 rfl (fun ds hd => by
    match ds, hd with
    | [d0], _ => rfl) (fun vs h hb => by
      obtain ⟨b, h1, h2⟩ := hb
      exact run vs h (Nat.le_trans h2 h1)) hval hW hsz (of_decide_eq_true hk)
theorem over : Rows.commandUnbatchesUptoRow.holds Try.pinned (Rows.OpenSpec.upto Rows.commandUnbatchesSpec) :=
  OpenClaim.holds_of_cond 13 Try.f13 rfl rfl rfl rfl rfl rfl rfl ⟨rfl, rfl, rfl, rfl, rfl⟩ rfl rfl rfl rfl rfl (by kernel_rfl) Try.func13 (by kernel_rfl)
    (of_decide_eq_true (by kernel_rfl)) (by unfold Func.isWrapper; first | (rw [if_pos (by decide +kernel)]; kernel_rfl) | (rw [if_neg (by decide +kernel)]; exact ⟨rfl, rfl⟩))
    (fun os started H enc _ F => lifted os started H enc F)
end Go.Proofs.Ytfndpnmdjblokaa.commandUnbatches
namespace Go.Proofs.Ytfndpnmdjblokaa
theorem commandUnbatches_holds : Rows.CommandUnbatchesUptoSaid := commandUnbatches.over
end Go.Proofs.Ytfndpnmdjblokaa
