/- GridApart: the row. For every map and all edits whose bulk is at most 1048576 the law answers true; no other conditions. -/
import Derived.Test.YtndjhaeeldegfaaZ1
import Derived.Test.YtndjhaeeldegfaaGS
import Derived.Test.YtndjhaeeldegfaaRows
import Derived.Deep.CondSized
set_option linter.unusedVariables false
set_option linter.unusedSimpArgs false
namespace Go.Proofs.Ytndjhaeeldegfaa.gridApart
open Go Go.M Go.ChangeShapes Go.WideShapes Go.ChangeAt Go.RowKit
attribute [local irreducible] acallF acode aops adraw aloop
theorem bulk_edits : ∀ E : List E4, E.length ≤ bulkVl (E.flatMap E4.v)
  | [] => Nat.zero_le _
  | e :: E => by
    have := bulk_edits E
    rw [List.flatMap_cons, bulkVl_append]
    simp only [E4.v, B4.v, bd, rc, bulkVl, bulkV, List.length_cons]
    omega
set_option maxRecDepth 100000 in
theorem tv_edits2 {k : Nat} {ys : List V} (h : TV Try.prog (k + 5) 66 ys) : ∃ (lv : V) (E : List E4), ys = [lv] ∧ (∀ s, Rd Try.prog s 101 lv (E.flatMap E4.v) E.length) ∧ E.length ≤ bulkV lv := by
  obtain ⟨us, n, nil, full, rfl, hu, hn, hnil⟩ := tv_slice h Try.underlying66
  obtain ⟨E, rfl, rfl, _⟩ := TVn.list (f := E4.v) (Q := fun _ => True) (fun ys hy => by
    have h := tv_struct hy Try.underlying101
    obtain ⟨y1, z1, rfl, h1, h⟩ := h
    obtain ⟨y2, z2, rfl, h2, h⟩ := h
    obtain rfl : z2 = [] := h
    obtain ⟨b, rfl⟩ := tv_bool h1 Try.underlying4
    obtain ⟨u, rfl⟩ := tv_bd h2
    exact ⟨⟨b, u⟩, by simp [E4.v], trivial⟩) hu
  exact ⟨.tsl (E.flatMap E4.v) E.length nil full, E, rfl, fun s => tsl_rd sz101 (flatMap_len (f := E4.v) (s := 6) (fun _ => rfl) _) (fun h => (hnil h).1), by simp only [bulkV]; have := bulk_edits E; omega⟩
set_option maxRecDepth 100000 in
theorem run (vs : List V) (h : TA Try.prog Try.f11.params.toList vs) (hb : bulkVl vs ≤ 1048576) : acallF Try.prog pl 12 200000000000000 11 vs [] fun v _ => v = .sc (.bool true) := by
  rw [Try.params11] at h
  obtain ⟨x1, v1, rfl, h1, x2, v2, rfl, h2, x3, v3, rfl, h3, rfl⟩ := h
  obtain ⟨WW, HH, tv, bv, T, L, rfl, ht, hb', ot, ob, hT, hTl, hLl⟩ := tv_map h1
  obtain ⟨lv, E, rfl, he, hEl⟩ := tv_edits2 h2
  obtain ⟨lv2, E2, rfl, he2, hE2l⟩ := tv_edits2 h3
  simp only [argOf, Try.underlying65, Try.underlying66, List.headD_cons, bulkVl] at hb ⊢
  exact l_Apart (n := 0) (m := 200000000000000) ht hb' he he2 ot ob (by omega) (by omega) (by omega) (by omega) hT hTl hLl (by omega) (by omega) fun _ => rfl
theorem own : ownKnob Try.prog.godebug = none := by kernel_rfl
theorem laidOut : laidOutB Try.prog = true := by kernel_rfl
theorem plain : (Try.f11.params.toList.all (plainT Try.prog 16)) = true := by kernel_rfl
theorem again : (Try.f11.params.toList.all fun t => Try.prog.readableRec t && decide (t < Try.prog.types.size)) = true := by kernel_rfl
set_option maxRecDepth 100000 in
theorem lifted (os : Os) (started : os.Started) (H : Type) (enc : TypeId × Value → H) (F : Stop.Interp) :
    ReturnsInHanded {} Try.checked os 11 .any ((Rows.OpenSpec.upto Rows.gridApartSpec).pre6 enc Try.prog Try.f11 Rows.gridApartUptoRow.domain false) (((Rows.OpenSpec.upto Rows.gridApartSpec).at F).post enc Try.prog Try.f11 false true false false) := by
  refine returnsInHanded_of_cond_sized (C := Try.checked) (s := Rows.OpenSpec.upto Rows.gridApartSpec) (k := Rows.uptoSmall) rfl own started (by kernel_rfl) Try.func11
    (OpenSpec.witness (enc := enc) (C := Try.checked) (s := Rows.OpenSpec.upto Rows.gridApartSpec) (k := Rows.uptoSmall) rfl false ⟨#[], #[.agg #[.int .i64 0, .int .i64 0, .slice none 0 0, .slice none 0 0], .slice none 0 0, .slice none 0 0], []⟩ 8 (by kernel_rfl) (by kernel_rfl) (by kernel_rfl)
      (x := ([.agg [.lit (.int .i64 0), .lit (.int .i64 0), .nil, .nil], .nil, .nil], [], [])) (by kernel_rfl) rfl (by kernel_rfl)) ?_
  intro W base args ds gs before hval hW _ hk hsz _
  exact law_contract (s := Rows.gridApartSpec) (B := fun n => n ≤ 1048576) follows noGor plans primsOK laidOut plain again rfl Try.underlying4 rfl (fun ds hd => by
    match ds, hd with
    | [d0, d1, d2], _ => rfl) (fun vs h hb => by
      obtain ⟨b, h1, h2⟩ := hb
      exact run vs h (Nat.le_trans h2 h1)) hval hW hsz (of_decide_eq_true hk)
theorem over : Rows.gridApartUptoRow.holds Try.pinned (Rows.OpenSpec.upto Rows.gridApartSpec) :=
  OpenClaim.holds_of_cond 11 Try.f11 rfl rfl rfl rfl rfl rfl rfl ⟨rfl, rfl, rfl, rfl, rfl⟩ rfl rfl rfl rfl rfl (by kernel_rfl) Try.func11 (by kernel_rfl)
    (of_decide_eq_true (by kernel_rfl)) (by unfold Func.isWrapper; first | (rw [if_pos (by decide +kernel)]; kernel_rfl) | (rw [if_neg (by decide +kernel)]; exact ⟨rfl, rfl⟩))
    (fun os started H enc _ F => lifted os started H enc F)
end Go.Proofs.Ytndjhaeeldegfaa.gridApart
namespace Go.Proofs.Ytndjhaeeldegfaa
theorem gridApart_holds : Rows.GridApartUptoSaid := gridApart.over
end Go.Proofs.Ytndjhaeeldegfaa
