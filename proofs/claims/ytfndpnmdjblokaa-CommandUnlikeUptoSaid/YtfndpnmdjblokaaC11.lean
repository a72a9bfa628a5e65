/- Chapter 24: which commands may be, by the document. -/
import Derived.Test.YtfndpnmdjblokaaC10
set_option linter.unusedVariables false
set_option linter.unusedSimpArgs false
set_option maxRecDepth 10000
namespace Go.Proofs.Ytfndpnmdjblokaa
open Go Go.M Go.RowKit
attribute [local congr] acallF_cong aloop_cong bcase_cong resK_cong valK_cong wantK_cong callK_cong xputK_cong qputK_cong
attribute [local irreducible] seqK blockK loopK nextK bcase resK valK wantK funK putK dputK xputK qputK callK aops aop acode adraw aloop acallF acall invK
def nilU : V := .tsl [] 0 true true
/-- A command's key and kind, and what its kind has, alone. -/
def bareC (c : Cmd) : Cmd :=
  if c.kind = 1 then { c with w := 0, h := 0, id := 0, cls := 0, sz := 0 }
  else if c.kind = 2 then { c with x := 0, y := 0, w := 0, h := 0, id := 0, cls := 0, sz := 0 }
  else if c.kind = 3 then { c with uv := nilU, units := [], cls := 0, sz := 0 }
  else if c.kind = 4 then { c with uv := nilU, units := [], x := 0, y := 0, w := 0, h := 0, cls := 0, sz := 0 }
  else if c.kind = 5 then { c with uv := nilU, units := [], w := 0, h := 0 }
  else { c with uv := nilU, units := [], x := 0, y := 0, w := 0, h := 0, id := 0, cls := 0, sz := 0 }
theorem nil_at (c : Cmd) (h1 : c.uv = nilU) (h2 : c.units = []) (s : List Ob) : c.at_ s := by
  refine ⟨?_, by rw [h1]; rfl, by rw [h1]; rfl, by rw [h2]; simp⟩
  rw [h1, h2]
  exact ⟨rfl, ⟨fun b hb => (by cases hb), fun _ => rfl⟩, fun s hs => (by simp [is])⟩
theorem bare_at {c : Cmd} {s : List Ob} (h : c.at_ s) : (bareC c).at_ s := by
  unfold bareC
  repeat' split
  all_goals first | exact ⟨h.rd, h.one, h.cv, h.len⟩ | exact nil_at _ rfl rfl s
section
variable {n m : Nat} {st : List Ob} {K : V → List Ob → Prop}
theorem q_units {v : V} {xs : List Int} (hv : Rd Try.prog st 3 v (is xs) xs.length) (hl : xs.length < 4611686018427387904) (hm : xs.length < m) (h : K (.sc (.bool (unitsB xs))) st) : acallF Try.prog pl (n + 2) m 75 [v] st K := by
  refine acallF_inF Try.func75 rfl Try.ntmps75 (by simp) ?_
  have hal := alen_rd hv Try.underlying53
  simp only [hal, evf, ↓evp, evq, evr, fxa0, fxa1, fxa2, fxa3, fxu, fxn, fxl, ↓fxp, absL, fitL, flatL, ares, ares1, ofVal, unSc, aload, afill, splice, abound, asI, elems, IntKind.bits, sortT, eqNil, closedL, allByte, patch, pendOK, numA, Value.cells, Value.oneCell', ibin, List.replicate, false_implies, forall_eq, forall_eq_or_imp, true_implies, implies_true, forall_const, Option.elim, Nat.reduceAdd, Nat.reduceSub, Nat.reduceMul, Nat.reduceLT, Nat.reduceEqDiff, Nat.reduceLeDiff, Nat.reduceBEq, Int.reduceLE, Int.reduceLT, Int.reduceToNat, Int.reduceBNe, Int.reduceBEq, Int.reduceNeg, Int.reduceEq, Int.reduceNe, Nat.reduceBNe, Int.reduceAdd, Int.reduceSub, Int.reduceMul, Int.reducePow, Nat.reducePow, Int.reduceGT, Int.reduceGE, and_self, and_true, true_and, and_false, false_and, or_true, true_or, or_false, false_or, not_true_eq_false, not_false_eq_true, if_true, if_false, ite_true, ite_false, beq_self_eq_true, BEq.rfl, reduceCtorEq, eq_self, ne_eq, decide_true, decide_false, Function.comp_def, beq_iff_eq]
  refine aloop_forF (fun k f s => s = st ∧ ∃ (i : Nat) (last : Int), k + i = m ∧ i ≤ xs.length ∧ 0 ≤ last ∧ last ≤ 2147483647 ∧ goB 0 xs = goB last (xs.drop i) ∧ f 0 = v ∧ f 3 = .sc (.int .i64 last) ∧ f 4 = .sc (.int .i64 i)) ⟨rfl, 0, 0, by omega, by omega, by omega, by omega, rfl, by simp only [evf, ne_eq, Nat.reduceEqDiff, Nat.reduceLT, not_false_eq_true], by simp only [evf, ne_eq, Nat.reduceEqDiff, Nat.reduceLT, not_false_eq_true], by simp only [evf, ne_eq, Nat.reduceEqDiff, Nat.reduceLT, not_false_eq_true]; rfl⟩ ?_
  rintro I' hI' k f s ⟨rfl, i, last, hk, hi, hl0, hl1, hgo, f0, f3, f4⟩
  refine ⟨k - 1, by omega, ?_⟩
  by_cases hil : i < xs.length
  · have d : decide ((i : Int) < xs.length) = true := decide_eq_true (by omega)
    obtain ⟨p1, p2⟩ := ix_is hv hil
    have a1 : IntKind.i64.wrap ((i : Int) + 1) = ((i + 1 : Nat) : Int) := by rw [IntWalk.i64_in _ (by omega)]; rfl
    have a2 : IntKind.i64.wrap (last + 1) = last + 1 := IntWalk.i64_in _ (by omega)
    rw [List.drop_eq_getElem_cons hil, goB] at hgo
    simp only [f0, f3, f4, hal, d, p1, p2, a2, evf, ↓evp, evq, evr, fxa0, fxa1, fxa2, fxa3, fxu, fxn, fxl, ↓fxp, absL, fitL, flatL, ares, ares1, ofVal, unSc, aload, afill, splice, abound, asI, elems, IntKind.bits, sortT, eqNil, closedL, allByte, patch, pendOK, numA, Value.cells, Value.oneCell', ibin, List.replicate, false_implies, forall_eq, forall_eq_or_imp, true_implies, implies_true, forall_const, Option.elim, Nat.reduceAdd, Nat.reduceSub, Nat.reduceMul, Nat.reduceLT, Nat.reduceEqDiff, Nat.reduceLeDiff, Nat.reduceBEq, Int.reduceLE, Int.reduceLT, Int.reduceToNat, Int.reduceBNe, Int.reduceBEq, Int.reduceNeg, Int.reduceEq, Int.reduceNe, Nat.reduceBNe, Int.reduceAdd, Int.reduceSub, Int.reduceMul, Int.reducePow, Nat.reducePow, Int.reduceGT, Int.reduceGE, and_self, and_true, true_and, and_false, false_and, or_true, true_or, or_false, false_or, not_true_eq_false, not_false_eq_true, if_true, if_false, ite_true, ite_false, beq_self_eq_true, BEq.rfl, reduceCtorEq, eq_self, ne_eq, decide_true, decide_false, Function.comp_def, beq_iff_eq]
    refine q_within ?_
    cases hw : withinB xs[i] (last + 1) 2147483647
    · have hb : unitsB xs = false := by unfold unitsB; rw [hgo, hw]; rfl
      rw [hb] at h
      simp only [evf, ↓evp, evq, evr, fxa0, fxa1, fxa2, fxa3, fxu, fxn, fxl, ↓fxp, absL, fitL, flatL, ares, ares1, ofVal, unSc, aload, afill, splice, abound, asI, elems, IntKind.bits, sortT, eqNil, closedL, allByte, patch, pendOK, numA, Value.cells, Value.oneCell', ibin, List.replicate, false_implies, forall_eq, forall_eq_or_imp, true_implies, implies_true, forall_const, Option.elim, Nat.reduceAdd, Nat.reduceSub, Nat.reduceMul, Nat.reduceLT, Nat.reduceEqDiff, Nat.reduceLeDiff, Nat.reduceBEq, Int.reduceLE, Int.reduceLT, Int.reduceToNat, Int.reduceBNe, Int.reduceBEq, Int.reduceNeg, Int.reduceEq, Int.reduceNe, Nat.reduceBNe, Int.reduceAdd, Int.reduceSub, Int.reduceMul, Int.reducePow, Nat.reducePow, Int.reduceGT, Int.reduceGE, and_self, and_true, true_and, and_false, false_and, or_true, true_or, or_false, false_or, not_true_eq_false, not_false_eq_true, if_true, if_false, ite_true, ite_false, beq_self_eq_true, BEq.rfl, reduceCtorEq, eq_self, ne_eq, decide_true, decide_false, Function.comp_def, beq_iff_eq]
      exact h
    · simp only [f0, f4, p1, p2, a1, evf, ↓evp, evq, evr, fxa0, fxa1, fxa2, fxa3, fxu, fxn, fxl, ↓fxp, absL, fitL, flatL, ares, ares1, ofVal, unSc, aload, afill, splice, abound, asI, elems, IntKind.bits, sortT, eqNil, closedL, allByte, patch, pendOK, numA, Value.cells, Value.oneCell', ibin, List.replicate, false_implies, forall_eq, forall_eq_or_imp, true_implies, implies_true, forall_const, Option.elim, Nat.reduceAdd, Nat.reduceSub, Nat.reduceMul, Nat.reduceLT, Nat.reduceEqDiff, Nat.reduceLeDiff, Nat.reduceBEq, Int.reduceLE, Int.reduceLT, Int.reduceToNat, Int.reduceBNe, Int.reduceBEq, Int.reduceNeg, Int.reduceEq, Int.reduceNe, Nat.reduceBNe, Int.reduceAdd, Int.reduceSub, Int.reduceMul, Int.reducePow, Nat.reducePow, Int.reduceGT, Int.reduceGE, and_self, and_true, true_and, and_false, false_and, or_true, true_or, or_false, false_or, not_true_eq_false, not_false_eq_true, if_true, if_false, ite_true, ite_false, beq_self_eq_true, BEq.rfl, reduceCtorEq, eq_self, ne_eq, decide_true, decide_false, Function.comp_def, beq_iff_eq]
      rw [hw, Bool.true_and] at hgo
      refine hI' _ _ _ ⟨rfl, i + 1, xs[i], by omega, hil, ?_, ?_, hgo, by simp only [f0, evf, ne_eq, Nat.reduceEqDiff, Nat.reduceLT, not_false_eq_true], by simp only [evf, ne_eq, Nat.reduceEqDiff, Nat.reduceLT, not_false_eq_true], by simp only [evf, ne_eq, Nat.reduceEqDiff, Nat.reduceLT, not_false_eq_true]⟩
      · simp [withinB] at hw; omega
      · simp [withinB] at hw; omega
  · have d : decide ((i : Int) < xs.length) = false := decide_eq_false (by omega)
    rw [List.drop_eq_nil_of_le (by omega), goB] at hgo
    unfold unitsB at h
    rw [hgo, Bool.true_and] at h
    simp only [f0, f4, d, hal, evf, ↓evp, evq, evr, fxa0, fxa1, fxa2, fxa3, fxu, fxn, fxl, ↓fxp, absL, fitL, flatL, ares, ares1, ofVal, unSc, aload, afill, splice, abound, asI, elems, IntKind.bits, sortT, eqNil, closedL, allByte, patch, pendOK, numA, Value.cells, Value.oneCell', ibin, List.replicate, false_implies, forall_eq, forall_eq_or_imp, true_implies, implies_true, forall_const, Option.elim, Nat.reduceAdd, Nat.reduceSub, Nat.reduceMul, Nat.reduceLT, Nat.reduceEqDiff, Nat.reduceLeDiff, Nat.reduceBEq, Int.reduceLE, Int.reduceLT, Int.reduceToNat, Int.reduceBNe, Int.reduceBEq, Int.reduceNeg, Int.reduceEq, Int.reduceNe, Nat.reduceBNe, Int.reduceAdd, Int.reduceSub, Int.reduceMul, Int.reducePow, Nat.reducePow, Int.reduceGT, Int.reduceGE, and_self, and_true, true_and, and_false, false_and, or_true, true_or, or_false, false_or, not_true_eq_false, not_false_eq_true, if_true, if_false, ite_true, ite_false, beq_self_eq_true, BEq.rfl, reduceCtorEq, eq_self, ne_eq, decide_true, decide_false, Function.comp_def, beq_iff_eq]
    refine q_within ?_
    simp only [evf, ↓evp, evq, evr, fxa0, fxa1, fxa2, fxa3, fxu, fxn, fxl, ↓fxp, absL, fitL, flatL, ares, ares1, ofVal, unSc, aload, afill, splice, abound, asI, elems, IntKind.bits, sortT, eqNil, closedL, allByte, patch, pendOK, numA, Value.cells, Value.oneCell', ibin, List.replicate, false_implies, forall_eq, forall_eq_or_imp, true_implies, implies_true, forall_const, Option.elim, Nat.reduceAdd, Nat.reduceSub, Nat.reduceMul, Nat.reduceLT, Nat.reduceEqDiff, Nat.reduceLeDiff, Nat.reduceBEq, Int.reduceLE, Int.reduceLT, Int.reduceToNat, Int.reduceBNe, Int.reduceBEq, Int.reduceNeg, Int.reduceEq, Int.reduceNe, Nat.reduceBNe, Int.reduceAdd, Int.reduceSub, Int.reduceMul, Int.reducePow, Nat.reducePow, Int.reduceGT, Int.reduceGE, and_self, and_true, true_and, and_false, false_and, or_true, true_or, or_false, false_or, not_true_eq_false, not_false_eq_true, if_true, if_false, ite_true, ite_false, beq_self_eq_true, BEq.rfl, reduceCtorEq, eq_self, ne_eq, decide_true, decide_false, Function.comp_def, beq_iff_eq]
    exact h
def cellB (x y : Int) : Bool := decide (x ≥ 0) && decide (x < 128) && decide (y ≥ 0) && decide (y < 128)
theorem q_cell {x y : Int} (hK : ∀ s, Grw st s → K (.sc (.bool (cellB x y))) s) : acallF Try.prog pl (n + 1) m 76 [cl x y] st K := by
  refine acallF_inF Try.func76 rfl Try.ntmps76 (by simp) ?_
  unfold cellB at hK
  cases e1 : decide (x ≥ 0)
  · simp only [e1, Bool.false_and] at hK
    simp only [cl, e1, evf, ↓evp, evq, evr, fxa0, fxa1, fxa2, fxa3, fxu, fxn, fxl, ↓fxp, absL, fitL, flatL, ares, ares1, ofVal, unSc, aload, afill, splice, abound, asI, elems, IntKind.bits, sortT, eqNil, closedL, allByte, patch, pendOK, numA, Value.cells, Value.oneCell', ibin, List.replicate, false_implies, forall_eq, forall_eq_or_imp, true_implies, implies_true, forall_const, Option.elim, Nat.reduceAdd, Nat.reduceSub, Nat.reduceMul, Nat.reduceLT, Nat.reduceEqDiff, Nat.reduceLeDiff, Nat.reduceBEq, Int.reduceLE, Int.reduceLT, Int.reduceToNat, Int.reduceBNe, Int.reduceBEq, Int.reduceNeg, Int.reduceEq, Int.reduceNe, Nat.reduceBNe, Int.reduceAdd, Int.reduceSub, Int.reduceMul, Int.reducePow, Nat.reducePow, Int.reduceGT, Int.reduceGE, and_self, and_true, true_and, and_false, false_and, or_true, true_or, or_false, false_or, not_true_eq_false, not_false_eq_true, if_true, if_false, ite_true, ite_false, beq_self_eq_true, BEq.rfl, reduceCtorEq, eq_self, ne_eq, decide_true, decide_false, Function.comp_def, beq_iff_eq]
    exact hK _ (.push _ _)
  cases e2 : decide (x < 128)
  · simp only [e1, e2, Bool.false_and, Bool.and_false] at hK
    simp only [cl, e1, e2, evf, ↓evp, evq, evr, fxa0, fxa1, fxa2, fxa3, fxu, fxn, fxl, ↓fxp, absL, fitL, flatL, ares, ares1, ofVal, unSc, aload, afill, splice, abound, asI, elems, IntKind.bits, sortT, eqNil, closedL, allByte, patch, pendOK, numA, Value.cells, Value.oneCell', ibin, List.replicate, false_implies, forall_eq, forall_eq_or_imp, true_implies, implies_true, forall_const, Option.elim, Nat.reduceAdd, Nat.reduceSub, Nat.reduceMul, Nat.reduceLT, Nat.reduceEqDiff, Nat.reduceLeDiff, Nat.reduceBEq, Int.reduceLE, Int.reduceLT, Int.reduceToNat, Int.reduceBNe, Int.reduceBEq, Int.reduceNeg, Int.reduceEq, Int.reduceNe, Nat.reduceBNe, Int.reduceAdd, Int.reduceSub, Int.reduceMul, Int.reducePow, Nat.reducePow, Int.reduceGT, Int.reduceGE, and_self, and_true, true_and, and_false, false_and, or_true, true_or, or_false, false_or, not_true_eq_false, not_false_eq_true, if_true, if_false, ite_true, ite_false, beq_self_eq_true, BEq.rfl, reduceCtorEq, eq_self, ne_eq, decide_true, decide_false, Function.comp_def, beq_iff_eq]
    exact hK _ (.push _ _)
  cases e3 : decide (y ≥ 0)
  · simp only [e1, e2, e3, Bool.false_and, Bool.and_false] at hK
    simp only [cl, e1, e2, e3, evf, ↓evp, evq, evr, fxa0, fxa1, fxa2, fxa3, fxu, fxn, fxl, ↓fxp, absL, fitL, flatL, ares, ares1, ofVal, unSc, aload, afill, splice, abound, asI, elems, IntKind.bits, sortT, eqNil, closedL, allByte, patch, pendOK, numA, Value.cells, Value.oneCell', ibin, List.replicate, false_implies, forall_eq, forall_eq_or_imp, true_implies, implies_true, forall_const, Option.elim, Nat.reduceAdd, Nat.reduceSub, Nat.reduceMul, Nat.reduceLT, Nat.reduceEqDiff, Nat.reduceLeDiff, Nat.reduceBEq, Int.reduceLE, Int.reduceLT, Int.reduceToNat, Int.reduceBNe, Int.reduceBEq, Int.reduceNeg, Int.reduceEq, Int.reduceNe, Nat.reduceBNe, Int.reduceAdd, Int.reduceSub, Int.reduceMul, Int.reducePow, Nat.reducePow, Int.reduceGT, Int.reduceGE, and_self, and_true, true_and, and_false, false_and, or_true, true_or, or_false, false_or, not_true_eq_false, not_false_eq_true, if_true, if_false, ite_true, ite_false, beq_self_eq_true, BEq.rfl, reduceCtorEq, eq_self, ne_eq, decide_true, decide_false, Function.comp_def, beq_iff_eq]
    exact hK _ (.push _ _)
  simp only [e1, e2, e3, Bool.true_and] at hK
  simp only [cl, e1, e2, e3, evf, ↓evp, evq, evr, fxa0, fxa1, fxa2, fxa3, fxu, fxn, fxl, ↓fxp, absL, fitL, flatL, ares, ares1, ofVal, unSc, aload, afill, splice, abound, asI, elems, IntKind.bits, sortT, eqNil, closedL, allByte, patch, pendOK, numA, Value.cells, Value.oneCell', ibin, List.replicate, false_implies, forall_eq, forall_eq_or_imp, true_implies, implies_true, forall_const, Option.elim, Nat.reduceAdd, Nat.reduceSub, Nat.reduceMul, Nat.reduceLT, Nat.reduceEqDiff, Nat.reduceLeDiff, Nat.reduceBEq, Int.reduceLE, Int.reduceLT, Int.reduceToNat, Int.reduceBNe, Int.reduceBEq, Int.reduceNeg, Int.reduceEq, Int.reduceNe, Nat.reduceBNe, Int.reduceAdd, Int.reduceSub, Int.reduceMul, Int.reducePow, Nat.reducePow, Int.reduceGT, Int.reduceGE, and_self, and_true, true_and, and_false, false_and, or_true, true_or, or_false, false_or, not_true_eq_false, not_false_eq_true, if_true, if_false, ite_true, ite_false, beq_self_eq_true, BEq.rfl, reduceCtorEq, eq_self, ne_eq, decide_true, decide_false, Function.comp_def, beq_iff_eq]
  exact hK _ (.push _ _)
set_option maxHeartbeats 2000000 in
theorem q_bare {c : Cmd} (hc : c.at_ st) (hK : ∀ s, Grw st s → K (.agg (bareC c).v) s) : acallF Try.prog pl (n + 1) m 74 [.agg c.v] st K := by
  refine acallF_inF Try.func74 rfl Try.ntmps74 (by simp) ?_
  unfold bareC at hK
  by_cases k1 : c.kind = 1
  · have q1 : (c.kind == 1) = true := by simp [k1]
    rw [if_pos k1] at hK
    simp only [Cmd.v, hc.one, hc.cv, q1, evf, ↓evp, evq, evr, fxa0, fxa1, fxa2, fxa3, fxu, fxn, fxl, ↓fxp, absL, fitL, flatL, ares, ares1, ofVal, unSc, aload, afill, splice, abound, asI, elems, IntKind.bits, sortT, eqNil, closedL, allByte, patch, pendOK, numA, Value.cells, Value.oneCell', ibin, List.replicate, false_implies, forall_eq, forall_eq_or_imp, true_implies, implies_true, forall_const, Option.elim, Nat.reduceAdd, Nat.reduceSub, Nat.reduceMul, Nat.reduceLT, Nat.reduceEqDiff, Nat.reduceLeDiff, Nat.reduceBEq, Int.reduceLE, Int.reduceLT, Int.reduceToNat, Int.reduceBNe, Int.reduceBEq, Int.reduceNeg, Int.reduceEq, Int.reduceNe, Nat.reduceBNe, Int.reduceAdd, Int.reduceSub, Int.reduceMul, Int.reducePow, Nat.reducePow, Int.reduceGT, Int.reduceGE, and_self, and_true, true_and, and_false, false_and, or_true, true_or, or_false, false_or, not_true_eq_false, not_false_eq_true, if_true, if_false, ite_true, ite_false, beq_self_eq_true, BEq.rfl, reduceCtorEq, eq_self, ne_eq, decide_true, decide_false, Function.comp_def, beq_iff_eq]
    exact hK _ (.push _ _)
  have q1 : (c.kind == 1) = false := by simp [k1]
  rw [if_neg k1] at hK
  by_cases k2 : c.kind = 2
  · have q2 : (c.kind == 2) = true := by simp [k2]
    rw [if_pos k2] at hK
    simp only [Cmd.v, hc.one, hc.cv, q1, q2, evf, ↓evp, evq, evr, fxa0, fxa1, fxa2, fxa3, fxu, fxn, fxl, ↓fxp, absL, fitL, flatL, ares, ares1, ofVal, unSc, aload, afill, splice, abound, asI, elems, IntKind.bits, sortT, eqNil, closedL, allByte, patch, pendOK, numA, Value.cells, Value.oneCell', ibin, List.replicate, false_implies, forall_eq, forall_eq_or_imp, true_implies, implies_true, forall_const, Option.elim, Nat.reduceAdd, Nat.reduceSub, Nat.reduceMul, Nat.reduceLT, Nat.reduceEqDiff, Nat.reduceLeDiff, Nat.reduceBEq, Int.reduceLE, Int.reduceLT, Int.reduceToNat, Int.reduceBNe, Int.reduceBEq, Int.reduceNeg, Int.reduceEq, Int.reduceNe, Nat.reduceBNe, Int.reduceAdd, Int.reduceSub, Int.reduceMul, Int.reducePow, Nat.reducePow, Int.reduceGT, Int.reduceGE, and_self, and_true, true_and, and_false, false_and, or_true, true_or, or_false, false_or, not_true_eq_false, not_false_eq_true, if_true, if_false, ite_true, ite_false, beq_self_eq_true, BEq.rfl, reduceCtorEq, eq_self, ne_eq, decide_true, decide_false, Function.comp_def, beq_iff_eq]
    exact hK _ (.push _ _)
  have q2 : (c.kind == 2) = false := by simp [k2]
  rw [if_neg k2] at hK
  by_cases k3 : c.kind = 3
  · have q3 : (c.kind == 3) = true := by simp [k3]
    rw [if_pos k3] at hK
    simp only [Cmd.v, hc.one, hc.cv, q1, q2, q3, evf, ↓evp, evq, evr, fxa0, fxa1, fxa2, fxa3, fxu, fxn, fxl, ↓fxp, absL, fitL, flatL, ares, ares1, ofVal, unSc, aload, afill, splice, abound, asI, elems, IntKind.bits, sortT, eqNil, closedL, allByte, patch, pendOK, numA, Value.cells, Value.oneCell', ibin, List.replicate, false_implies, forall_eq, forall_eq_or_imp, true_implies, implies_true, forall_const, Option.elim, Nat.reduceAdd, Nat.reduceSub, Nat.reduceMul, Nat.reduceLT, Nat.reduceEqDiff, Nat.reduceLeDiff, Nat.reduceBEq, Int.reduceLE, Int.reduceLT, Int.reduceToNat, Int.reduceBNe, Int.reduceBEq, Int.reduceNeg, Int.reduceEq, Int.reduceNe, Nat.reduceBNe, Int.reduceAdd, Int.reduceSub, Int.reduceMul, Int.reducePow, Nat.reducePow, Int.reduceGT, Int.reduceGE, and_self, and_true, true_and, and_false, false_and, or_true, true_or, or_false, false_or, not_true_eq_false, not_false_eq_true, if_true, if_false, ite_true, ite_false, beq_self_eq_true, BEq.rfl, reduceCtorEq, eq_self, ne_eq, decide_true, decide_false, Function.comp_def, beq_iff_eq]
    exact hK _ (.push _ _)
  have q3 : (c.kind == 3) = false := by simp [k3]
  rw [if_neg k3] at hK
  by_cases k4 : c.kind = 4
  · have q4 : (c.kind == 4) = true := by simp [k4]
    rw [if_pos k4] at hK
    simp only [Cmd.v, hc.one, hc.cv, q1, q2, q3, q4, evf, ↓evp, evq, evr, fxa0, fxa1, fxa2, fxa3, fxu, fxn, fxl, ↓fxp, absL, fitL, flatL, ares, ares1, ofVal, unSc, aload, afill, splice, abound, asI, elems, IntKind.bits, sortT, eqNil, closedL, allByte, patch, pendOK, numA, Value.cells, Value.oneCell', ibin, List.replicate, false_implies, forall_eq, forall_eq_or_imp, true_implies, implies_true, forall_const, Option.elim, Nat.reduceAdd, Nat.reduceSub, Nat.reduceMul, Nat.reduceLT, Nat.reduceEqDiff, Nat.reduceLeDiff, Nat.reduceBEq, Int.reduceLE, Int.reduceLT, Int.reduceToNat, Int.reduceBNe, Int.reduceBEq, Int.reduceNeg, Int.reduceEq, Int.reduceNe, Nat.reduceBNe, Int.reduceAdd, Int.reduceSub, Int.reduceMul, Int.reducePow, Nat.reducePow, Int.reduceGT, Int.reduceGE, and_self, and_true, true_and, and_false, false_and, or_true, true_or, or_false, false_or, not_true_eq_false, not_false_eq_true, if_true, if_false, ite_true, ite_false, beq_self_eq_true, BEq.rfl, reduceCtorEq, eq_self, ne_eq, decide_true, decide_false, Function.comp_def, beq_iff_eq]
    exact hK _ (.push _ _)
  have q4 : (c.kind == 4) = false := by simp [k4]
  rw [if_neg k4] at hK
  by_cases k5 : c.kind = 5
  · have q5 : (c.kind == 5) = true := by simp [k5]
    rw [if_pos k5] at hK
    simp only [Cmd.v, hc.one, hc.cv, q1, q2, q3, q4, q5, evf, ↓evp, evq, evr, fxa0, fxa1, fxa2, fxa3, fxu, fxn, fxl, ↓fxp, absL, fitL, flatL, ares, ares1, ofVal, unSc, aload, afill, splice, abound, asI, elems, IntKind.bits, sortT, eqNil, closedL, allByte, patch, pendOK, numA, Value.cells, Value.oneCell', ibin, List.replicate, false_implies, forall_eq, forall_eq_or_imp, true_implies, implies_true, forall_const, Option.elim, Nat.reduceAdd, Nat.reduceSub, Nat.reduceMul, Nat.reduceLT, Nat.reduceEqDiff, Nat.reduceLeDiff, Nat.reduceBEq, Int.reduceLE, Int.reduceLT, Int.reduceToNat, Int.reduceBNe, Int.reduceBEq, Int.reduceNeg, Int.reduceEq, Int.reduceNe, Nat.reduceBNe, Int.reduceAdd, Int.reduceSub, Int.reduceMul, Int.reducePow, Nat.reducePow, Int.reduceGT, Int.reduceGE, and_self, and_true, true_and, and_false, false_and, or_true, true_or, or_false, false_or, not_true_eq_false, not_false_eq_true, if_true, if_false, ite_true, ite_false, beq_self_eq_true, BEq.rfl, reduceCtorEq, eq_self, ne_eq, decide_true, decide_false, Function.comp_def, beq_iff_eq]
    exact hK _ (.push _ _)
  have q5 : (c.kind == 5) = false := by simp [k5]
  rw [if_neg k5] at hK
  simp only [Cmd.v, hc.one, hc.cv, q1, q2, q3, q4, q5, evf, ↓evp, evq, evr, fxa0, fxa1, fxa2, fxa3, fxu, fxn, fxl, ↓fxp, absL, fitL, flatL, ares, ares1, ofVal, unSc, aload, afill, splice, abound, asI, elems, IntKind.bits, sortT, eqNil, closedL, allByte, patch, pendOK, numA, Value.cells, Value.oneCell', ibin, List.replicate, false_implies, forall_eq, forall_eq_or_imp, true_implies, implies_true, forall_const, Option.elim, Nat.reduceAdd, Nat.reduceSub, Nat.reduceMul, Nat.reduceLT, Nat.reduceEqDiff, Nat.reduceLeDiff, Nat.reduceBEq, Int.reduceLE, Int.reduceLT, Int.reduceToNat, Int.reduceBNe, Int.reduceBEq, Int.reduceNeg, Int.reduceEq, Int.reduceNe, Nat.reduceBNe, Int.reduceAdd, Int.reduceSub, Int.reduceMul, Int.reducePow, Nat.reducePow, Int.reduceGT, Int.reduceGE, and_self, and_true, true_and, and_false, false_and, or_true, true_or, or_false, false_or, not_true_eq_false, not_false_eq_true, if_true, if_false, ite_true, ite_false, beq_self_eq_true, BEq.rfl, reduceCtorEq, eq_self, ne_eq, decide_true, decide_false, Function.comp_def, beq_iff_eq]
  exact hK _ (.push _ _)
end
end Go.Proofs.Ytfndpnmdjblokaa
