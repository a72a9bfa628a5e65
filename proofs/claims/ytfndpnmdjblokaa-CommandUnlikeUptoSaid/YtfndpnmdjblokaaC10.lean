/- Chapter 24: commands alike, by the document. -/
import Derived.Test.YtfndpnmdjblokaaC9
set_option linter.unusedVariables false
set_option linter.unusedSimpArgs false
set_option maxRecDepth 10000
namespace Go.Proofs.Ytfndpnmdjblokaa
open Go Go.M Go.RowKit
attribute [local congr] acallF_cong aloop_cong bcase_cong resK_cong valK_cong wantK_cong callK_cong xputK_cong qputK_cong
attribute [local irreducible] seqK blockK loopK nextK bcase resK valK wantK funK putK dputK xputK qputK callK aops aop acode adraw aloop acallF acall invK
theorem cmp_CellN (x y : Operand) (a b c d : Int) : pureRun Try.prog (do eqGuard .neq 55 x y (.agg #[.int .i64 a, .int .i64 b]) (.agg #[.int .i64 c, .int .i64 d]); binOp .neq 55 (.agg #[.int .i64 a, .int .i64 b]) (.agg #[.int .i64 c, .int .i64 d])) = some (.bool (!(a == c && b == d))) :=
  pr_neqStruct x y (by kernel_rfl) (pr_eq2 Try.underlying55 (by kernel_rfl) (by decide) (by decide) rfl rfl Try.underlying3 Try.underlying3 a b c d)
theorem cmp_ShapeN (x y : Operand) (a b c d : Int) : pureRun Try.prog (do eqGuard .neq 57 x y (.agg #[.int .i64 a, .int .i64 b]) (.agg #[.int .i64 c, .int .i64 d]); binOp .neq 57 (.agg #[.int .i64 a, .int .i64 b]) (.agg #[.int .i64 c, .int .i64 d])) = some (.bool (!(a == c && b == d))) :=
  pr_neqStruct x y (by kernel_rfl) (pr_eq2 Try.underlying57 (by kernel_rfl) (by decide) (by decide) rfl rfl Try.underlying3 Try.underlying3 a b c d)
def sameB (a b : Cmd) : Bool := (a.tick == b.tick) && (a.player == b.player) && (a.seq == b.seq) && (a.kind == b.kind) && (a.x == b.x && a.y == b.y) && (a.w == b.w) && (a.h == b.h) && (a.id == b.id) && (a.cls == b.cls && a.sz == b.sz) && (a.units == b.units)
section
variable {n m : Nat} {st : List Ob} {K : V → List Ob → Prop}
set_option maxHeartbeats 4000000 in
theorem q_Same {a b : Cmd} (ha : a.at_ st) (hb : b.at_ st) (hm : a.units.length < m) (hK : ∀ s', Grw st s' → K (.sc (.bool (sameB a b))) s') : acallF Try.prog pl (n + 1) m 39 [.agg a.v, .agg b.v] st K := by
  refine acallF_inF Try.func39 rfl Try.ntmps39 (by simp) ?_
  have g0 := Grw.push st [.cells a.v, .cells b.v]
  have al : ∀ s', Grw st s' → alen Try.prog s' 53 a.uv = some (.sc (.int .i64 a.units.length), s') := fun s' h => alen_rd (ha.grw h).rd Try.underlying53
  have bl : ∀ s', Grw st s' → alen Try.prog s' 53 b.uv = some (.sc (.int .i64 b.units.length), s') := fun s' h => alen_rd (hb.grw h).rd Try.underlying53
  unfold sameB at hK
  cases e0 : (a.tick == b.tick)
  · have q0 : (a.tick != b.tick) = true := by simp only [bne, e0]; rfl
    simp only [e0, Bool.false_and] at hK
    simp only [Cmd.v, ha.one, ha.cv, hb.one, hb.cv, q0, cmp_CellN, cmp_ShapeN, Bool.not_false, List.append_eq, evf, ↓evp, evq, evr, fxa0, fxa1, fxa2, fxa3, fxu, fxn, fxl, ↓fxp, absL, fitL, flatL, ares, ares1, ofVal, unSc, aload, afill, splice, abound, asI, elems, IntKind.bits, sortT, eqNil, closedL, allByte, patch, pendOK, numA, Value.cells, Value.oneCell', ibin, List.replicate, false_implies, forall_eq, forall_eq_or_imp, true_implies, implies_true, forall_const, Option.elim, Nat.reduceAdd, Nat.reduceSub, Nat.reduceMul, Nat.reduceLT, Nat.reduceEqDiff, Nat.reduceLeDiff, Nat.reduceBEq, Int.reduceLE, Int.reduceLT, Int.reduceToNat, Int.reduceBNe, Int.reduceBEq, Int.reduceNeg, Int.reduceEq, Int.reduceNe, Nat.reduceBNe, Int.reduceAdd, Int.reduceSub, Int.reduceMul, Int.reducePow, Nat.reducePow, Int.reduceGT, Int.reduceGE, and_self, and_true, true_and, and_false, false_and, or_true, true_or, or_false, false_or, not_true_eq_false, not_false_eq_true, if_true, if_false, ite_true, ite_false, beq_self_eq_true, BEq.rfl, reduceCtorEq, eq_self, ne_eq, decide_true, decide_false, Function.comp_def, beq_iff_eq]
    exact hK _ (.push _ _)
  have q0 : (a.tick != b.tick) = false := by simp only [bne, e0]; rfl
  simp only [e0, Bool.true_and] at hK
  cases e1 : (a.player == b.player)
  · have q1 : (a.player != b.player) = true := by simp only [bne, e1]; rfl
    simp only [e1, Bool.false_and] at hK
    simp only [Cmd.v, ha.one, ha.cv, hb.one, hb.cv, q0, q1, cmp_CellN, cmp_ShapeN, Bool.not_false, List.append_eq, evf, ↓evp, evq, evr, fxa0, fxa1, fxa2, fxa3, fxu, fxn, fxl, ↓fxp, absL, fitL, flatL, ares, ares1, ofVal, unSc, aload, afill, splice, abound, asI, elems, IntKind.bits, sortT, eqNil, closedL, allByte, patch, pendOK, numA, Value.cells, Value.oneCell', ibin, List.replicate, false_implies, forall_eq, forall_eq_or_imp, true_implies, implies_true, forall_const, Option.elim, Nat.reduceAdd, Nat.reduceSub, Nat.reduceMul, Nat.reduceLT, Nat.reduceEqDiff, Nat.reduceLeDiff, Nat.reduceBEq, Int.reduceLE, Int.reduceLT, Int.reduceToNat, Int.reduceBNe, Int.reduceBEq, Int.reduceNeg, Int.reduceEq, Int.reduceNe, Nat.reduceBNe, Int.reduceAdd, Int.reduceSub, Int.reduceMul, Int.reducePow, Nat.reducePow, Int.reduceGT, Int.reduceGE, and_self, and_true, true_and, and_false, false_and, or_true, true_or, or_false, false_or, not_true_eq_false, not_false_eq_true, if_true, if_false, ite_true, ite_false, beq_self_eq_true, BEq.rfl, reduceCtorEq, eq_self, ne_eq, decide_true, decide_false, Function.comp_def, beq_iff_eq]
    exact hK _ (.push _ _)
  have q1 : (a.player != b.player) = false := by simp only [bne, e1]; rfl
  simp only [e1, Bool.true_and] at hK
  cases e2 : (a.seq == b.seq)
  · have q2 : (a.seq != b.seq) = true := by simp only [bne, e2]; rfl
    simp only [e2, Bool.false_and] at hK
    simp only [Cmd.v, ha.one, ha.cv, hb.one, hb.cv, q0, q1, q2, cmp_CellN, cmp_ShapeN, Bool.not_false, List.append_eq, evf, ↓evp, evq, evr, fxa0, fxa1, fxa2, fxa3, fxu, fxn, fxl, ↓fxp, absL, fitL, flatL, ares, ares1, ofVal, unSc, aload, afill, splice, abound, asI, elems, IntKind.bits, sortT, eqNil, closedL, allByte, patch, pendOK, numA, Value.cells, Value.oneCell', ibin, List.replicate, false_implies, forall_eq, forall_eq_or_imp, true_implies, implies_true, forall_const, Option.elim, Nat.reduceAdd, Nat.reduceSub, Nat.reduceMul, Nat.reduceLT, Nat.reduceEqDiff, Nat.reduceLeDiff, Nat.reduceBEq, Int.reduceLE, Int.reduceLT, Int.reduceToNat, Int.reduceBNe, Int.reduceBEq, Int.reduceNeg, Int.reduceEq, Int.reduceNe, Nat.reduceBNe, Int.reduceAdd, Int.reduceSub, Int.reduceMul, Int.reducePow, Nat.reducePow, Int.reduceGT, Int.reduceGE, and_self, and_true, true_and, and_false, false_and, or_true, true_or, or_false, false_or, not_true_eq_false, not_false_eq_true, if_true, if_false, ite_true, ite_false, beq_self_eq_true, BEq.rfl, reduceCtorEq, eq_self, ne_eq, decide_true, decide_false, Function.comp_def, beq_iff_eq]
    exact hK _ (.push _ _)
  have q2 : (a.seq != b.seq) = false := by simp only [bne, e2]; rfl
  simp only [e2, Bool.true_and] at hK
  cases e3 : (a.kind == b.kind)
  · have q3 : (a.kind != b.kind) = true := by simp only [bne, e3]; rfl
    simp only [e3, Bool.false_and] at hK
    simp only [Cmd.v, ha.one, ha.cv, hb.one, hb.cv, q0, q1, q2, q3, cmp_CellN, cmp_ShapeN, Bool.not_false, List.append_eq, evf, ↓evp, evq, evr, fxa0, fxa1, fxa2, fxa3, fxu, fxn, fxl, ↓fxp, absL, fitL, flatL, ares, ares1, ofVal, unSc, aload, afill, splice, abound, asI, elems, IntKind.bits, sortT, eqNil, closedL, allByte, patch, pendOK, numA, Value.cells, Value.oneCell', ibin, List.replicate, false_implies, forall_eq, forall_eq_or_imp, true_implies, implies_true, forall_const, Option.elim, Nat.reduceAdd, Nat.reduceSub, Nat.reduceMul, Nat.reduceLT, Nat.reduceEqDiff, Nat.reduceLeDiff, Nat.reduceBEq, Int.reduceLE, Int.reduceLT, Int.reduceToNat, Int.reduceBNe, Int.reduceBEq, Int.reduceNeg, Int.reduceEq, Int.reduceNe, Nat.reduceBNe, Int.reduceAdd, Int.reduceSub, Int.reduceMul, Int.reducePow, Nat.reducePow, Int.reduceGT, Int.reduceGE, and_self, and_true, true_and, and_false, false_and, or_true, true_or, or_false, false_or, not_true_eq_false, not_false_eq_true, if_true, if_false, ite_true, ite_false, beq_self_eq_true, BEq.rfl, reduceCtorEq, eq_self, ne_eq, decide_true, decide_false, Function.comp_def, beq_iff_eq]
    exact hK _ (.push _ _)
  have q3 : (a.kind != b.kind) = false := by simp only [bne, e3]; rfl
  simp only [e3, Bool.true_and] at hK
  cases e4 : (a.x == b.x && a.y == b.y)
  · simp only [e4, Bool.false_and] at hK
    simp only [Cmd.v, ha.one, ha.cv, hb.one, hb.cv, q0, q1, q2, q3, e4, cmp_CellN, cmp_ShapeN, Bool.not_false, List.append_eq, evf, ↓evp, evq, evr, fxa0, fxa1, fxa2, fxa3, fxu, fxn, fxl, ↓fxp, absL, fitL, flatL, ares, ares1, ofVal, unSc, aload, afill, splice, abound, asI, elems, IntKind.bits, sortT, eqNil, closedL, allByte, patch, pendOK, numA, Value.cells, Value.oneCell', ibin, List.replicate, false_implies, forall_eq, forall_eq_or_imp, true_implies, implies_true, forall_const, Option.elim, Nat.reduceAdd, Nat.reduceSub, Nat.reduceMul, Nat.reduceLT, Nat.reduceEqDiff, Nat.reduceLeDiff, Nat.reduceBEq, Int.reduceLE, Int.reduceLT, Int.reduceToNat, Int.reduceBNe, Int.reduceBEq, Int.reduceNeg, Int.reduceEq, Int.reduceNe, Nat.reduceBNe, Int.reduceAdd, Int.reduceSub, Int.reduceMul, Int.reducePow, Nat.reducePow, Int.reduceGT, Int.reduceGE, and_self, and_true, true_and, and_false, false_and, or_true, true_or, or_false, false_or, not_true_eq_false, not_false_eq_true, if_true, if_false, ite_true, ite_false, beq_self_eq_true, BEq.rfl, reduceCtorEq, eq_self, ne_eq, decide_true, decide_false, Function.comp_def, beq_iff_eq]
    exact hK _ (.push _ _)
  simp only [e4, Bool.true_and] at hK
  cases e5 : (a.w == b.w)
  · have q5 : (a.w != b.w) = true := by simp only [bne, e5]; rfl
    simp only [e5, Bool.false_and] at hK
    simp only [Cmd.v, ha.one, ha.cv, hb.one, hb.cv, q0, q1, q2, q3, e4, q5, cmp_CellN, cmp_ShapeN, Bool.not_false, List.append_eq, evf, ↓evp, evq, evr, fxa0, fxa1, fxa2, fxa3, fxu, fxn, fxl, ↓fxp, absL, fitL, flatL, ares, ares1, ofVal, unSc, aload, afill, splice, abound, asI, elems, IntKind.bits, sortT, eqNil, closedL, allByte, patch, pendOK, numA, Value.cells, Value.oneCell', ibin, List.replicate, false_implies, forall_eq, forall_eq_or_imp, true_implies, implies_true, forall_const, Option.elim, Nat.reduceAdd, Nat.reduceSub, Nat.reduceMul, Nat.reduceLT, Nat.reduceEqDiff, Nat.reduceLeDiff, Nat.reduceBEq, Int.reduceLE, Int.reduceLT, Int.reduceToNat, Int.reduceBNe, Int.reduceBEq, Int.reduceNeg, Int.reduceEq, Int.reduceNe, Nat.reduceBNe, Int.reduceAdd, Int.reduceSub, Int.reduceMul, Int.reducePow, Nat.reducePow, Int.reduceGT, Int.reduceGE, and_self, and_true, true_and, and_false, false_and, or_true, true_or, or_false, false_or, not_true_eq_false, not_false_eq_true, if_true, if_false, ite_true, ite_false, beq_self_eq_true, BEq.rfl, reduceCtorEq, eq_self, ne_eq, decide_true, decide_false, Function.comp_def, beq_iff_eq]
    exact hK _ (.push _ _)
  have q5 : (a.w != b.w) = false := by simp only [bne, e5]; rfl
  simp only [e5, Bool.true_and] at hK
  cases e6 : (a.h == b.h)
  · have q6 : (a.h != b.h) = true := by simp only [bne, e6]; rfl
    simp only [e6, Bool.false_and] at hK
    simp only [Cmd.v, ha.one, ha.cv, hb.one, hb.cv, q0, q1, q2, q3, e4, q5, q6, cmp_CellN, cmp_ShapeN, Bool.not_false, List.append_eq, evf, ↓evp, evq, evr, fxa0, fxa1, fxa2, fxa3, fxu, fxn, fxl, ↓fxp, absL, fitL, flatL, ares, ares1, ofVal, unSc, aload, afill, splice, abound, asI, elems, IntKind.bits, sortT, eqNil, closedL, allByte, patch, pendOK, numA, Value.cells, Value.oneCell', ibin, List.replicate, false_implies, forall_eq, forall_eq_or_imp, true_implies, implies_true, forall_const, Option.elim, Nat.reduceAdd, Nat.reduceSub, Nat.reduceMul, Nat.reduceLT, Nat.reduceEqDiff, Nat.reduceLeDiff, Nat.reduceBEq, Int.reduceLE, Int.reduceLT, Int.reduceToNat, Int.reduceBNe, Int.reduceBEq, Int.reduceNeg, Int.reduceEq, Int.reduceNe, Nat.reduceBNe, Int.reduceAdd, Int.reduceSub, Int.reduceMul, Int.reducePow, Nat.reducePow, Int.reduceGT, Int.reduceGE, and_self, and_true, true_and, and_false, false_and, or_true, true_or, or_false, false_or, not_true_eq_false, not_false_eq_true, if_true, if_false, ite_true, ite_false, beq_self_eq_true, BEq.rfl, reduceCtorEq, eq_self, ne_eq, decide_true, decide_false, Function.comp_def, beq_iff_eq]
    exact hK _ (.push _ _)
  have q6 : (a.h != b.h) = false := by simp only [bne, e6]; rfl
  simp only [e6, Bool.true_and] at hK
  cases e7 : (a.id == b.id)
  · have q7 : (a.id != b.id) = true := by simp only [bne, e7]; rfl
    simp only [e7, Bool.false_and] at hK
    simp only [Cmd.v, ha.one, ha.cv, hb.one, hb.cv, q0, q1, q2, q3, e4, q5, q6, q7, cmp_CellN, cmp_ShapeN, Bool.not_false, List.append_eq, evf, ↓evp, evq, evr, fxa0, fxa1, fxa2, fxa3, fxu, fxn, fxl, ↓fxp, absL, fitL, flatL, ares, ares1, ofVal, unSc, aload, afill, splice, abound, asI, elems, IntKind.bits, sortT, eqNil, closedL, allByte, patch, pendOK, numA, Value.cells, Value.oneCell', ibin, List.replicate, false_implies, forall_eq, forall_eq_or_imp, true_implies, implies_true, forall_const, Option.elim, Nat.reduceAdd, Nat.reduceSub, Nat.reduceMul, Nat.reduceLT, Nat.reduceEqDiff, Nat.reduceLeDiff, Nat.reduceBEq, Int.reduceLE, Int.reduceLT, Int.reduceToNat, Int.reduceBNe, Int.reduceBEq, Int.reduceNeg, Int.reduceEq, Int.reduceNe, Nat.reduceBNe, Int.reduceAdd, Int.reduceSub, Int.reduceMul, Int.reducePow, Nat.reducePow, Int.reduceGT, Int.reduceGE, and_self, and_true, true_and, and_false, false_and, or_true, true_or, or_false, false_or, not_true_eq_false, not_false_eq_true, if_true, if_false, ite_true, ite_false, beq_self_eq_true, BEq.rfl, reduceCtorEq, eq_self, ne_eq, decide_true, decide_false, Function.comp_def, beq_iff_eq]
    exact hK _ (.push _ _)
  have q7 : (a.id != b.id) = false := by simp only [bne, e7]; rfl
  simp only [e7, Bool.true_and] at hK
  cases e8 : (a.cls == b.cls && a.sz == b.sz)
  · simp only [e8, Bool.false_and] at hK
    simp only [Cmd.v, ha.one, ha.cv, hb.one, hb.cv, q0, q1, q2, q3, e4, q5, q6, q7, e8, cmp_CellN, cmp_ShapeN, Bool.not_false, List.append_eq, evf, ↓evp, evq, evr, fxa0, fxa1, fxa2, fxa3, fxu, fxn, fxl, ↓fxp, absL, fitL, flatL, ares, ares1, ofVal, unSc, aload, afill, splice, abound, asI, elems, IntKind.bits, sortT, eqNil, closedL, allByte, patch, pendOK, numA, Value.cells, Value.oneCell', ibin, List.replicate, false_implies, forall_eq, forall_eq_or_imp, true_implies, implies_true, forall_const, Option.elim, Nat.reduceAdd, Nat.reduceSub, Nat.reduceMul, Nat.reduceLT, Nat.reduceEqDiff, Nat.reduceLeDiff, Nat.reduceBEq, Int.reduceLE, Int.reduceLT, Int.reduceToNat, Int.reduceBNe, Int.reduceBEq, Int.reduceNeg, Int.reduceEq, Int.reduceNe, Nat.reduceBNe, Int.reduceAdd, Int.reduceSub, Int.reduceMul, Int.reducePow, Nat.reducePow, Int.reduceGT, Int.reduceGE, and_self, and_true, true_and, and_false, false_and, or_true, true_or, or_false, false_or, not_true_eq_false, not_false_eq_true, if_true, if_false, ite_true, ite_false, beq_self_eq_true, BEq.rfl, reduceCtorEq, eq_self, ne_eq, decide_true, decide_false, Function.comp_def, beq_iff_eq]
    exact hK _ (.push _ _)
  simp only [e8, Bool.true_and] at hK
  by_cases hl : a.units.length = b.units.length
  · have ql : ((a.units.length : Int) != b.units.length) = false := by simp [hl]
    simp only [Cmd.v, ha.one, ha.cv, hb.one, hb.cv, q0, q1, q2, q3, e4, q5, q6, q7, e8, ql, al, bl, cmp_CellN, cmp_ShapeN, Bool.not_true, List.append_eq, evf, ↓evp, evq, evr, fxa0, fxa1, fxa2, fxa3, fxu, fxn, fxl, ↓fxp, absL, fitL, flatL, ares, ares1, ofVal, unSc, aload, afill, splice, abound, asI, elems, IntKind.bits, sortT, eqNil, closedL, allByte, patch, pendOK, numA, Value.cells, Value.oneCell', ibin, List.replicate, false_implies, forall_eq, forall_eq_or_imp, true_implies, implies_true, forall_const, Option.elim, Nat.reduceAdd, Nat.reduceSub, Nat.reduceMul, Nat.reduceLT, Nat.reduceEqDiff, Nat.reduceLeDiff, Nat.reduceBEq, Int.reduceLE, Int.reduceLT, Int.reduceToNat, Int.reduceBNe, Int.reduceBEq, Int.reduceNeg, Int.reduceEq, Int.reduceNe, Nat.reduceBNe, Int.reduceAdd, Int.reduceSub, Int.reduceMul, Int.reducePow, Nat.reducePow, Int.reduceGT, Int.reduceGE, and_self, and_true, true_and, and_false, false_and, or_true, true_or, or_false, false_or, not_true_eq_false, not_false_eq_true, if_true, if_false, ite_true, ite_false, beq_self_eq_true, BEq.rfl, reduceCtorEq, eq_self, ne_eq, decide_true, decide_false, Function.comp_def, beq_iff_eq]
    refine aloop_forF (fun k f s => s = st ++ [.cells a.v, .cells b.v] ∧ ∃ i : Nat, k + i = m ∧ i ≤ a.units.length ∧ a.units.take i = b.units.take i ∧ f 2 = .ref st.length 0 ∧ f 3 = .ref (st.length + 1) 0 ∧ f 5 = .sc (.int .i64 i)) ⟨rfl, 0, by omega, by omega, rfl, by simp only [evf, ne_eq, Nat.reduceEqDiff, Nat.reduceLT, not_false_eq_true], by simp only [evf, ne_eq, Nat.reduceEqDiff, Nat.reduceLT, not_false_eq_true], by simp only [evf, ne_eq, Nat.reduceEqDiff, Nat.reduceLT, not_false_eq_true]; rfl⟩ ?_
    rintro I' hI' k f s ⟨rfl, i, hk, hi, hti, f2, f3, f5⟩
    refine ⟨k - 1, by omega, ?_⟩
    simp only [Cmd.v] at hI' ⊢
    by_cases hil : i < a.units.length
    · have d : decide ((i : Int) < a.units.length) = true := decide_eq_true (by omega)
      have a1 : IntKind.i64.wrap ((i : Int) + 1) = ((i + 1 : Nat) : Int) := by rw [IntWalk.i64_in _ (by have := ha.len; omega)]; rfl
      obtain ⟨p1, p2⟩ := ix_is (ha.grw g0).rd hil
      obtain ⟨r1, r2⟩ := ix_is (hb.grw g0).rd (i := i) (by omega)
      simp only [Cmd.v] at p1 p2 r1 r2
      cases eu : (a.units[i] == b.units[i]'(by omega))
      · have qu : (a.units[i] != b.units[i]'(by omega)) = true := by simp only [bne, eu]; rfl
        have hf : (a.units == b.units) = false := by
          simp only [beq_eq_false_iff_ne, ne_eq] at eu ⊢
          intro e
          apply eu
          simp only [e]
        simp only [hf] at hK
        simp only [f2, f3, f5, d, al, bl, p1, p2, r1, r2, qu, evf, ↓evp, evq, evr, fxa0, fxa1, fxa2, fxa3, fxu, fxn, fxl, ↓fxp, absL, fitL, flatL, ares, ares1, ofVal, unSc, aload, afill, splice, abound, asI, elems, IntKind.bits, sortT, eqNil, closedL, allByte, patch, pendOK, numA, Value.cells, Value.oneCell', ibin, List.replicate, false_implies, forall_eq, forall_eq_or_imp, true_implies, implies_true, forall_const, Option.elim, Nat.reduceAdd, Nat.reduceSub, Nat.reduceMul, Nat.reduceLT, Nat.reduceEqDiff, Nat.reduceLeDiff, Nat.reduceBEq, Int.reduceLE, Int.reduceLT, Int.reduceToNat, Int.reduceBNe, Int.reduceBEq, Int.reduceNeg, Int.reduceEq, Int.reduceNe, Nat.reduceBNe, Int.reduceAdd, Int.reduceSub, Int.reduceMul, Int.reducePow, Nat.reducePow, Int.reduceGT, Int.reduceGE, and_self, and_true, true_and, and_false, false_and, or_true, true_or, or_false, false_or, not_true_eq_false, not_false_eq_true, if_true, if_false, ite_true, ite_false, beq_self_eq_true, BEq.rfl, reduceCtorEq, eq_self, ne_eq, decide_true, decide_false, Function.comp_def, beq_iff_eq]
        exact hK _ (.push _ _)
      · have qu : (a.units[i] != b.units[i]'(by omega)) = false := by simp only [bne, eu]; rfl
        simp only [f2, f3, f5, d, al, bl, p1, p2, r1, r2, qu, a1, evf, ↓evp, evq, evr, fxa0, fxa1, fxa2, fxa3, fxu, fxn, fxl, ↓fxp, absL, fitL, flatL, ares, ares1, ofVal, unSc, aload, afill, splice, abound, asI, elems, IntKind.bits, sortT, eqNil, closedL, allByte, patch, pendOK, numA, Value.cells, Value.oneCell', ibin, List.replicate, false_implies, forall_eq, forall_eq_or_imp, true_implies, implies_true, forall_const, Option.elim, Nat.reduceAdd, Nat.reduceSub, Nat.reduceMul, Nat.reduceLT, Nat.reduceEqDiff, Nat.reduceLeDiff, Nat.reduceBEq, Int.reduceLE, Int.reduceLT, Int.reduceToNat, Int.reduceBNe, Int.reduceBEq, Int.reduceNeg, Int.reduceEq, Int.reduceNe, Nat.reduceBNe, Int.reduceAdd, Int.reduceSub, Int.reduceMul, Int.reducePow, Nat.reducePow, Int.reduceGT, Int.reduceGE, and_self, and_true, true_and, and_false, false_and, or_true, true_or, or_false, false_or, not_true_eq_false, not_false_eq_true, if_true, if_false, ite_true, ite_false, beq_self_eq_true, BEq.rfl, reduceCtorEq, eq_self, ne_eq, decide_true, decide_false, Function.comp_def, beq_iff_eq]
        refine hI' _ _ _ ⟨rfl, i + 1, by omega, hil, ?_, by simp only [f2, evf, ne_eq, Nat.reduceEqDiff, Nat.reduceLT, not_false_eq_true], by simp only [f3, evf, ne_eq, Nat.reduceEqDiff, Nat.reduceLT, not_false_eq_true], by simp only [evf, ne_eq, Nat.reduceEqDiff, Nat.reduceLT, not_false_eq_true]⟩
        rw [List.take_succ_eq_append_getElem hil, List.take_succ_eq_append_getElem (by omega), hti]
        simp at eu
        rw [eu]
    · have d : decide ((i : Int) < a.units.length) = false := decide_eq_false (by omega)
      have hf : (a.units == b.units) = true := by
        rw [List.take_of_length_le (by omega), List.take_of_length_le (by omega)] at hti
        simp [hti]
      simp only [hf] at hK
      simp only [f2, f3, f5, d, al, bl, evf, ↓evp, evq, evr, fxa0, fxa1, fxa2, fxa3, fxu, fxn, fxl, ↓fxp, absL, fitL, flatL, ares, ares1, ofVal, unSc, aload, afill, splice, abound, asI, elems, IntKind.bits, sortT, eqNil, closedL, allByte, patch, pendOK, numA, Value.cells, Value.oneCell', ibin, List.replicate, false_implies, forall_eq, forall_eq_or_imp, true_implies, implies_true, forall_const, Option.elim, Nat.reduceAdd, Nat.reduceSub, Nat.reduceMul, Nat.reduceLT, Nat.reduceEqDiff, Nat.reduceLeDiff, Nat.reduceBEq, Int.reduceLE, Int.reduceLT, Int.reduceToNat, Int.reduceBNe, Int.reduceBEq, Int.reduceNeg, Int.reduceEq, Int.reduceNe, Nat.reduceBNe, Int.reduceAdd, Int.reduceSub, Int.reduceMul, Int.reducePow, Nat.reducePow, Int.reduceGT, Int.reduceGE, and_self, and_true, true_and, and_false, false_and, or_true, true_or, or_false, false_or, not_true_eq_false, not_false_eq_true, if_true, if_false, ite_true, ite_false, beq_self_eq_true, BEq.rfl, reduceCtorEq, eq_self, ne_eq, decide_true, decide_false, Function.comp_def, beq_iff_eq]
      exact hK _ (.push _ _)
  · have ql : ((a.units.length : Int) != b.units.length) = true := by simp; omega
    have hf : (a.units == b.units) = false := by
      simp only [beq_eq_false_iff_ne, ne_eq]
      intro e; rw [e] at hl; exact hl rfl
    simp only [hf] at hK
    simp only [Cmd.v, ha.one, ha.cv, hb.one, hb.cv, q0, q1, q2, q3, e4, q5, q6, q7, e8, ql, al, bl, cmp_CellN, cmp_ShapeN, Bool.not_true, List.append_eq, evf, ↓evp, evq, evr, fxa0, fxa1, fxa2, fxa3, fxu, fxn, fxl, ↓fxp, absL, fitL, flatL, ares, ares1, ofVal, unSc, aload, afill, splice, abound, asI, elems, IntKind.bits, sortT, eqNil, closedL, allByte, patch, pendOK, numA, Value.cells, Value.oneCell', ibin, List.replicate, false_implies, forall_eq, forall_eq_or_imp, true_implies, implies_true, forall_const, Option.elim, Nat.reduceAdd, Nat.reduceSub, Nat.reduceMul, Nat.reduceLT, Nat.reduceEqDiff, Nat.reduceLeDiff, Nat.reduceBEq, Int.reduceLE, Int.reduceLT, Int.reduceToNat, Int.reduceBNe, Int.reduceBEq, Int.reduceNeg, Int.reduceEq, Int.reduceNe, Nat.reduceBNe, Int.reduceAdd, Int.reduceSub, Int.reduceMul, Int.reducePow, Nat.reducePow, Int.reduceGT, Int.reduceGE, and_self, and_true, true_and, and_false, false_and, or_true, true_or, or_false, false_or, not_true_eq_false, not_false_eq_true, if_true, if_false, ite_true, ite_false, beq_self_eq_true, BEq.rfl, reduceCtorEq, eq_self, ne_eq, decide_true, decide_false, Function.comp_def, beq_iff_eq]
    exact hK _ (.push _ _)
end
end Go.Proofs.Ytfndpnmdjblokaa
