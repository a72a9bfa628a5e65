/- The reader: the program's, behind the peek. -/
import Derived.Test.YtfndpnmdjblokaaW8
set_option linter.unusedVariables false
set_option linter.unusedSimpArgs false
set_option maxRecDepth 10000
namespace Go.Proofs.Ytfndpnmdjblokaa
open Go Go.M Go.RowKit
attribute [local congr] acallF_cong aloop_cong bcase_cong resK_cong valK_cong wantK_cong callK_cong xputK_cong qputK_cong
attribute [local irreducible] seqK blockK loopK nextK bcase resK valK wantK funK putK dputK xputK qputK callK aops aop acode adraw aloop acallF acall invK
section
variable {n m id : Nat} {bv : V} {r : RS} {st : List Ob} {K : V → List Ob → Prop}
theorem p_Uvarint (ho : r.ok) (hr : st[id]? = some (.cells (r.c bv))) (hb : Cut Try.prog st 5 bv (bs r.b) r.b.length) (hm : 12 < m)
    (h : ∀ s, Trn st id (RS.c bv r.uv.2) s → K (.sc (.int .u64 r.uv.1)) s) : acallF Try.prog pl (n + 2) m 18 [.ref id 0] st K := by
  rw [acallF_eq Try.func18 rfl]
  simp only [↓evp, evq, evr, fxa0, fxa1, fxa2, fxa3, fxu, fxn, fxl, ↓fxp, absL, fitL, flatL, aput, ares, ares1, ofVal, unSc, aload, afill, splice, abound, asI, elems, IntKind.bits, sortT, eqNil, closedL, allByte, patch, pendOK, numA, Value.cells, Value.oneCell', ibin, List.replicate, false_implies, forall_eq, forall_eq_or_imp, true_implies, implies_true, forall_const, Option.elim, Nat.reduceAdd, Nat.reduceSub, Nat.reduceMul, Nat.reduceLT, Nat.reduceEqDiff, Nat.reduceLeDiff, Nat.reduceBEq, Int.reduceLE, Int.reduceLT, Int.reduceToNat, Int.reduceBNe, Int.reduceBEq, Int.reduceNeg, Int.reduceEq, Int.reduceNe, Nat.reduceBNe, Int.reduceAdd, Int.reduceSub, Int.reduceMul, Int.reducePow, Nat.reducePow, Int.reduceGT, Int.reduceGE, and_self, and_true, true_and, and_false, false_and, or_true, true_or, or_false, false_or, not_true_eq_false, not_false_eq_true, if_true, if_false, ite_true, ite_false, beq_self_eq_true, BEq.rfl, reduceCtorEq, eq_self, ne_eq, decide_true, decide_false, Function.comp_def, beq_iff_eq]
  refine p_fine hr ?_
  by_cases he : r.e = 0
  · have e0 : (r.e == 0) = true := by simpa using he
    simp only [e0, ↓evp, evq, evr, fxa0, fxa1, fxa2, fxa3, fxu, fxn, fxl, ↓fxp, absL, fitL, flatL, aput, ares, ares1, ofVal, unSc, aload, afill, splice, abound, asI, elems, IntKind.bits, sortT, eqNil, closedL, allByte, patch, pendOK, numA, Value.cells, Value.oneCell', ibin, List.replicate, false_implies, forall_eq, forall_eq_or_imp, true_implies, implies_true, forall_const, Option.elim, Nat.reduceAdd, Nat.reduceSub, Nat.reduceMul, Nat.reduceLT, Nat.reduceEqDiff, Nat.reduceLeDiff, Nat.reduceBEq, Int.reduceLE, Int.reduceLT, Int.reduceToNat, Int.reduceBNe, Int.reduceBEq, Int.reduceNeg, Int.reduceEq, Int.reduceNe, Nat.reduceBNe, Int.reduceAdd, Int.reduceSub, Int.reduceMul, Int.reducePow, Nat.reducePow, Int.reduceGT, Int.reduceGE, and_self, and_true, true_and, and_false, false_and, or_true, true_or, or_false, false_or, not_true_eq_false, not_false_eq_true, if_true, if_false, ite_true, ite_false, beq_self_eq_true, BEq.rfl, reduceCtorEq, eq_self, ne_eq, decide_true, decide_false, Function.comp_def, beq_iff_eq]
    refine p_peek ho hr hb hm ?_
    have hat := pk_at ho
    have hlen := ho.len
    by_cases hk : (pk (r.b.drop r.at_) 0 0).2 = 0
    · have q : (((pk (r.b.drop r.at_) 0 0).2 : Int) == 0) = true := by simp; omega
      have hu : r.uv = (0, { r with e := 5 }) := by simp only [RS.uv, if_pos he, if_pos hk]
      have hn : (pk (r.b.drop r.at_) 0 0).1 = 0 := pk_zero _ _ _ hk
      simp only [q, ↓evp, evq, evr, fxa0, fxa1, fxa2, fxa3, fxu, fxn, fxl, ↓fxp, absL, fitL, flatL, aput, ares, ares1, ofVal, unSc, aload, afill, splice, abound, asI, elems, IntKind.bits, sortT, eqNil, closedL, allByte, patch, pendOK, numA, Value.cells, Value.oneCell', ibin, List.replicate, false_implies, forall_eq, forall_eq_or_imp, true_implies, implies_true, forall_const, Option.elim, Nat.reduceAdd, Nat.reduceSub, Nat.reduceMul, Nat.reduceLT, Nat.reduceEqDiff, Nat.reduceLeDiff, Nat.reduceBEq, Int.reduceLE, Int.reduceLT, Int.reduceToNat, Int.reduceBNe, Int.reduceBEq, Int.reduceNeg, Int.reduceEq, Int.reduceNe, Nat.reduceBNe, Int.reduceAdd, Int.reduceSub, Int.reduceMul, Int.reducePow, Nat.reducePow, Int.reduceGT, Int.reduceGE, and_self, and_true, true_and, and_false, false_and, or_true, true_or, or_false, false_or, not_true_eq_false, not_false_eq_true, if_true, if_false, ite_true, ite_false, beq_self_eq_true, BEq.rfl, reduceCtorEq, eq_self, ne_eq, decide_true, decide_false, Function.comp_def, beq_iff_eq]
      refine p_fail hr fun s hs => ?_
      rw [hu] at h
      simp only [if_pos he] at hs
      have h1 := hs.1
      have h2 := fun x => get_set hs.1 x
      have ha : IntKind.i64.wrap ((r.at_ : Int) + (((pk (r.b.drop r.at_) 0 0).2 : Nat) : Int)) = r.at_ := by rw [hk, IntWalk.i64_in _ (by omega)]; omega
      simp only [RS.c] at h1
      simp only [h1, h2, ha, hn, ↓evp, evq, evr, fxa0, fxa1, fxa2, fxa3, fxu, fxn, fxl, ↓fxp, absL, fitL, flatL, aput, ares, ares1, ofVal, unSc, aload, afill, splice, abound, asI, elems, IntKind.bits, sortT, eqNil, closedL, allByte, patch, pendOK, numA, Value.cells, Value.oneCell', ibin, List.replicate, false_implies, forall_eq, forall_eq_or_imp, true_implies, implies_true, forall_const, Option.elim, Nat.reduceAdd, Nat.reduceSub, Nat.reduceMul, Nat.reduceLT, Nat.reduceEqDiff, Nat.reduceLeDiff, Nat.reduceBEq, Int.reduceLE, Int.reduceLT, Int.reduceToNat, Int.reduceBNe, Int.reduceBEq, Int.reduceNeg, Int.reduceEq, Int.reduceNe, Nat.reduceBNe, Int.reduceAdd, Int.reduceSub, Int.reduceMul, Int.reducePow, Nat.reducePow, Int.reduceGT, Int.reduceGE, and_self, and_true, true_and, and_false, false_and, or_true, true_or, or_false, false_or, not_true_eq_false, not_false_eq_true, if_true, if_false, ite_true, ite_false, beq_self_eq_true, BEq.rfl, reduceCtorEq, eq_self, ne_eq, decide_true, decide_false, Function.comp_def, beq_iff_eq]
      exact h _ (hs.trans (.set hs.1))
    · have q : (((pk (r.b.drop r.at_) 0 0).2 : Int) == 0) = false := by simp; omega
      have hu : r.uv = ((pk (r.b.drop r.at_) 0 0).1, { r with at_ := r.at_ + (pk (r.b.drop r.at_) 0 0).2 }) := by simp only [RS.uv, if_pos he, if_neg hk]
      rw [hu] at h
      have h1 := hr
      simp only [RS.c] at h1
      have ha : IntKind.i64.wrap ((r.at_ : Int) + (((pk (r.b.drop r.at_) 0 0).2 : Nat) : Int)) = ((r.at_ + (pk (r.b.drop r.at_) 0 0).2 : Nat) : Int) := by rw [IntWalk.i64_in _ (by omega)]; rfl
      simp only [q, h1, ha, ↓evp, evq, evr, fxa0, fxa1, fxa2, fxa3, fxu, fxn, fxl, ↓fxp, absL, fitL, flatL, aput, ares, ares1, ofVal, unSc, aload, afill, splice, abound, asI, elems, IntKind.bits, sortT, eqNil, closedL, allByte, patch, pendOK, numA, Value.cells, Value.oneCell', ibin, List.replicate, false_implies, forall_eq, forall_eq_or_imp, true_implies, implies_true, forall_const, Option.elim, Nat.reduceAdd, Nat.reduceSub, Nat.reduceMul, Nat.reduceLT, Nat.reduceEqDiff, Nat.reduceLeDiff, Nat.reduceBEq, Int.reduceLE, Int.reduceLT, Int.reduceToNat, Int.reduceBNe, Int.reduceBEq, Int.reduceNeg, Int.reduceEq, Int.reduceNe, Nat.reduceBNe, Int.reduceAdd, Int.reduceSub, Int.reduceMul, Int.reducePow, Nat.reducePow, Int.reduceGT, Int.reduceGE, and_self, and_true, true_and, and_false, false_and, or_true, true_or, or_false, false_or, not_true_eq_false, not_false_eq_true, if_true, if_false, ite_true, ite_false, beq_self_eq_true, BEq.rfl, reduceCtorEq, eq_self, ne_eq, decide_true, decide_false, Function.comp_def, beq_iff_eq]
      exact h _ (.set hr)
  · have e0 : (r.e == 0) = false := by simpa using he
    simp only [e0, ↓evp, evq, evr, fxa0, fxa1, fxa2, fxa3, fxu, fxn, fxl, ↓fxp, absL, fitL, flatL, aput, ares, ares1, ofVal, unSc, aload, afill, splice, abound, asI, elems, IntKind.bits, sortT, eqNil, closedL, allByte, patch, pendOK, numA, Value.cells, Value.oneCell', ibin, List.replicate, false_implies, forall_eq, forall_eq_or_imp, true_implies, implies_true, forall_const, Option.elim, Nat.reduceAdd, Nat.reduceSub, Nat.reduceMul, Nat.reduceLT, Nat.reduceEqDiff, Nat.reduceLeDiff, Nat.reduceBEq, Int.reduceLE, Int.reduceLT, Int.reduceToNat, Int.reduceBNe, Int.reduceBEq, Int.reduceNeg, Int.reduceEq, Int.reduceNe, Nat.reduceBNe, Int.reduceAdd, Int.reduceSub, Int.reduceMul, Int.reducePow, Nat.reducePow, Int.reduceGT, Int.reduceGE, and_self, and_true, true_and, and_false, false_and, or_true, true_or, or_false, false_or, not_true_eq_false, not_false_eq_true, if_true, if_false, ite_true, ite_false, beq_self_eq_true, BEq.rfl, reduceCtorEq, eq_self, ne_eq, decide_true, decide_false, Function.comp_def, beq_iff_eq]
    have hu : r.uv = (0, r) := by simp only [RS.uv, if_neg he]
    rw [hu] at h
    exact h _ (.same hr)
theorem p_Varint (ho : r.ok) (hr : st[id]? = some (.cells (r.c bv))) (hb : Cut Try.prog st 5 bv (bs r.b) r.b.length) (hm : 12 < m)
    (h : ∀ s, Trn st id (RS.c bv r.uv.2) s → K (.sc (.int .i64 (zag r.uv.1))) s) : acallF Try.prog pl (n + 3) m 22 [.ref id 0] st K := by
  rw [acallF_eq Try.func22 rfl]
  simp only [↓evp, evq, evr, fxa0, fxa1, fxa2, fxa3, fxu, fxn, fxl, ↓fxp, absL, fitL, flatL, aput, ares, ares1, ofVal, unSc, aload, afill, splice, abound, asI, elems, IntKind.bits, sortT, eqNil, closedL, allByte, patch, pendOK, numA, Value.cells, Value.oneCell', ibin, List.replicate, false_implies, forall_eq, forall_eq_or_imp, true_implies, implies_true, forall_const, Option.elim, Nat.reduceAdd, Nat.reduceSub, Nat.reduceMul, Nat.reduceLT, Nat.reduceEqDiff, Nat.reduceLeDiff, Nat.reduceBEq, Int.reduceLE, Int.reduceLT, Int.reduceToNat, Int.reduceBNe, Int.reduceBEq, Int.reduceNeg, Int.reduceEq, Int.reduceNe, Nat.reduceBNe, Int.reduceAdd, Int.reduceSub, Int.reduceMul, Int.reducePow, Nat.reducePow, Int.reduceGT, Int.reduceGE, and_self, and_true, true_and, and_false, false_and, or_true, true_or, or_false, false_or, not_true_eq_false, not_false_eq_true, if_true, if_false, ite_true, ite_false, beq_self_eq_true, BEq.rfl, reduceCtorEq, eq_self, ne_eq, decide_true, decide_false, Function.comp_def, beq_iff_eq]
  refine p_Uvarint ho hr hb hm fun s hs => ?_
  have hl := RS.uv_lt ho
  have := h s hs
  generalize r.uv.1 = x at *
  have e1 : IntKind.i64.wrap ((x : Int).fdiv (2 ^ min 1 64)) = ((x / 2 : Nat) : Int) := by rw [shr_nat, show 2 ^ min 1 64 = 2 from rfl, IntWalk.i64_in _ (by omega)]
  have e2 : bits .and .u64 (x : Int) 1 = ((x % 2 : Nat) : Int) := by
    have := u64_and_nat x 1 hl (by omega)
    rw [show ((1 : Nat) : Int) = 1 from rfl] at this
    rw [this, show 1 = 2 ^ 1 - 1 from rfl, Nat.and_two_pow_sub_one_eq_mod]
  have e3 : IntKind.i64.wrap ((x % 2 : Nat) : Int) = ((x % 2 : Nat) : Int) := IntWalk.i64_in _ (by omega)
  have e4 : IntKind.i64.wrap (0 - ((x % 2 : Nat) : Int)) = -((x % 2 : Nat) : Int) := by rw [IntWalk.i64_in _ (by omega)]; omega
  simp only [e1, e2, e3, e4, zag_xor hl, ↓evp, evq, evr, fxa0, fxa1, fxa2, fxa3, fxu, fxn, fxl, ↓fxp, absL, fitL, flatL, aput, ares, ares1, ofVal, unSc, aload, afill, splice, abound, asI, elems, IntKind.bits, sortT, eqNil, closedL, allByte, patch, pendOK, numA, Value.cells, Value.oneCell', ibin, List.replicate, false_implies, forall_eq, forall_eq_or_imp, true_implies, implies_true, forall_const, Option.elim, Nat.reduceAdd, Nat.reduceSub, Nat.reduceMul, Nat.reduceLT, Nat.reduceEqDiff, Nat.reduceLeDiff, Nat.reduceBEq, Int.reduceLE, Int.reduceLT, Int.reduceToNat, Int.reduceBNe, Int.reduceBEq, Int.reduceNeg, Int.reduceEq, Int.reduceNe, Nat.reduceBNe, Int.reduceAdd, Int.reduceSub, Int.reduceMul, Int.reducePow, Nat.reducePow, Int.reduceGT, Int.reduceGE, and_self, and_true, true_and, and_false, false_and, or_true, true_or, or_false, false_or, not_true_eq_false, not_false_eq_true, if_true, if_false, ite_true, ite_false, beq_self_eq_true, BEq.rfl, reduceCtorEq, eq_self, ne_eq, decide_true, decide_false, Function.comp_def, beq_iff_eq]
  exact this
end
end Go.Proofs.Ytfndpnmdjblokaa
