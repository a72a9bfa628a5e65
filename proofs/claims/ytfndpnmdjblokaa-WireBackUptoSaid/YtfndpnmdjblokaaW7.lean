/- WireWrites, the law. -/
import Derived.Test.YtfndpnmdjblokaaW5
set_option linter.unusedVariables false
set_option linter.unusedSimpArgs false
set_option maxRecDepth 10000
namespace Go.Proofs.Ytfndpnmdjblokaa
open Go Go.M Go.RowKit
attribute [local congr] acallF_cong aloop_cong bcase_cong resK_cong valK_cong wantK_cong callK_cong xputK_cong qputK_cong
attribute [local irreducible] seqK blockK loopK nextK bcase resK valK wantK funK putK dputK xputK qputK callK aops aop acode adraw aloop acallF acall invK
theorem l02_WireWrites {m : Nat} {hv tl : V} {head : List Int} {l : List Itm} (hh : ∀ s, Rd Try.prog s 5 hv (bs head) head.length) (ht : ∀ s, Rd Try.prog s 28 tl (l.flatMap Itm.v) l.length) (hok : ∀ a ∈ l, a.ok)
    (hb1 : head.length ≤ 1048576) (hb2 : bulkVl (l.flatMap Itm.v) ≤ 1048576) (hm : 1048576 < m) : acallF Try.prog pl 8 m 3 [hv, tl] [] fun v _ => v = .sc (.bool true) := by
  have hlen : ∀ i, (head ++ (l.take i).flatMap Itm.wr).length ≤ 11534336 := fun i => by
    have h1 := flatMap_take_len (g := Itm.wr) l i
    have h2 : (l.flatMap Itm.wr).length ≤ 10 * bulkVl (l.flatMap Itm.v) := by
      clear h1 hb2 ht
      induction l with
      | nil => simp
      | cons a l ih =>
        rw [List.flatMap_cons, List.flatMap_cons, List.length_append, bulkVl_append, Itm.bulk]
        have := Itm.wr_len (hok a (by simp))
        have := ih (fun b hb => hok b (by simp [hb]))
        omega
    rw [List.length_append]
    omega
  have hll : l.length ≤ 1048576 := by
    have : l.length ≤ bulkVl (l.flatMap Itm.v) := by
      clear hb2 ht hlen hok
      induction l with
      | nil => simp
      | cons a l ih => rw [List.flatMap_cons, bulkVl_append, Itm.bulk, List.length_cons]; omega
    omega
  rw [acallF_eq Try.func3 rfl]
  obtain ⟨b0, s0, ha0, hB0, -⟩ := app_rd (l := []) (Buf.start (st := []) nil_rd rfl) (hh _) (by simp; omega)
  obtain ⟨w0, s1, ha1, hW0, hG0⟩ := app_rd (l := []) (Buf.start (st := s0) nil_rd rfl) (hh _) (by simp; omega)
  simp only [List.nil_append] at hB0 hW0
  simp only [ha0, ha1, ↓evp, evq, evr, fxa0, fxa1, fxa2, fxa3, fxu, fxn, fxl, ↓fxp, absL, fitL, flatL, aput, ares, ares1, ofVal, unSc, aload, afill, splice, abound, asI, elems, IntKind.bits, sortT, eqNil, closedL, allByte, patch, pendOK, numA, Value.cells, Value.oneCell', ibin, List.replicate, false_implies, forall_eq, forall_eq_or_imp, true_implies, implies_true, forall_const, Option.elim, Nat.reduceAdd, Nat.reduceSub, Nat.reduceMul, Nat.reduceLT, Nat.reduceEqDiff, Nat.reduceLeDiff, Nat.reduceBEq, Int.reduceLE, Int.reduceLT, Int.reduceToNat, Int.reduceBNe, Int.reduceBEq, Int.reduceNeg, Int.reduceEq, Int.reduceNe, Nat.reduceBNe, Int.reduceAdd, Int.reduceSub, Int.reduceMul, Int.reducePow, Nat.reducePow, Int.reduceGT, Int.reduceGE, and_self, and_true, true_and, and_false, false_and, or_true, true_or, or_false, false_or, not_true_eq_false, not_false_eq_true, if_true, if_false, ite_true, ite_false, beq_self_eq_true, BEq.rfl, reduceCtorEq, eq_self, ne_eq, decide_true, decide_false, Function.comp_def, beq_iff_eq]
  refine aloop_for (fun k t s => ∃ i b w, k + i = m ∧ i ≤ l.length ∧ Rd Try.prog s 5 b (bs (head ++ (l.take i).flatMap Itm.wr)) (head ++ (l.take i).flatMap Itm.wr).length ∧ Buf Try.prog 5 [] s w (bs (head ++ (l.take i).flatMap Itm.wr)) (head ++ (l.take i).flatMap Itm.wr).length ∧
    ∃ hh0 hh2 hh3 hh4 hh8 hh9 hh10 hh11 hh12 hh13 hh14 hh15 hh16 hh17 hh18 hh19 hh20 hh21 hh22 hh23 hh24 hh25 hh26 hh27 hh28 hh29 hh30 hh31 hh32 hh33 hh34 hh35 hh36 hh37 hh38 hh39, t = [hh0, tl, hh2, hh3, hh4, b, w, .sc (.int .i64 i), hh8, hh9, hh10, hh11, hh12, hh13, hh14, hh15, hh16, hh17, hh18, hh19, hh20, hh21, hh22, hh23, hh24, hh25, hh26, hh27, hh28, hh29, hh30, hh31, hh32, hh33, hh34, hh35, hh36, hh37, hh38, hh39]) ⟨0, b0, w0, by simp, by omega, by simpa using hB0.rd.gro hG0, by simpa using hW0.rebase (fun i o h => by simp at h), _, _, _, _, _, _, _, _, _, _, _, _, _, _, _, _, _, _, _, _, _, _, _, _, _, _, _, _, _, _, _, _, _, _, _, _, rfl⟩ ?_
  rintro I' hI' k t s ⟨i, b, w, hk, hi, hb, hw, hh0, hh2, hh3, hh4, hh8, hh9, hh10, hh11, hh12, hh13, hh14, hh15, hh16, hh17, hh18, hh19, hh20, hh21, hh22, hh23, hh24, hh25, hh26, hh27, hh28, hh29, hh30, hh31, hh32, hh33, hh34, hh35, hh36, hh37, hh38, hh39, rfl⟩
  refine ⟨k - 1, by omega, ?_⟩
  have hL := hlen i
  have hal := alen_rd (ht s) Try.underlying23
  by_cases hil : i < l.length
  · have d : decide ((i : Int) < l.length) = true := decide_eq_true (by omega)
    obtain ⟨p1, p2⟩ := ix_flat (f := Itm.v) (fun a => rfl) (ht s) Try.underlying23 sz28 ag28 (by omega) hil
    have ho := hok l[i] (List.getElem_mem hil)
    have hbl : l[i].b.length ≤ 1048576 := by
      have : 4 + l[i].b.length ≤ bulkVl (l.flatMap Itm.v) := by
        rw [← Itm.bulk]
        conv => rhs; rw [← List.take_append_drop i l, List.drop_eq_getElem_cons hil, List.flatMap_append, List.flatMap_cons, bulkVl_append, bulkVl_append]
        omega
      omega
    simp only [hal, d, p1, p2, ↓evp, evq, evr, fxa0, fxa1, fxa2, fxa3, fxu, fxn, fxl, ↓fxp, absL, fitL, flatL, aput, ares, ares1, ofVal, unSc, aload, afill, splice, abound, asI, elems, IntKind.bits, sortT, eqNil, closedL, allByte, patch, pendOK, numA, Value.cells, Value.oneCell', ibin, List.replicate, false_implies, forall_eq, forall_eq_or_imp, true_implies, implies_true, forall_const, Option.elim, Nat.reduceAdd, Nat.reduceSub, Nat.reduceMul, Nat.reduceLT, Nat.reduceEqDiff, Nat.reduceLeDiff, Nat.reduceBEq, Int.reduceLE, Int.reduceLT, Int.reduceToNat, Int.reduceBNe, Int.reduceBEq, Int.reduceNeg, Int.reduceEq, Int.reduceNe, Nat.reduceBNe, Int.reduceAdd, Int.reduceSub, Int.reduceMul, Int.reducePow, Nat.reducePow, Int.reduceGT, Int.reduceGE, and_self, and_true, true_and, and_false, false_and, or_true, true_or, or_false, false_or, not_true_eq_false, not_false_eq_true, if_true, if_false, ite_true, ite_false, beq_self_eq_true, BEq.rfl, reduceCtorEq, eq_self, ne_eq, decide_true, decide_false, Function.comp_def, beq_iff_eq]
    refine l02_written ho hb (by omega) (by omega) fun c more s' hg hc hmore => ?_
    have hL' := Itm.wr_len ho
    obtain ⟨w', s'', ha, hw', hg'⟩ := app_rd (hw.grw hg) hmore (by omega)
    simp only [ha, ↓evp, evq, evr, fxa0, fxa1, fxa2, fxa3, fxu, fxn, fxl, ↓fxp, absL, fitL, flatL, aput, ares, ares1, ofVal, unSc, aload, afill, splice, abound, asI, elems, IntKind.bits, sortT, eqNil, closedL, allByte, patch, pendOK, numA, Value.cells, Value.oneCell', ibin, List.replicate, false_implies, forall_eq, forall_eq_or_imp, true_implies, implies_true, forall_const, Option.elim, Nat.reduceAdd, Nat.reduceSub, Nat.reduceMul, Nat.reduceLT, Nat.reduceEqDiff, Nat.reduceLeDiff, Nat.reduceBEq, Int.reduceLE, Int.reduceLT, Int.reduceToNat, Int.reduceBNe, Int.reduceBEq, Int.reduceNeg, Int.reduceEq, Int.reduceNe, Nat.reduceBNe, Int.reduceAdd, Int.reduceSub, Int.reduceMul, Int.reducePow, Nat.reducePow, Int.reduceGT, Int.reduceGE, and_self, and_true, true_and, and_false, false_and, or_true, true_or, or_false, false_or, not_true_eq_false, not_false_eq_true, if_true, if_false, ite_true, ite_false, beq_self_eq_true, BEq.rfl, reduceCtorEq, eq_self, ne_eq, decide_true, decide_false, Function.comp_def, beq_iff_eq]
    refine l02_same (hc.gro hg') hw'.rd ?_
    have hwr : IntKind.i64.wrap ((i : Int) + 1) = ((i + 1 : Nat) : Int) := by rw [IntWalk.i64_in _ (by omega)]; rfl
    simp only [List.append_assoc, beq_self_eq_true, hwr, ↓evp, evq, evr, fxa0, fxa1, fxa2, fxa3, fxu, fxn, fxl, ↓fxp, absL, fitL, flatL, aput, ares, ares1, ofVal, unSc, aload, afill, splice, abound, asI, elems, IntKind.bits, sortT, eqNil, closedL, allByte, patch, pendOK, numA, Value.cells, Value.oneCell', ibin, List.replicate, false_implies, forall_eq, forall_eq_or_imp, true_implies, implies_true, forall_const, Option.elim, Nat.reduceAdd, Nat.reduceSub, Nat.reduceMul, Nat.reduceLT, Nat.reduceEqDiff, Nat.reduceLeDiff, Nat.reduceBEq, Int.reduceLE, Int.reduceLT, Int.reduceToNat, Int.reduceBNe, Int.reduceBEq, Int.reduceNeg, Int.reduceEq, Int.reduceNe, Nat.reduceBNe, Int.reduceAdd, Int.reduceSub, Int.reduceMul, Int.reducePow, Nat.reducePow, Int.reduceGT, Int.reduceGE, and_self, and_true, true_and, and_false, false_and, or_true, true_or, or_false, false_or, not_true_eq_false, not_false_eq_true, if_true, if_false, ite_true, ite_false, beq_self_eq_true, BEq.rfl, reduceCtorEq, eq_self, ne_eq, decide_true, decide_false, Function.comp_def, beq_iff_eq]
    have e : head ++ (l.take (i + 1)).flatMap Itm.wr = head ++ (l.take i).flatMap Itm.wr ++ l[i].wr := by rw [flatMap_take_succ _ _ hil, List.append_assoc]
    refine hI' _ _ _ ⟨i + 1, c, w', by omega, hil, ?_, ?_, _, _, _, _, _, _, _, _, _, _, _, _, _, _, _, _, _, _, _, _, _, _, _, _, _, _, _, _, _, _, _, _, _, _, _, _, rfl⟩
    · rw [e]; exact hc.gro hg'
    · rw [e]; exact hw'
  · have d : decide ((i : Int) < l.length) = false := decide_eq_false (by omega)
    simp only [hal, d, ↓evp, evq, evr, fxa0, fxa1, fxa2, fxa3, fxu, fxn, fxl, ↓fxp, absL, fitL, flatL, aput, ares, ares1, ofVal, unSc, aload, afill, splice, abound, asI, elems, IntKind.bits, sortT, eqNil, closedL, allByte, patch, pendOK, numA, Value.cells, Value.oneCell', ibin, List.replicate, false_implies, forall_eq, forall_eq_or_imp, true_implies, implies_true, forall_const, Option.elim, Nat.reduceAdd, Nat.reduceSub, Nat.reduceMul, Nat.reduceLT, Nat.reduceEqDiff, Nat.reduceLeDiff, Nat.reduceBEq, Int.reduceLE, Int.reduceLT, Int.reduceToNat, Int.reduceBNe, Int.reduceBEq, Int.reduceNeg, Int.reduceEq, Int.reduceNe, Nat.reduceBNe, Int.reduceAdd, Int.reduceSub, Int.reduceMul, Int.reducePow, Nat.reducePow, Int.reduceGT, Int.reduceGE, and_self, and_true, true_and, and_false, false_and, or_true, true_or, or_false, false_or, not_true_eq_false, not_false_eq_true, if_true, if_false, ite_true, ite_false, beq_self_eq_true, BEq.rfl, reduceCtorEq, eq_self, ne_eq, decide_true, decide_false, Function.comp_def, beq_iff_eq]
    refine f16 (by omega) fun s => ?_
    simp only [↓evp, evq, evr, fxa0, fxa1, fxa2, fxa3, fxu, fxn, fxl, ↓fxp, absL, fitL, flatL, aput, ares, ares1, ofVal, unSc, aload, afill, splice, abound, asI, elems, IntKind.bits, sortT, eqNil, closedL, allByte, patch, pendOK, numA, Value.cells, Value.oneCell', ibin, List.replicate, false_implies, forall_eq, forall_eq_or_imp, true_implies, implies_true, forall_const, Option.elim, Nat.reduceAdd, Nat.reduceSub, Nat.reduceMul, Nat.reduceLT, Nat.reduceEqDiff, Nat.reduceLeDiff, Nat.reduceBEq, Int.reduceLE, Int.reduceLT, Int.reduceToNat, Int.reduceBNe, Int.reduceBEq, Int.reduceNeg, Int.reduceEq, Int.reduceNe, Nat.reduceBNe, Int.reduceAdd, Int.reduceSub, Int.reduceMul, Int.reducePow, Nat.reducePow, Int.reduceGT, Int.reduceGE, and_self, and_true, true_and, and_false, false_and, or_true, true_or, or_false, false_or, not_true_eq_false, not_false_eq_true, if_true, if_false, ite_true, ite_false, beq_self_eq_true, BEq.rfl, reduceCtorEq, eq_self, ne_eq, decide_true, decide_false, Function.comp_def, beq_iff_eq]
end Go.Proofs.Ytfndpnmdjblokaa
