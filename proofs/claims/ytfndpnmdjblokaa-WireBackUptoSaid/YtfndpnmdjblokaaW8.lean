/- The reader: the program's. -/
import Derived.Test.YtfndpnmdjblokaaW4
import Derived.Test.YtfndpnmdjblokaaP02
set_option linter.unusedVariables false
set_option linter.unusedSimpArgs false
set_option maxRecDepth 10000
namespace Go.Proofs.Ytfndpnmdjblokaa
open Go Go.M Go.RowKit
attribute [local congr] acallF_cong aloop_cong bcase_cong resK_cong valK_cong wantK_cong callK_cong xputK_cong qputK_cong
attribute [local irreducible] seqK blockK loopK nextK bcase resK valK wantK funK putK dputK xputK qputK callK aops aop acode adraw aloop acallF acall invK
section
variable {n m id : Nat} {bv : V} {r : RS} {st : List Ob} {K : V → List Ob → Prop}
theorem ix_cut {s : List Ob} {v : V} {l : List Int} (hv : Cut Try.prog s 5 v (bs l) l.length) {i : Nat} (hi : i < l.length) : aix Try.prog s 22 v (.sc (.int .i64 i)) = some (ixp 1 v i 0, s) ∧ ald Try.prog s 5 (ixp 1 v i 0) = some (.sc (.int .u8 l[i]), s) := ix_bs hv.1 hi
theorem cut_end {s : List Ob} {v : V} {l : List Int} (hv : Cut Try.prog s 5 v (bs l) l.length) {lo : Nat} (h1 : lo ≤ l.length) :
    ∃ v', aslice Try.prog s 22 v (some (.sc (.int .i64 lo))) none none = some v' ∧ Cut Try.prog s 5 v' (bs (l.drop lo)) (l.drop lo).length := by
  obtain ⟨v', k1, k2⟩ := slice_end hv Try.underlying22 sz5 h1
  exact ⟨v', k1, by rw [List.length_drop, ← bs_drop]; simpa using k2⟩
theorem cut_mid {s : List Ob} {v : V} {l : List Int} (hv : Cut Try.prog s 5 v (bs l) l.length) {lo hi : Nat} (h1 : lo ≤ hi) (h2 : hi ≤ l.length) :
    ∃ v', aslice Try.prog s 22 v (some (.sc (.int .i64 lo))) (some (.sc (.int .i64 hi))) none = some v' ∧ Cut Try.prog s 5 v' (bs ((l.drop lo).take (hi - lo))) ((l.drop lo).take (hi - lo)).length := by
  obtain ⟨v', k1, k2⟩ := slice_mid hv Try.underlying22 sz5 h1 h2
  refine ⟨v', k1, ?_⟩
  rw [List.length_take, List.length_drop, Nat.min_eq_left (by omega), ← bs_take, ← bs_drop]
  simpa using k2

theorem p_fine (hr : st[id]? = some (.cells (r.c bv))) (h : K (.sc (.bool (r.e == 0))) st) : acallF Try.prog pl (n + 1) m 57 [.ref id 0] st K := by
  rw [acallF_eq Try.func57 rfl]
  simp only [hr, RS.c, ↓evp, evq, evr, fxa0, fxa1, fxa2, fxa3, fxu, fxn, fxl, ↓fxp, absL, fitL, flatL, aput, ares, ares1, ofVal, unSc, aload, afill, splice, abound, asI, elems, IntKind.bits, sortT, eqNil, closedL, allByte, patch, pendOK, numA, Value.cells, Value.oneCell', ibin, List.replicate, false_implies, forall_eq, forall_eq_or_imp, true_implies, implies_true, forall_const, Option.elim, Nat.reduceAdd, Nat.reduceSub, Nat.reduceMul, Nat.reduceLT, Nat.reduceEqDiff, Nat.reduceLeDiff, Nat.reduceBEq, Int.reduceLE, Int.reduceLT, Int.reduceToNat, Int.reduceBNe, Int.reduceBEq, Int.reduceNeg, Int.reduceEq, Int.reduceNe, Nat.reduceBNe, Int.reduceAdd, Int.reduceSub, Int.reduceMul, Int.reducePow, Nat.reducePow, Int.reduceGT, Int.reduceGE, and_self, and_true, true_and, and_false, false_and, or_true, true_or, or_false, false_or, not_true_eq_false, not_false_eq_true, if_true, if_false, ite_true, ite_false, beq_self_eq_true, BEq.rfl, reduceCtorEq, eq_self, ne_eq, decide_true, decide_false, Function.comp_def, beq_iff_eq]
  exact h
theorem p_fail {x : Int} (hr : st[id]? = some (.cells (r.c bv))) (h : ∀ s, Trn st id (RS.c bv { r with e := if r.e = 0 then x else r.e }) s → K (.tup []) s) : acallF Try.prog pl (n + 1) m 59 [.ref id 0, .sc (.int .i64 x)] st K := by
  rw [acallF_eq Try.func59 rfl]
  by_cases h0 : r.e = 0
  · simp only [hr, RS.c, h0, ↓evp, evq, evr, fxa0, fxa1, fxa2, fxa3, fxu, fxn, fxl, ↓fxp, absL, fitL, flatL, aput, ares, ares1, ofVal, unSc, aload, afill, splice, abound, asI, elems, IntKind.bits, sortT, eqNil, closedL, allByte, patch, pendOK, numA, Value.cells, Value.oneCell', ibin, List.replicate, false_implies, forall_eq, forall_eq_or_imp, true_implies, implies_true, forall_const, Option.elim, Nat.reduceAdd, Nat.reduceSub, Nat.reduceMul, Nat.reduceLT, Nat.reduceEqDiff, Nat.reduceLeDiff, Nat.reduceBEq, Int.reduceLE, Int.reduceLT, Int.reduceToNat, Int.reduceBNe, Int.reduceBEq, Int.reduceNeg, Int.reduceEq, Int.reduceNe, Nat.reduceBNe, Int.reduceAdd, Int.reduceSub, Int.reduceMul, Int.reducePow, Nat.reducePow, Int.reduceGT, Int.reduceGE, and_self, and_true, true_and, and_false, false_and, or_true, true_or, or_false, false_or, not_true_eq_false, not_false_eq_true, if_true, if_false, ite_true, ite_false, beq_self_eq_true, BEq.rfl, reduceCtorEq, eq_self, ne_eq, decide_true, decide_false, Function.comp_def, beq_iff_eq]
    refine h _ ?_
    simp only [h0, if_true, RS.c]
    exact .set hr
  · have e0 : (r.e == 0) = false := by simpa using h0
    simp only [hr, RS.c, e0, ↓evp, evq, evr, fxa0, fxa1, fxa2, fxa3, fxu, fxn, fxl, ↓fxp, absL, fitL, flatL, aput, ares, ares1, ofVal, unSc, aload, afill, splice, abound, asI, elems, IntKind.bits, sortT, eqNil, closedL, allByte, patch, pendOK, numA, Value.cells, Value.oneCell', ibin, List.replicate, false_implies, forall_eq, forall_eq_or_imp, true_implies, implies_true, forall_const, Option.elim, Nat.reduceAdd, Nat.reduceSub, Nat.reduceMul, Nat.reduceLT, Nat.reduceEqDiff, Nat.reduceLeDiff, Nat.reduceBEq, Int.reduceLE, Int.reduceLT, Int.reduceToNat, Int.reduceBNe, Int.reduceBEq, Int.reduceNeg, Int.reduceEq, Int.reduceNe, Nat.reduceBNe, Int.reduceAdd, Int.reduceSub, Int.reduceMul, Int.reducePow, Nat.reducePow, Int.reduceGT, Int.reduceGE, and_self, and_true, true_and, and_false, false_and, or_true, true_or, or_false, false_or, not_true_eq_false, not_false_eq_true, if_true, if_false, ite_true, ite_false, beq_self_eq_true, BEq.rfl, reduceCtorEq, eq_self, ne_eq, decide_true, decide_false, Function.comp_def, beq_iff_eq]
    refine h _ ?_
    simp only [h0, if_false]
    exact .same hr
theorem u8_and127 {c : Int} (h : 0 ≤ c ∧ c < 256) : bits .and .u8 c 127 = ((c.toNat % 128 : Nat) : Int) := by
  rw [u8_and c 127 h.1 h.2 (by omega) (by omega)]
  show ((c.toNat &&& 127 : Nat) : Int) = _
  rw [show 127 = 2 ^ 7 - 1 from rfl, Nat.and_two_pow_sub_one_eq_mod]
theorem p_peek (ho : r.ok) (hr : st[id]? = some (.cells (r.c bv))) (hb : Cut Try.prog st 5 bv (bs r.b) r.b.length) (hm : 12 < m)
    (h : K (.tup [.sc (.int .u64 (pk (r.b.drop r.at_) 0 0).1), .sc (.int .i64 (pk (r.b.drop r.at_) 0 0).2)]) st) : acallF Try.prog pl (n + 1) m 58 [.ref id 0] st K := by
  rw [acallF_eq Try.func58 rfl]
  obtain ⟨v', hs, hv⟩ := cut_end hb ho.at_
  have hl := alen_rd hv.1 Try.underlying22
  simp only [hr, RS.c, hs, hl, ↓evp, evq, evr, fxa0, fxa1, fxa2, fxa3, fxu, fxn, fxl, ↓fxp, absL, fitL, flatL, aput, ares, ares1, ofVal, unSc, aload, afill, splice, abound, asI, elems, IntKind.bits, sortT, eqNil, closedL, allByte, patch, pendOK, numA, Value.cells, Value.oneCell', ibin, List.replicate, false_implies, forall_eq, forall_eq_or_imp, true_implies, implies_true, forall_const, Option.elim, Nat.reduceAdd, Nat.reduceSub, Nat.reduceMul, Nat.reduceLT, Nat.reduceEqDiff, Nat.reduceLeDiff, Nat.reduceBEq, Int.reduceLE, Int.reduceLT, Int.reduceToNat, Int.reduceBNe, Int.reduceBEq, Int.reduceNeg, Int.reduceEq, Int.reduceNe, Nat.reduceBNe, Int.reduceAdd, Int.reduceSub, Int.reduceMul, Int.reducePow, Nat.reducePow, Int.reduceGT, Int.reduceGE, and_self, and_true, true_and, and_false, false_and, or_true, true_or, or_false, false_or, not_true_eq_false, not_false_eq_true, if_true, if_false, ite_true, ite_false, beq_self_eq_true, BEq.rfl, reduceCtorEq, eq_self, ne_eq, decide_true, decide_false, Function.comp_def, beq_iff_eq]
  have hbd : ∀ c ∈ r.b.drop r.at_, 0 ≤ c ∧ c < 256 := fun c hc => ho.b c (List.drop_subset _ _ hc)
  have hlen : (r.b.drop r.at_).length < 4611686018427387904 := by rw [List.length_drop]; have := ho.len; omega
  generalize r.b.drop r.at_ = l at *
  refine aloop_for (fun k t s => s = st ∧ ∃ i x : Nat, k + i = m ∧ i ≤ l.length ∧ i ≤ 9 ∧ x < 128 ^ i ∧ pk l 0 0 = pk (l.drop i) i x ∧
    ∃ hh0 hh1 hh2 hh3 hh5 hh6 hh7 hh8 hh9 hh10 hh11 hh12 hh13 hh14 hh18 hh19 hh20 hh21 hh22 hh23 hh24 hh25 hh26 hh27 hh28 hh29 hh30 hh31 hh32 hh33 hh34 hh35 hh36 hh37 hh38 hh39 hh40 hh41 hh42 hh43 hh44 hh45 hh46 hh47 hh48 hh49, t = [hh0, hh1, hh2, hh3, .sc (.int .u64 x), hh5, hh6, hh7, hh8, hh9, hh10, hh11, hh12, hh13, hh14, v', .sc (.int .i64 l.length), .sc (.int .i64 i), hh18, hh19, hh20, hh21, hh22, hh23, hh24, hh25, hh26, hh27, hh28, hh29, hh30, hh31, hh32, hh33, hh34, hh35, hh36, hh37, hh38, hh39, hh40, hh41, hh42, hh43, hh44, hh45, hh46, hh47, hh48, hh49]) ⟨rfl, 0, 0, by omega, by omega, by omega, by simp, rfl, _, _, _, _, _, _, _, _, _, _, _, _, _, _, _, _, _, _, _, _, _, _, _, _, _, _, _, _, _, _, _, _, _, _, _, _, _, _, _, _, _, _, _, _, _, _, rfl⟩ ?_
  rintro I' hI' k t s ⟨rfl, i, x, hk, hi, hi9', hx, hp, hh0, hh1, hh2, hh3, hh5, hh6, hh7, hh8, hh9, hh10, hh11, hh12, hh13, hh14, hh18, hh19, hh20, hh21, hh22, hh23, hh24, hh25, hh26, hh27, hh28, hh29, hh30, hh31, hh32, hh33, hh34, hh35, hh36, hh37, hh38, hh39, hh40, hh41, hh42, hh43, hh44, hh45, hh46, hh47, hh48, hh49, rfl⟩
  refine ⟨k - 1, by omega, ?_⟩
  by_cases h1 : i < l.length
  · have d1 : decide ((i : Int) < l.length) = true := decide_eq_true (by omega)
    obtain ⟨p1, p2⟩ := ix_cut hv h1
    have hc := hbd l[i] (List.getElem_mem h1)
    rw [List.drop_eq_getElem_cons h1] at hp
    generalize l[i] = c at *
    simp only [pk] at hp
    have a1 := u8_and127 hc
    have a2 : IntKind.u64.wrap ((c.toNat % 128 : Nat) : Int) = ((c.toNat % 128 : Nat) : Int) := IntWalk.u64_in _ (by omega)
    have a3 : IntKind.i64.wrap (7 * (i : Int)) = ((7 * i : Nat) : Int) := by rw [IntWalk.i64_in _ (by omega)]; omega
    have h128 : 128 ^ i = 2 ^ (7 * i) := by rw [Nat.pow_mul]
    have a5 : IntKind.i64.wrap ((i : Int) + 1) = ((i + 1 : Nat) : Int) := by rw [IntWalk.i64_in _ (by omega)]; rfl
    by_cases h9 : (i = 9 ∧ c > 1) ∨ (c = 0 ∧ i > 0)
    · rw [if_pos h9] at hp
      rw [hp] at h
      by_cases i9 : i = 9
      · have q1 : ((i : Int) == 9) = true := by simp; omega
        by_cases c1 : c > 1
        · have e1 : decide (c > 1) = true := decide_eq_true c1
          simp only [d1, p1, p2, q1, e1, ↓evp, evq, evr, fxa0, fxa1, fxa2, fxa3, fxu, fxn, fxl, ↓fxp, absL, fitL, flatL, aput, ares, ares1, ofVal, unSc, aload, afill, splice, abound, asI, elems, IntKind.bits, sortT, eqNil, closedL, allByte, patch, pendOK, numA, Value.cells, Value.oneCell', ibin, List.replicate, false_implies, forall_eq, forall_eq_or_imp, true_implies, implies_true, forall_const, Option.elim, Nat.reduceAdd, Nat.reduceSub, Nat.reduceMul, Nat.reduceLT, Nat.reduceEqDiff, Nat.reduceLeDiff, Nat.reduceBEq, Int.reduceLE, Int.reduceLT, Int.reduceToNat, Int.reduceBNe, Int.reduceBEq, Int.reduceNeg, Int.reduceEq, Int.reduceNe, Nat.reduceBNe, Int.reduceAdd, Int.reduceSub, Int.reduceMul, Int.reducePow, Nat.reducePow, Int.reduceGT, Int.reduceGE, and_self, and_true, true_and, and_false, false_and, or_true, true_or, or_false, false_or, not_true_eq_false, not_false_eq_true, if_true, if_false, ite_true, ite_false, beq_self_eq_true, BEq.rfl, reduceCtorEq, eq_self, ne_eq, decide_true, decide_false, Function.comp_def, beq_iff_eq]
          exact h
        · have e1 : decide (c > 1) = false := decide_eq_false c1
          have q2 : (c == 0) = true := by simp; omega
          have e2 : decide ((i : Int) > 0) = true := decide_eq_true (by omega)
          simp only [d1, p1, p2, q1, q2, e1, e2, ↓evp, evq, evr, fxa0, fxa1, fxa2, fxa3, fxu, fxn, fxl, ↓fxp, absL, fitL, flatL, aput, ares, ares1, ofVal, unSc, aload, afill, splice, abound, asI, elems, IntKind.bits, sortT, eqNil, closedL, allByte, patch, pendOK, numA, Value.cells, Value.oneCell', ibin, List.replicate, false_implies, forall_eq, forall_eq_or_imp, true_implies, implies_true, forall_const, Option.elim, Nat.reduceAdd, Nat.reduceSub, Nat.reduceMul, Nat.reduceLT, Nat.reduceEqDiff, Nat.reduceLeDiff, Nat.reduceBEq, Int.reduceLE, Int.reduceLT, Int.reduceToNat, Int.reduceBNe, Int.reduceBEq, Int.reduceNeg, Int.reduceEq, Int.reduceNe, Nat.reduceBNe, Int.reduceAdd, Int.reduceSub, Int.reduceMul, Int.reducePow, Nat.reducePow, Int.reduceGT, Int.reduceGE, and_self, and_true, true_and, and_false, false_and, or_true, true_or, or_false, false_or, not_true_eq_false, not_false_eq_true, if_true, if_false, ite_true, ite_false, beq_self_eq_true, BEq.rfl, reduceCtorEq, eq_self, ne_eq, decide_true, decide_false, Function.comp_def, beq_iff_eq]
          exact h
      · have q1 : ((i : Int) == 9) = false := by simp; omega
        have q2 : (c == 0) = true := by simp; omega
        have e1 : decide ((i : Int) > 0) = true := decide_eq_true (by omega)
        simp only [d1, p1, p2, q1, q2, e1, ↓evp, evq, evr, fxa0, fxa1, fxa2, fxa3, fxu, fxn, fxl, ↓fxp, absL, fitL, flatL, aput, ares, ares1, ofVal, unSc, aload, afill, splice, abound, asI, elems, IntKind.bits, sortT, eqNil, closedL, allByte, patch, pendOK, numA, Value.cells, Value.oneCell', ibin, List.replicate, false_implies, forall_eq, forall_eq_or_imp, true_implies, implies_true, forall_const, Option.elim, Nat.reduceAdd, Nat.reduceSub, Nat.reduceMul, Nat.reduceLT, Nat.reduceEqDiff, Nat.reduceLeDiff, Nat.reduceBEq, Int.reduceLE, Int.reduceLT, Int.reduceToNat, Int.reduceBNe, Int.reduceBEq, Int.reduceNeg, Int.reduceEq, Int.reduceNe, Nat.reduceBNe, Int.reduceAdd, Int.reduceSub, Int.reduceMul, Int.reducePow, Nat.reducePow, Int.reduceGT, Int.reduceGE, and_self, and_true, true_and, and_false, false_and, or_true, true_or, or_false, false_or, not_true_eq_false, not_false_eq_true, if_true, if_false, ite_true, ite_false, beq_self_eq_true, BEq.rfl, reduceCtorEq, eq_self, ne_eq, decide_true, decide_false, Function.comp_def, beq_iff_eq]
        exact h
    · rw [if_neg h9] at hp
      have a4 : IntKind.u64.wrap (((c.toNat % 128 : Nat) : Int) * 2 ^ min (7 * i) 64) = ((c.toNat % 128 * 128 ^ i : Nat) : Int) ∧ c.toNat % 128 * 128 ^ i < 18446744073709551616 := by
        have hlt : c.toNat % 128 * 128 ^ i < 18446744073709551616 := by
          rcases Nat.lt_or_ge i 9 with h9 | h9
          · have h4 : 128 ^ (i + 1) ≤ 128 ^ 9 := Nat.pow_le_pow_right (by omega) (by omega)
            have h5 : c.toNat % 128 * 128 ^ i ≤ 127 * 128 ^ i := Nat.mul_le_mul_right _ (by omega)
            rw [Nat.pow_succ] at h4
            omega
          · obtain rfl : i = 9 := by omega
            have : c.toNat % 128 ≤ 1 := by omega
            have : c.toNat % 128 * 128 ^ 9 ≤ 1 * 128 ^ 9 := Nat.mul_le_mul_right _ this
            omega
        refine ⟨?_, hlt⟩
        rw [Nat.min_eq_left (by omega), show (2 : Int) ^ (7 * i) = ((128 ^ i : Nat) : Int) by rw [h128, Int.natCast_pow]; rfl, ← Int.natCast_mul, IntWalk.u64_in _ (by omega)]
      have a6 : bits .or .u64 (x : Int) ((c.toNat % 128 * 128 ^ i : Nat) : Int) = ((x + c.toNat % 128 * 128 ^ i : Nat) : Int) := by
        rw [u64_or_nat _ _ (Nat.lt_of_lt_of_le hx (Nat.le_trans (Nat.pow_le_pow_right (by omega) (show i ≤ 9 by omega)) (by omega))) a4.2, h128, shl_or (by rw [← h128]; exact hx)]
      have a4' := a4.1
      have e9 : ∃ b9 b0, ((i : Int) == 9) = b9 ∧ (c == 0) = b0 ∧ (b9 = true → decide (c > 1) = false) ∧ (b0 = true → decide ((i : Int) > 0) = false) := by
        refine ⟨_, _, rfl, rfl, fun q => ?_, fun q => ?_⟩
        · simp at q ⊢; omega
        · simp at q ⊢; omega
      obtain ⟨b9, b0, q1, q2, q3, q4⟩ := e9
      by_cases h7 : c < 128
      · have e7 : decide (c < 128) = true := decide_eq_true h7
        rw [if_pos h7] at hp
        rw [hp] at h
        cases b9 <;> cases b0 <;> simp only [d1, p1, p2, q1, q2, q3, q4, a1, a2, a3, a4', a5, a6, e7, ↓evp, evq, evr, fxa0, fxa1, fxa2, fxa3, fxu, fxn, fxl, ↓fxp, absL, fitL, flatL, aput, ares, ares1, ofVal, unSc, aload, afill, splice, abound, asI, elems, IntKind.bits, sortT, eqNil, closedL, allByte, patch, pendOK, numA, Value.cells, Value.oneCell', ibin, List.replicate, false_implies, forall_eq, forall_eq_or_imp, true_implies, implies_true, forall_const, Option.elim, Nat.reduceAdd, Nat.reduceSub, Nat.reduceMul, Nat.reduceLT, Nat.reduceEqDiff, Nat.reduceLeDiff, Nat.reduceBEq, Int.reduceLE, Int.reduceLT, Int.reduceToNat, Int.reduceBNe, Int.reduceBEq, Int.reduceNeg, Int.reduceEq, Int.reduceNe, Nat.reduceBNe, Int.reduceAdd, Int.reduceSub, Int.reduceMul, Int.reducePow, Nat.reducePow, Int.reduceGT, Int.reduceGE, and_self, and_true, true_and, and_false, false_and, or_true, true_or, or_false, false_or, not_true_eq_false, not_false_eq_true, if_true, if_false, ite_true, ite_false, beq_self_eq_true, BEq.rfl, reduceCtorEq, eq_self, ne_eq, decide_true, decide_false, Function.comp_def, beq_iff_eq] <;> exact h
      · have e7 : decide (c < 128) = false := decide_eq_false h7
        rw [if_neg h7] at hp
        have hi9 : i ≠ 9 := by omega
        have hx' : x + c.toNat % 128 * 128 ^ i < 128 ^ (i + 1) := by
          have h5 : c.toNat % 128 * 128 ^ i ≤ 127 * 128 ^ i := Nat.mul_le_mul_right _ (by omega)
          rw [Nat.pow_succ]; omega
        cases b9 <;> cases b0 <;> simp only [d1, p1, p2, q1, q2, q3, q4, a1, a2, a3, a4', a5, a6, e7, ↓evp, evq, evr, fxa0, fxa1, fxa2, fxa3, fxu, fxn, fxl, ↓fxp, absL, fitL, flatL, aput, ares, ares1, ofVal, unSc, aload, afill, splice, abound, asI, elems, IntKind.bits, sortT, eqNil, closedL, allByte, patch, pendOK, numA, Value.cells, Value.oneCell', ibin, List.replicate, false_implies, forall_eq, forall_eq_or_imp, true_implies, implies_true, forall_const, Option.elim, Nat.reduceAdd, Nat.reduceSub, Nat.reduceMul, Nat.reduceLT, Nat.reduceEqDiff, Nat.reduceLeDiff, Nat.reduceBEq, Int.reduceLE, Int.reduceLT, Int.reduceToNat, Int.reduceBNe, Int.reduceBEq, Int.reduceNeg, Int.reduceEq, Int.reduceNe, Nat.reduceBNe, Int.reduceAdd, Int.reduceSub, Int.reduceMul, Int.reducePow, Nat.reducePow, Int.reduceGT, Int.reduceGE, and_self, and_true, true_and, and_false, false_and, or_true, true_or, or_false, false_or, not_true_eq_false, not_false_eq_true, if_true, if_false, ite_true, ite_false, beq_self_eq_true, BEq.rfl, reduceCtorEq, eq_self, ne_eq, decide_true, decide_false, Function.comp_def, beq_iff_eq] <;> exact hI' _ _ _ ⟨rfl, i + 1, _, by omega, h1, by omega, hx', hp, _, _, _, _, _, _, _, _, _, _, _, _, _, _, _, _, _, _, _, _, _, _, _, _, _, _, _, _, _, _, _, _, _, _, _, _, _, _, _, _, _, _, _, _, _, _, rfl⟩
  · have d1 : decide ((i : Int) < l.length) = false := decide_eq_false (by omega)
    rw [List.drop_eq_nil_of_le (by omega)] at hp
    simp only [pk] at hp
    rw [hp] at h
    simp only [d1, ↓evp, evq, evr, fxa0, fxa1, fxa2, fxa3, fxu, fxn, fxl, ↓fxp, absL, fitL, flatL, aput, ares, ares1, ofVal, unSc, aload, afill, splice, abound, asI, elems, IntKind.bits, sortT, eqNil, closedL, allByte, patch, pendOK, numA, Value.cells, Value.oneCell', ibin, List.replicate, false_implies, forall_eq, forall_eq_or_imp, true_implies, implies_true, forall_const, Option.elim, Nat.reduceAdd, Nat.reduceSub, Nat.reduceMul, Nat.reduceLT, Nat.reduceEqDiff, Nat.reduceLeDiff, Nat.reduceBEq, Int.reduceLE, Int.reduceLT, Int.reduceToNat, Int.reduceBNe, Int.reduceBEq, Int.reduceNeg, Int.reduceEq, Int.reduceNe, Nat.reduceBNe, Int.reduceAdd, Int.reduceSub, Int.reduceMul, Int.reducePow, Nat.reducePow, Int.reduceGT, Int.reduceGE, and_self, and_true, true_and, and_false, false_and, or_true, true_or, or_false, false_or, not_true_eq_false, not_false_eq_true, if_true, if_false, ite_true, ite_false, beq_self_eq_true, BEq.rfl, reduceCtorEq, eq_self, ne_eq, decide_true, decide_false, Function.comp_def, beq_iff_eq]
    exact h
end
end Go.Proofs.Ytfndpnmdjblokaa
