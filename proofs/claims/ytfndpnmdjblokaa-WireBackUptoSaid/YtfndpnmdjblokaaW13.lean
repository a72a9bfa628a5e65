/- The reader: the document's, the rest. -/
import Derived.Test.YtfndpnmdjblokaaW12
set_option linter.unusedVariables false
set_option linter.unusedSimpArgs false
set_option maxRecDepth 10000
namespace Go.Proofs.Ytfndpnmdjblokaa
open Go Go.M Go.RowKit
attribute [local congr] acallF_cong aloop_cong bcase_cong resK_cong valK_cong wantK_cong callK_cong xputK_cong qputK_cong
attribute [local irreducible] seqK blockK loopK nextK bcase resK valK wantK funK putK dputK xputK qputK callK aops aop acode adraw aloop acallF acall invK
section
variable {n m id : Nat} {bv : V} {r : RS} {st : List Ob} {K : V → List Ob → Prop}
theorem r_ReadVarint (ho : r.ok) (hr : st[id]? = some (.cells (r.c bv))) (hb : Cut Try.prog st 5 bv (bs r.b) r.b.length) (hm : 12 < m)
    (h : ∀ s, Trn st id (RS.c bv r.uv.2) s → K (.sc (.int .i64 (zag r.uv.1))) s) : acallF Try.prog pl (n + 3) m 65 [.ref id 0] st K := by
  rw [acallF_eq Try.func65 rfl]
  simp only [↓evp, evq, evr, fxa0, fxa1, fxa2, fxa3, fxu, fxn, fxl, ↓fxp, absL, fitL, flatL, aput, ares, ares1, ofVal, unSc, aload, afill, splice, abound, asI, elems, IntKind.bits, sortT, eqNil, closedL, allByte, patch, pendOK, numA, Value.cells, Value.oneCell', ibin, List.replicate, false_implies, forall_eq, forall_eq_or_imp, true_implies, implies_true, forall_const, Option.elim, Nat.reduceAdd, Nat.reduceSub, Nat.reduceMul, Nat.reduceLT, Nat.reduceEqDiff, Nat.reduceLeDiff, Nat.reduceBEq, Int.reduceLE, Int.reduceLT, Int.reduceToNat, Int.reduceBNe, Int.reduceBEq, Int.reduceNeg, Int.reduceEq, Int.reduceNe, Nat.reduceBNe, Int.reduceAdd, Int.reduceSub, Int.reduceMul, Int.reducePow, Nat.reducePow, Int.reduceGT, Int.reduceGE, and_self, and_true, true_and, and_false, false_and, or_true, true_or, or_false, false_or, not_true_eq_false, not_false_eq_true, if_true, if_false, ite_true, ite_false, beq_self_eq_true, BEq.rfl, reduceCtorEq, eq_self, ne_eq, decide_true, decide_false, Function.comp_def, beq_iff_eq]
  refine r_ReadUvarint ho hr hb hm fun s hs => ?_
  have hl := RS.uv_lt ho
  have := h s hs
  generalize r.uv.1 = x at *
  have e1 : (x : Int).tmod 2 = ((x % 2 : Nat) : Int) := by rw [Int.tmod_eq_emod_of_nonneg (by omega)]; omega
  have e2 : IntKind.i64.wrap (IntKind.u64.wrap ((x : Int).tdiv 2)) = ((x / 2 : Nat) : Int) := by rw [Int.tdiv_eq_ediv_of_nonneg (by omega), IntWalk.u64_in _ (by omega), IntWalk.i64_in _ (by omega)]; omega
  unfold zag at this
  by_cases hx : x % 2 = 1
  · have q : (((x % 2 : Nat) : Int) == 1) = true := by simp; omega
    have e3 : IntKind.i64.wrap (IntKind.i64.wrap (0 - ((x / 2 : Nat) : Int)) - 1) = -((x / 2 : Nat) : Int) - 1 := by rw [IntWalk.i64_in (0 - ((x / 2 : Nat) : Int)) (by omega), IntWalk.i64_in _ (by omega)]; omega
    rw [if_pos hx] at this
    simp only [e1, e2, e3, q, ↓evp, evq, evr, fxa0, fxa1, fxa2, fxa3, fxu, fxn, fxl, ↓fxp, absL, fitL, flatL, aput, ares, ares1, ofVal, unSc, aload, afill, splice, abound, asI, elems, IntKind.bits, sortT, eqNil, closedL, allByte, patch, pendOK, numA, Value.cells, Value.oneCell', ibin, List.replicate, false_implies, forall_eq, forall_eq_or_imp, true_implies, implies_true, forall_const, Option.elim, Nat.reduceAdd, Nat.reduceSub, Nat.reduceMul, Nat.reduceLT, Nat.reduceEqDiff, Nat.reduceLeDiff, Nat.reduceBEq, Int.reduceLE, Int.reduceLT, Int.reduceToNat, Int.reduceBNe, Int.reduceBEq, Int.reduceNeg, Int.reduceEq, Int.reduceNe, Nat.reduceBNe, Int.reduceAdd, Int.reduceSub, Int.reduceMul, Int.reducePow, Nat.reducePow, Int.reduceGT, Int.reduceGE, and_self, and_true, true_and, and_false, false_and, or_true, true_or, or_false, false_or, not_true_eq_false, not_false_eq_true, if_true, if_false, ite_true, ite_false, beq_self_eq_true, BEq.rfl, reduceCtorEq, eq_self, ne_eq, decide_true, decide_false, Function.comp_def, beq_iff_eq]
    exact this
  · have q : (((x % 2 : Nat) : Int) == 1) = false := by simp; omega
    rw [if_neg hx] at this
    simp only [e1, e2, q, ↓evp, evq, evr, fxa0, fxa1, fxa2, fxa3, fxu, fxn, fxl, ↓fxp, absL, fitL, flatL, aput, ares, ares1, ofVal, unSc, aload, afill, splice, abound, asI, elems, IntKind.bits, sortT, eqNil, closedL, allByte, patch, pendOK, numA, Value.cells, Value.oneCell', ibin, List.replicate, false_implies, forall_eq, forall_eq_or_imp, true_implies, implies_true, forall_const, Option.elim, Nat.reduceAdd, Nat.reduceSub, Nat.reduceMul, Nat.reduceLT, Nat.reduceEqDiff, Nat.reduceLeDiff, Nat.reduceBEq, Int.reduceLE, Int.reduceLT, Int.reduceToNat, Int.reduceBNe, Int.reduceBEq, Int.reduceNeg, Int.reduceEq, Int.reduceNe, Nat.reduceBNe, Int.reduceAdd, Int.reduceSub, Int.reduceMul, Int.reducePow, Nat.reducePow, Int.reduceGT, Int.reduceGE, and_self, and_true, true_and, and_false, false_and, or_true, true_or, or_false, false_or, not_true_eq_false, not_false_eq_true, if_true, if_false, ite_true, ite_false, beq_self_eq_true, BEq.rfl, reduceCtorEq, eq_self, ne_eq, decide_true, decide_false, Function.comp_def, beq_iff_eq]
    exact this
theorem r_ReadFixed {k : Nat} (hk8 : k ≤ 8) (ho : r.ok) (hr : st[id]? = some (.cells (r.c bv))) (hb : Cut Try.prog st 5 bv (bs r.b) r.b.length) (hm : 12 < m)
    (h : ∀ s, Trn st id (RS.c bv (r.fx k).2) s → K (.sc (.int .u64 (r.fx k).1)) s) (hk0 : 0 < k) : acallF Try.prog pl (n + 2) m 66 [.ref id 0, .sc (.int .i64 k)] st K := by
  rw [acallF_eq Try.func66 rfl]
  have hr' := hr
  simp only [RS.c] at hr'
  simp only [hr', ↓evp, evq, evr, fxa0, fxa1, fxa2, fxa3, fxu, fxn, fxl, ↓fxp, absL, fitL, flatL, aput, ares, ares1, ofVal, unSc, aload, afill, splice, abound, asI, elems, IntKind.bits, sortT, eqNil, closedL, allByte, patch, pendOK, numA, Value.cells, Value.oneCell', ibin, List.replicate, false_implies, forall_eq, forall_eq_or_imp, true_implies, implies_true, forall_const, Option.elim, Nat.reduceAdd, Nat.reduceSub, Nat.reduceMul, Nat.reduceLT, Nat.reduceEqDiff, Nat.reduceLeDiff, Nat.reduceBEq, Int.reduceLE, Int.reduceLT, Int.reduceToNat, Int.reduceBNe, Int.reduceBEq, Int.reduceNeg, Int.reduceEq, Int.reduceNe, Nat.reduceBNe, Int.reduceAdd, Int.reduceSub, Int.reduceMul, Int.reducePow, Nat.reducePow, Int.reduceGT, Int.reduceGE, and_self, and_true, true_and, and_false, false_and, or_true, true_or, or_false, false_or, not_true_eq_false, not_false_eq_true, if_true, if_false, ite_true, ite_false, beq_self_eq_true, BEq.rfl, reduceCtorEq, eq_self, ne_eq, decide_true, decide_false, Function.comp_def, beq_iff_eq]
  have hbd : ∀ c ∈ r.b.drop r.at_, 0 ≤ c ∧ c < 256 := fun c hc => ho.b c (List.drop_subset _ _ hc)
  have hlen := ho.len
  have hat := ho.at_
  refine aloop_for (fun j t s => ∃ i : Nat, j + i = m ∧ i ≤ k ∧ Trn st id (RS.c bv { r with at_ := r.at_ + i }) s ∧ r.at_ + i ≤ r.b.length ∧ (r.e ≠ 0 → i = 0) ∧
    ∃ hh2 hh3 hh4 hh8 hh9 hh10 hh11 hh12 hh13 hh14 hh15 hh16 hh17 hh18 hh19 hh20 hh21 hh22 hh23 hh24 hh25 hh26 hh27 hh28 hh29 hh30 hh31 hh32 hh33 hh34 hh35 hh36 hh37, t = [.ref id 0, .sc (.int .i64 k), hh2, hh3, hh4, .sc (.int .i64 r.at_), .sc (.int .u64 (le ((r.b.drop r.at_).take i))), .sc (.int .i64 i), hh8, hh9, hh10, hh11, hh12, hh13, hh14, hh15, hh16, hh17, hh18, hh19, hh20, hh21, hh22, hh23, hh24, hh25, hh26, hh27, hh28, hh29, hh30, hh31, hh32, hh33, hh34, hh35, hh36, hh37]) ⟨0, by omega, by omega, .same (by rw [Nat.add_zero]; exact hr), by omega, fun _ => rfl, _, _, _, _, _, _, _, _, _, _, _, _, _, _, _, _, _, _, _, _, _, _, _, _, _, _, _, _, _, _, _, _, _, rfl⟩ ?_
  rintro I' hI' j t s ⟨i, hj, hik, hs, hi, hei, hh2, hh3, hh4, hh8, hh9, hh10, hh11, hh12, hh13, hh14, hh15, hh16, hh17, hh18, hh19, hh20, hh21, hh22, hh23, hh24, hh25, hh26, hh27, hh28, hh29, hh30, hh31, hh32, hh33, hh34, hh35, hh36, hh37, rfl⟩
  refine ⟨j - 1, by omega, ?_⟩
  have ho' : ({ r with at_ := r.at_ + i } : RS).ok := ⟨hi, ho.len, ho.b⟩
  have hxl := le_lt ((r.b.drop r.at_).take i) fun c hc => hbd c (List.take_subset _ _ hc)
  rw [List.length_take, List.length_drop, Nat.min_eq_left (by omega)] at hxl
  by_cases hlt : i < k
  · have d1 : decide ((i : Int) < k) = true := decide_eq_true (by omega)
    simp only [d1, ↓evp, evq, evr, fxa0, fxa1, fxa2, fxa3, fxu, fxn, fxl, ↓fxp, absL, fitL, flatL, aput, ares, ares1, ofVal, unSc, aload, afill, splice, abound, asI, elems, IntKind.bits, sortT, eqNil, closedL, allByte, patch, pendOK, numA, Value.cells, Value.oneCell', ibin, List.replicate, false_implies, forall_eq, forall_eq_or_imp, true_implies, implies_true, forall_const, Option.elim, Nat.reduceAdd, Nat.reduceSub, Nat.reduceMul, Nat.reduceLT, Nat.reduceEqDiff, Nat.reduceLeDiff, Nat.reduceBEq, Int.reduceLE, Int.reduceLT, Int.reduceToNat, Int.reduceBNe, Int.reduceBEq, Int.reduceNeg, Int.reduceEq, Int.reduceNe, Nat.reduceBNe, Int.reduceAdd, Int.reduceSub, Int.reduceMul, Int.reducePow, Nat.reducePow, Int.reduceGT, Int.reduceGE, and_self, and_true, true_and, and_false, false_and, or_true, true_or, or_false, false_or, not_true_eq_false, not_false_eq_true, if_true, if_false, ite_true, ite_false, beq_self_eq_true, BEq.rfl, reduceCtorEq, eq_self, ne_eq, decide_true, decide_false, Function.comp_def, beq_iff_eq]
    refine r_next (r := { r with at_ := r.at_ + i }) ho' hs.1 (hb.trn hr hs) (fun hc => ?_) fun s1 he hl hs1 => ?_
    · simp only [↓evp, evq, evr, fxa0, fxa1, fxa2, fxa3, fxu, fxn, fxl, ↓fxp, absL, fitL, flatL, aput, ares, ares1, ofVal, unSc, aload, afill, splice, abound, asI, elems, IntKind.bits, sortT, eqNil, closedL, allByte, patch, pendOK, numA, Value.cells, Value.oneCell', ibin, List.replicate, false_implies, forall_eq, forall_eq_or_imp, true_implies, implies_true, forall_const, Option.elim, Nat.reduceAdd, Nat.reduceSub, Nat.reduceMul, Nat.reduceLT, Nat.reduceEqDiff, Nat.reduceLeDiff, Nat.reduceBEq, Int.reduceLE, Int.reduceLT, Int.reduceToNat, Int.reduceBNe, Int.reduceBEq, Int.reduceNeg, Int.reduceEq, Int.reduceNe, Nat.reduceBNe, Int.reduceAdd, Int.reduceSub, Int.reduceMul, Int.reducePow, Nat.reducePow, Int.reduceGT, Int.reduceGE, and_self, and_true, true_and, and_false, false_and, or_true, true_or, or_false, false_or, not_true_eq_false, not_false_eq_true, if_true, if_false, ite_true, ite_false, beq_self_eq_true, BEq.rfl, reduceCtorEq, eq_self, ne_eq, decide_true, decide_false, Function.comp_def, beq_iff_eq]
      refine r_wrong hs.1 fun s2 hs2 => ?_
      simp only [↓evp, evq, evr, fxa0, fxa1, fxa2, fxa3, fxu, fxn, fxl, ↓fxp, absL, fitL, flatL, aput, ares, ares1, ofVal, unSc, aload, afill, splice, abound, asI, elems, IntKind.bits, sortT, eqNil, closedL, allByte, patch, pendOK, numA, Value.cells, Value.oneCell', ibin, List.replicate, false_implies, forall_eq, forall_eq_or_imp, true_implies, implies_true, forall_const, Option.elim, Nat.reduceAdd, Nat.reduceSub, Nat.reduceMul, Nat.reduceLT, Nat.reduceEqDiff, Nat.reduceLeDiff, Nat.reduceBEq, Int.reduceLE, Int.reduceLT, Int.reduceToNat, Int.reduceBNe, Int.reduceBEq, Int.reduceNeg, Int.reduceEq, Int.reduceNe, Nat.reduceBNe, Int.reduceAdd, Int.reduceSub, Int.reduceMul, Int.reducePow, Nat.reducePow, Int.reduceGT, Int.reduceGE, and_self, and_true, true_and, and_false, false_and, or_true, true_or, or_false, false_or, not_true_eq_false, not_false_eq_true, if_true, if_false, ite_true, ite_false, beq_self_eq_true, BEq.rfl, reduceCtorEq, eq_self, ne_eq, decide_true, decide_false, Function.comp_def, beq_iff_eq]
      have h2 := hs.trans hs2
      by_cases he : r.e = 0
      · have hg : k + r.at_ > r.b.length := by
          rcases hc with hc | hc
          · exact absurd he hc
          · simp only at hc; omega
        have hu : r.fx k = (0, { r with e := 5 }) := by simp only [RS.fx, RS.tk, if_pos he, if_pos hg]
        rw [hu] at h
        simp only [if_pos he] at h2
        exact h _ h2
      · have hu : r.fx k = (0, r) := by simp only [RS.fx, RS.tk, if_neg he]
        have hi0 := hei he
        subst hi0
        rw [hu] at h
        simp only [if_neg he, Nat.add_zero] at h2
        exact h _ h2
    · simp only at he hl
      have hc := ho.b _ (List.getElem_mem hl)
      have hs2 := hs.trans hs1
      simp only at hs1 hs2
      have hnx : le ((r.b.drop r.at_).take (i + 1)) = le ((r.b.drop r.at_).take i) + r.b[r.at_ + i].toNat * 256 ^ i := by
        have e : ((r.b.drop r.at_).take i).length = i := by rw [List.length_take, List.length_drop, Nat.min_eq_left (by omega)]
        rw [List.take_succ_eq_append_getElem (by rw [List.length_drop]; omega), le_append, e]
        simp only [le, Nat.mul_zero, Nat.add_zero, List.getElem_drop]
        rw [Nat.mul_comm]
      have hxl2 := le_lt ((r.b.drop r.at_).take (i + 1)) fun c hc => hbd c (List.take_subset _ _ hc)
      rw [List.length_take, List.length_drop, Nat.min_eq_left (by omega), hnx] at hxl2
      have nxt : ∀ hh2 hh3 hh4 hh8 hh9 hh10 hh11 hh12 hh13 hh14 hh15 hh16 hh17 hh18 hh19 hh20 hh21 hh22 hh23 hh24 hh25 hh26 hh27 hh28 hh29 hh30 hh31 hh32 hh33 hh34 hh35 hh36 hh37, I' (j - 1) [.ref id 0, .sc (.int .i64 k), hh2, hh3, hh4, .sc (.int .i64 r.at_), .sc (.int .u64 ((le ((r.b.drop r.at_).take i) + r.b[r.at_ + i].toNat * 256 ^ i : Nat) : Int)), .sc (.int .i64 ((i + 1 : Nat) : Int)), hh8, hh9, hh10, hh11, hh12, hh13, hh14, hh15, hh16, hh17, hh18, hh19, hh20, hh21, hh22, hh23, hh24, hh25, hh26, hh27, hh28, hh29, hh30, hh31, hh32, hh33, hh34, hh35, hh36, hh37] s1 := fun hh2 hh3 hh4 hh8 hh9 hh10 hh11 hh12 hh13 hh14 hh15 hh16 hh17 hh18 hh19 hh20 hh21 hh22 hh23 hh24 hh25 hh26 hh27 hh28 hh29 hh30 hh31 hh32 hh33 hh34 hh35 hh36 hh37 => by
        rw [← hnx]
        exact hI' _ _ _ ⟨i + 1, by omega, by omega, hs2, by omega, fun h => absurd he h, _, _, _, _, _, _, _, _, _, _, _, _, _, _, _, _, _, _, _, _, _, _, _, _, _, _, _, _, _, _, _, _, _, rfl⟩
      clear hnx h
      generalize le ((r.b.drop r.at_).take i) = x at *
      generalize hcd : r.b[r.at_ + i] = c at *
      have h256 : 256 ^ i = 2 ^ (8 * i) := by rw [Nat.pow_mul]
      have hb8 : 256 ^ (i + 1) ≤ 256 ^ 8 := Nat.pow_le_pow_right (by omega) (by omega)
      have a1 : IntKind.u64.wrap c = c := IntWalk.u64_in _ (by omega)
      have a3 : IntKind.u64.wrap (IntKind.i64.wrap (8 * (i : Int))) = ((8 * i : Nat) : Int) := by rw [IntWalk.i64_in _ (by omega), IntWalk.u64_in _ (by omega)]; omega
      have a4 : IntKind.u64.wrap (c * 2 ^ min (8 * i) 64) = ((c.toNat * 256 ^ i : Nat) : Int) := by
        have hc' : c = (c.toNat : Int) := by omega
        rw [Nat.min_eq_left (by omega), show (2 : Int) ^ (8 * i) = ((256 ^ i : Nat) : Int) by rw [h256, Int.natCast_pow]; rfl, hc', ← Int.natCast_mul, Int.toNat_natCast, IntWalk.u64_in _ (by omega)]
      have a5 : IntKind.i64.wrap ((i : Int) + 1) = ((i + 1 : Nat) : Int) := by rw [IntWalk.i64_in _ (by omega)]; rfl
      have a6 : bits .or .u64 (x : Int) ((c.toNat * 256 ^ i : Nat) : Int) = ((x + c.toNat * 256 ^ i : Nat) : Int) := by
        rw [u64_or_nat _ _ (by omega) (by omega), h256, shl_or (by rw [← h256]; exact hxl)]
      simp only [a1, a3, a4, a5, a6, ↓evp, evq, evr, fxa0, fxa1, fxa2, fxa3, fxu, fxn, fxl, ↓fxp, absL, fitL, flatL, aput, ares, ares1, ofVal, unSc, aload, afill, splice, abound, asI, elems, IntKind.bits, sortT, eqNil, closedL, allByte, patch, pendOK, numA, Value.cells, Value.oneCell', ibin, List.replicate, false_implies, forall_eq, forall_eq_or_imp, true_implies, implies_true, forall_const, Option.elim, Nat.reduceAdd, Nat.reduceSub, Nat.reduceMul, Nat.reduceLT, Nat.reduceEqDiff, Nat.reduceLeDiff, Nat.reduceBEq, Int.reduceLE, Int.reduceLT, Int.reduceToNat, Int.reduceBNe, Int.reduceBEq, Int.reduceNeg, Int.reduceEq, Int.reduceNe, Nat.reduceBNe, Int.reduceAdd, Int.reduceSub, Int.reduceMul, Int.reducePow, Nat.reducePow, Int.reduceGT, Int.reduceGE, and_self, and_true, true_and, and_false, false_and, or_true, true_or, or_false, false_or, not_true_eq_false, not_false_eq_true, if_true, if_false, ite_true, ite_false, beq_self_eq_true, BEq.rfl, reduceCtorEq, eq_self, ne_eq, decide_true, decide_false, Function.comp_def, beq_iff_eq]
      apply nxt
  · obtain rfl : i = k := by omega
    have d1 : decide ((i : Int) < i) = false := by simp
    simp only [d1, ↓evp, evq, evr, fxa0, fxa1, fxa2, fxa3, fxu, fxn, fxl, ↓fxp, absL, fitL, flatL, aput, ares, ares1, ofVal, unSc, aload, afill, splice, abound, asI, elems, IntKind.bits, sortT, eqNil, closedL, allByte, patch, pendOK, numA, Value.cells, Value.oneCell', ibin, List.replicate, false_implies, forall_eq, forall_eq_or_imp, true_implies, implies_true, forall_const, Option.elim, Nat.reduceAdd, Nat.reduceSub, Nat.reduceMul, Nat.reduceLT, Nat.reduceEqDiff, Nat.reduceLeDiff, Nat.reduceBEq, Int.reduceLE, Int.reduceLT, Int.reduceToNat, Int.reduceBNe, Int.reduceBEq, Int.reduceNeg, Int.reduceEq, Int.reduceNe, Nat.reduceBNe, Int.reduceAdd, Int.reduceSub, Int.reduceMul, Int.reducePow, Nat.reducePow, Int.reduceGT, Int.reduceGE, and_self, and_true, true_and, and_false, false_and, or_true, true_or, or_false, false_or, not_true_eq_false, not_false_eq_true, if_true, if_false, ite_true, ite_false, beq_self_eq_true, BEq.rfl, reduceCtorEq, eq_self, ne_eq, decide_true, decide_false, Function.comp_def, beq_iff_eq]
    have he : r.e = 0 := Decidable.byContradiction fun h => absurd (hei h) (by omega)
    have hu : r.fx i = (le ((r.b.drop r.at_).take i), { r with at_ := r.at_ + i }) := by simp only [RS.fx, RS.tk, if_pos he, if_neg (show ¬ i + r.at_ > r.b.length by omega)]
    rw [hu] at h
    exact h _ hs
theorem r_ReadNumber {most : Int} (ho : r.ok) (hr : st[id]? = some (.cells (r.c bv))) (hb : Cut Try.prog st 5 bv (bs r.b) r.b.length) (hm : 12 < m) (hm1 : -9223372036854775808 ≤ most) (hm2 : most < 9223372036854775808)
    (h : ∀ s, Trn st id (RS.c bv (r.nb most).2) s → K (.sc (.int .i64 (r.nb most).1)) s) : acallF Try.prog pl (n + 3) m 67 [.ref id 0, .sc (.int .i64 most)] st K := by
  rw [acallF_eq Try.func67 rfl]
  have hr' := hr
  simp only [RS.c] at hr'
  simp only [hr', ↓evp, evq, evr, fxa0, fxa1, fxa2, fxa3, fxu, fxn, fxl, ↓fxp, absL, fitL, flatL, aput, ares, ares1, ofVal, unSc, aload, afill, splice, abound, asI, elems, IntKind.bits, sortT, eqNil, closedL, allByte, patch, pendOK, numA, Value.cells, Value.oneCell', ibin, List.replicate, false_implies, forall_eq, forall_eq_or_imp, true_implies, implies_true, forall_const, Option.elim, Nat.reduceAdd, Nat.reduceSub, Nat.reduceMul, Nat.reduceLT, Nat.reduceEqDiff, Nat.reduceLeDiff, Nat.reduceBEq, Int.reduceLE, Int.reduceLT, Int.reduceToNat, Int.reduceBNe, Int.reduceBEq, Int.reduceNeg, Int.reduceEq, Int.reduceNe, Nat.reduceBNe, Int.reduceAdd, Int.reduceSub, Int.reduceMul, Int.reducePow, Nat.reducePow, Int.reduceGT, Int.reduceGE, and_self, and_true, true_and, and_false, false_and, or_true, true_or, or_false, false_or, not_true_eq_false, not_false_eq_true, if_true, if_false, ite_true, ite_false, beq_self_eq_true, BEq.rfl, reduceCtorEq, eq_self, ne_eq, decide_true, decide_false, Function.comp_def, beq_iff_eq]
  refine r_ReadUvarint ho hr hb hm fun s hs => ?_
  have hs' := hs.1
  simp only [RS.c] at hs'
  have hu64 := pk_u64 ho
  by_cases he : r.e = 0
  · by_cases hk : (pk (r.b.drop r.at_) 0 0).2 = 0
    · have hu : r.uv = (0, { r with e := 5 }) := by simp only [RS.uv, if_pos he, if_pos hk]
      have hn : r.nb most = (0, { r with e := 5 }) := by simp only [RS.nb, if_pos he, if_pos hk]
      rw [hu] at hs hs'
      rw [hn] at h
      simp only at hs' hs
      simp only [hu, hs', ↓evp, evq, evr, fxa0, fxa1, fxa2, fxa3, fxu, fxn, fxl, ↓fxp, absL, fitL, flatL, aput, ares, ares1, ofVal, unSc, aload, afill, splice, abound, asI, elems, IntKind.bits, sortT, eqNil, closedL, allByte, patch, pendOK, numA, Value.cells, Value.oneCell', ibin, List.replicate, false_implies, forall_eq, forall_eq_or_imp, true_implies, implies_true, forall_const, Option.elim, Nat.reduceAdd, Nat.reduceSub, Nat.reduceMul, Nat.reduceLT, Nat.reduceEqDiff, Nat.reduceLeDiff, Nat.reduceBEq, Int.reduceLE, Int.reduceLT, Int.reduceToNat, Int.reduceBNe, Int.reduceBEq, Int.reduceNeg, Int.reduceEq, Int.reduceNe, Nat.reduceBNe, Int.reduceAdd, Int.reduceSub, Int.reduceMul, Int.reducePow, Nat.reducePow, Int.reduceGT, Int.reduceGE, and_self, and_true, true_and, and_false, false_and, or_true, true_or, or_false, false_or, not_true_eq_false, not_false_eq_true, if_true, if_false, ite_true, ite_false, beq_self_eq_true, BEq.rfl, reduceCtorEq, eq_self, ne_eq, decide_true, decide_false, Function.comp_def, beq_iff_eq]
      exact h _ hs
    · have hu : r.uv = ((pk (r.b.drop r.at_) 0 0).1, { r with at_ := r.at_ + (pk (r.b.drop r.at_) 0 0).2 }) := by simp only [RS.uv, if_pos he, if_neg hk]
      rw [hu] at hs hs'
      simp only [he] at hs'
      by_cases hm0 : most < 0
      · have d : decide (most < 0) = true := decide_eq_true hm0
        have hn : r.nb most = (0, { r with e := 3 }) := by simp only [RS.nb, if_pos he, if_neg hk, if_pos (show ((pk (r.b.drop r.at_) 0 0).1 : Int) > most ∨ most < 0 from .inr hm0)]
        rw [hn] at h
        simp only [hu, hs', d, ↓evp, evq, evr, fxa0, fxa1, fxa2, fxa3, fxu, fxn, fxl, ↓fxp, absL, fitL, flatL, aput, ares, ares1, ofVal, unSc, aload, afill, splice, abound, asI, elems, IntKind.bits, sortT, eqNil, closedL, allByte, patch, pendOK, numA, Value.cells, Value.oneCell', ibin, List.replicate, false_implies, forall_eq, forall_eq_or_imp, true_implies, implies_true, forall_const, Option.elim, Nat.reduceAdd, Nat.reduceSub, Nat.reduceMul, Nat.reduceLT, Nat.reduceEqDiff, Nat.reduceLeDiff, Nat.reduceBEq, Int.reduceLE, Int.reduceLT, Int.reduceToNat, Int.reduceBNe, Int.reduceBEq, Int.reduceNeg, Int.reduceEq, Int.reduceNe, Nat.reduceBNe, Int.reduceAdd, Int.reduceSub, Int.reduceMul, Int.reducePow, Nat.reducePow, Int.reduceGT, Int.reduceGE, and_self, and_true, true_and, and_false, false_and, or_true, true_or, or_false, false_or, not_true_eq_false, not_false_eq_true, if_true, if_false, ite_true, ite_false, beq_self_eq_true, BEq.rfl, reduceCtorEq, eq_self, ne_eq, decide_true, decide_false, Function.comp_def, beq_iff_eq]
        refine r_wrong hs.1 fun s2 hs2 => ?_
        simp only [if_pos he] at hs2
        simp only [↓evp, evq, evr, fxa0, fxa1, fxa2, fxa3, fxu, fxn, fxl, ↓fxp, absL, fitL, flatL, aput, ares, ares1, ofVal, unSc, aload, afill, splice, abound, asI, elems, IntKind.bits, sortT, eqNil, closedL, allByte, patch, pendOK, numA, Value.cells, Value.oneCell', ibin, List.replicate, false_implies, forall_eq, forall_eq_or_imp, true_implies, implies_true, forall_const, Option.elim, Nat.reduceAdd, Nat.reduceSub, Nat.reduceMul, Nat.reduceLT, Nat.reduceEqDiff, Nat.reduceLeDiff, Nat.reduceBEq, Int.reduceLE, Int.reduceLT, Int.reduceToNat, Int.reduceBNe, Int.reduceBEq, Int.reduceNeg, Int.reduceEq, Int.reduceNe, Nat.reduceBNe, Int.reduceAdd, Int.reduceSub, Int.reduceMul, Int.reducePow, Nat.reducePow, Int.reduceGT, Int.reduceGE, and_self, and_true, true_and, and_false, false_and, or_true, true_or, or_false, false_or, not_true_eq_false, not_false_eq_true, if_true, if_false, ite_true, ite_false, beq_self_eq_true, BEq.rfl, reduceCtorEq, eq_self, ne_eq, decide_true, decide_false, Function.comp_def, beq_iff_eq]
        exact h _ (hs.trans hs2)
      · have d : decide (most < 0) = false := decide_eq_false hm0
        have w : IntKind.u64.wrap most = most := IntWalk.u64_in _ (by omega)
        by_cases hg : ((pk (r.b.drop r.at_) 0 0).1 : Int) > most
        · have d2 : decide (((pk (r.b.drop r.at_) 0 0).1 : Int) > most) = true := decide_eq_true hg
          have hn : r.nb most = (0, { r with e := 3 }) := by simp only [RS.nb, if_pos he, if_neg hk, if_pos (show ((pk (r.b.drop r.at_) 0 0).1 : Int) > most ∨ most < 0 from .inl hg)]
          rw [hn] at h
          simp only [hu, hs', d, w, d2, ↓evp, evq, evr, fxa0, fxa1, fxa2, fxa3, fxu, fxn, fxl, ↓fxp, absL, fitL, flatL, aput, ares, ares1, ofVal, unSc, aload, afill, splice, abound, asI, elems, IntKind.bits, sortT, eqNil, closedL, allByte, patch, pendOK, numA, Value.cells, Value.oneCell', ibin, List.replicate, false_implies, forall_eq, forall_eq_or_imp, true_implies, implies_true, forall_const, Option.elim, Nat.reduceAdd, Nat.reduceSub, Nat.reduceMul, Nat.reduceLT, Nat.reduceEqDiff, Nat.reduceLeDiff, Nat.reduceBEq, Int.reduceLE, Int.reduceLT, Int.reduceToNat, Int.reduceBNe, Int.reduceBEq, Int.reduceNeg, Int.reduceEq, Int.reduceNe, Nat.reduceBNe, Int.reduceAdd, Int.reduceSub, Int.reduceMul, Int.reducePow, Nat.reducePow, Int.reduceGT, Int.reduceGE, and_self, and_true, true_and, and_false, false_and, or_true, true_or, or_false, false_or, not_true_eq_false, not_false_eq_true, if_true, if_false, ite_true, ite_false, beq_self_eq_true, BEq.rfl, reduceCtorEq, eq_self, ne_eq, decide_true, decide_false, Function.comp_def, beq_iff_eq]
          refine r_wrong hs.1 fun s2 hs2 => ?_
          simp only [if_pos he] at hs2
          simp only [↓evp, evq, evr, fxa0, fxa1, fxa2, fxa3, fxu, fxn, fxl, ↓fxp, absL, fitL, flatL, aput, ares, ares1, ofVal, unSc, aload, afill, splice, abound, asI, elems, IntKind.bits, sortT, eqNil, closedL, allByte, patch, pendOK, numA, Value.cells, Value.oneCell', ibin, List.replicate, false_implies, forall_eq, forall_eq_or_imp, true_implies, implies_true, forall_const, Option.elim, Nat.reduceAdd, Nat.reduceSub, Nat.reduceMul, Nat.reduceLT, Nat.reduceEqDiff, Nat.reduceLeDiff, Nat.reduceBEq, Int.reduceLE, Int.reduceLT, Int.reduceToNat, Int.reduceBNe, Int.reduceBEq, Int.reduceNeg, Int.reduceEq, Int.reduceNe, Nat.reduceBNe, Int.reduceAdd, Int.reduceSub, Int.reduceMul, Int.reducePow, Nat.reducePow, Int.reduceGT, Int.reduceGE, and_self, and_true, true_and, and_false, false_and, or_true, true_or, or_false, false_or, not_true_eq_false, not_false_eq_true, if_true, if_false, ite_true, ite_false, beq_self_eq_true, BEq.rfl, reduceCtorEq, eq_self, ne_eq, decide_true, decide_false, Function.comp_def, beq_iff_eq]
          exact h _ (hs.trans hs2)
        · have d2 : decide (((pk (r.b.drop r.at_) 0 0).1 : Int) > most) = false := decide_eq_false hg
          have hn : r.nb most = (((pk (r.b.drop r.at_) 0 0).1 : Int), { r with at_ := r.at_ + (pk (r.b.drop r.at_) 0 0).2 }) := by simp only [RS.nb, if_pos he, if_neg hk, if_neg (show ¬ (((pk (r.b.drop r.at_) 0 0).1 : Int) > most ∨ most < 0) by omega)]
          have w2 : IntKind.i64.wrap ((pk (r.b.drop r.at_) 0 0).1 : Int) = ((pk (r.b.drop r.at_) 0 0).1 : Int) := IntWalk.i64_in _ (by omega)
          rw [hn] at h
          simp only [hu, hs', d, w, d2, w2, ↓evp, evq, evr, fxa0, fxa1, fxa2, fxa3, fxu, fxn, fxl, ↓fxp, absL, fitL, flatL, aput, ares, ares1, ofVal, unSc, aload, afill, splice, abound, asI, elems, IntKind.bits, sortT, eqNil, closedL, allByte, patch, pendOK, numA, Value.cells, Value.oneCell', ibin, List.replicate, false_implies, forall_eq, forall_eq_or_imp, true_implies, implies_true, forall_const, Option.elim, Nat.reduceAdd, Nat.reduceSub, Nat.reduceMul, Nat.reduceLT, Nat.reduceEqDiff, Nat.reduceLeDiff, Nat.reduceBEq, Int.reduceLE, Int.reduceLT, Int.reduceToNat, Int.reduceBNe, Int.reduceBEq, Int.reduceNeg, Int.reduceEq, Int.reduceNe, Nat.reduceBNe, Int.reduceAdd, Int.reduceSub, Int.reduceMul, Int.reducePow, Nat.reducePow, Int.reduceGT, Int.reduceGE, and_self, and_true, true_and, and_false, false_and, or_true, true_or, or_false, false_or, not_true_eq_false, not_false_eq_true, if_true, if_false, ite_true, ite_false, beq_self_eq_true, BEq.rfl, reduceCtorEq, eq_self, ne_eq, decide_true, decide_false, Function.comp_def, beq_iff_eq]
          exact h _ hs
  · have hu : r.uv = (0, r) := by simp only [RS.uv, if_neg he]
    have hn : r.nb most = (0, r) := by simp only [RS.nb, if_neg he]
    have e0 : (r.e != 0) = true := by simpa using he
    rw [hu] at hs hs'
    rw [hn] at h
    simp only [hu, hs', e0, ↓evp, evq, evr, fxa0, fxa1, fxa2, fxa3, fxu, fxn, fxl, ↓fxp, absL, fitL, flatL, aput, ares, ares1, ofVal, unSc, aload, afill, splice, abound, asI, elems, IntKind.bits, sortT, eqNil, closedL, allByte, patch, pendOK, numA, Value.cells, Value.oneCell', ibin, List.replicate, false_implies, forall_eq, forall_eq_or_imp, true_implies, implies_true, forall_const, Option.elim, Nat.reduceAdd, Nat.reduceSub, Nat.reduceMul, Nat.reduceLT, Nat.reduceEqDiff, Nat.reduceLeDiff, Nat.reduceBEq, Int.reduceLE, Int.reduceLT, Int.reduceToNat, Int.reduceBNe, Int.reduceBEq, Int.reduceNeg, Int.reduceEq, Int.reduceNe, Nat.reduceBNe, Int.reduceAdd, Int.reduceSub, Int.reduceMul, Int.reducePow, Nat.reducePow, Int.reduceGT, Int.reduceGE, and_self, and_true, true_and, and_false, false_and, or_true, true_or, or_false, false_or, not_true_eq_false, not_false_eq_true, if_true, if_false, ite_true, ite_false, beq_self_eq_true, BEq.rfl, reduceCtorEq, eq_self, ne_eq, decide_true, decide_false, Function.comp_def, beq_iff_eq]
    exact h _ hs
theorem r_Done (ho : r.ok) (hr : st[id]? = some (.cells (r.c bv))) (hb : Cut Try.prog st 5 bv (bs r.b) r.b.length) (h : K (.sc (.int .i64 r.dn)) st) : acallF Try.prog pl (n + 1) m 69 [.ref id 0] st K := by
  rw [acallF_eq Try.func69 rfl]
  have hal := alen_rd hb.1 Try.underlying22
  have hr' := hr
  simp only [RS.c] at hr'
  unfold RS.dn at h
  by_cases he : r.e = 0
  · have e0 : (r.e == 0) = true := by simpa using he
    rw [if_pos he] at h
    by_cases hl : r.at_ < r.b.length
    · have d : decide ((r.at_ : Int) < r.b.length) = true := decide_eq_true (by omega)
      rw [if_pos hl] at h
      simp only [hr', hal, e0, d, ↓evp, evq, evr, fxa0, fxa1, fxa2, fxa3, fxu, fxn, fxl, ↓fxp, absL, fitL, flatL, aput, ares, ares1, ofVal, unSc, aload, afill, splice, abound, asI, elems, IntKind.bits, sortT, eqNil, closedL, allByte, patch, pendOK, numA, Value.cells, Value.oneCell', ibin, List.replicate, false_implies, forall_eq, forall_eq_or_imp, true_implies, implies_true, forall_const, Option.elim, Nat.reduceAdd, Nat.reduceSub, Nat.reduceMul, Nat.reduceLT, Nat.reduceEqDiff, Nat.reduceLeDiff, Nat.reduceBEq, Int.reduceLE, Int.reduceLT, Int.reduceToNat, Int.reduceBNe, Int.reduceBEq, Int.reduceNeg, Int.reduceEq, Int.reduceNe, Nat.reduceBNe, Int.reduceAdd, Int.reduceSub, Int.reduceMul, Int.reducePow, Nat.reducePow, Int.reduceGT, Int.reduceGE, and_self, and_true, true_and, and_false, false_and, or_true, true_or, or_false, false_or, not_true_eq_false, not_false_eq_true, if_true, if_false, ite_true, ite_false, beq_self_eq_true, BEq.rfl, reduceCtorEq, eq_self, ne_eq, decide_true, decide_false, Function.comp_def, beq_iff_eq]
      exact h
    · have d : decide ((r.at_ : Int) < r.b.length) = false := decide_eq_false (by omega)
      rw [if_neg hl, ← he] at h
      simp only [hr', hal, e0, d, ↓evp, evq, evr, fxa0, fxa1, fxa2, fxa3, fxu, fxn, fxl, ↓fxp, absL, fitL, flatL, aput, ares, ares1, ofVal, unSc, aload, afill, splice, abound, asI, elems, IntKind.bits, sortT, eqNil, closedL, allByte, patch, pendOK, numA, Value.cells, Value.oneCell', ibin, List.replicate, false_implies, forall_eq, forall_eq_or_imp, true_implies, implies_true, forall_const, Option.elim, Nat.reduceAdd, Nat.reduceSub, Nat.reduceMul, Nat.reduceLT, Nat.reduceEqDiff, Nat.reduceLeDiff, Nat.reduceBEq, Int.reduceLE, Int.reduceLT, Int.reduceToNat, Int.reduceBNe, Int.reduceBEq, Int.reduceNeg, Int.reduceEq, Int.reduceNe, Nat.reduceBNe, Int.reduceAdd, Int.reduceSub, Int.reduceMul, Int.reducePow, Nat.reducePow, Int.reduceGT, Int.reduceGE, and_self, and_true, true_and, and_false, false_and, or_true, true_or, or_false, false_or, not_true_eq_false, not_false_eq_true, if_true, if_false, ite_true, ite_false, beq_self_eq_true, BEq.rfl, reduceCtorEq, eq_self, ne_eq, decide_true, decide_false, Function.comp_def, beq_iff_eq]
      exact h
  · have e0 : (r.e == 0) = false := by simpa using he
    rw [if_neg he] at h
    simp only [hr', hal, e0, ↓evp, evq, evr, fxa0, fxa1, fxa2, fxa3, fxu, fxn, fxl, ↓fxp, absL, fitL, flatL, aput, ares, ares1, ofVal, unSc, aload, afill, splice, abound, asI, elems, IntKind.bits, sortT, eqNil, closedL, allByte, patch, pendOK, numA, Value.cells, Value.oneCell', ibin, List.replicate, false_implies, forall_eq, forall_eq_or_imp, true_implies, implies_true, forall_const, Option.elim, Nat.reduceAdd, Nat.reduceSub, Nat.reduceMul, Nat.reduceLT, Nat.reduceEqDiff, Nat.reduceLeDiff, Nat.reduceBEq, Int.reduceLE, Int.reduceLT, Int.reduceToNat, Int.reduceBNe, Int.reduceBEq, Int.reduceNeg, Int.reduceEq, Int.reduceNe, Nat.reduceBNe, Int.reduceAdd, Int.reduceSub, Int.reduceMul, Int.reducePow, Nat.reducePow, Int.reduceGT, Int.reduceGE, and_self, and_true, true_and, and_false, false_and, or_true, true_or, or_false, false_or, not_true_eq_false, not_false_eq_true, if_true, if_false, ite_true, ite_false, beq_self_eq_true, BEq.rfl, reduceCtorEq, eq_self, ne_eq, decide_true, decide_false, Function.comp_def, beq_iff_eq]
    exact h
end
end Go.Proofs.Ytfndpnmdjblokaa
