/- The reader: what it takes. -/
import Derived.Test.YtfndpnmdjblokaaW9
set_option linter.unusedVariables false
set_option linter.unusedSimpArgs false
set_option maxRecDepth 10000
namespace Go.Proofs.Ytfndpnmdjblokaa
open Go Go.M Go.RowKit
attribute [local congr] acallF_cong aloop_cong bcase_cong resK_cong valK_cong wantK_cong callK_cong xputK_cong qputK_cong
attribute [local irreducible] seqK blockK loopK nextK bcase resK valK wantK funK putK dputK xputK qputK callK aops aop acode adraw aloop acallF acall invK
section
variable {n m id : Nat} {bv : V} {r : RS} {st : List Ob} {K : V → List Ob → Prop}
theorem p_take {k : Nat} (ho : r.ok) (hr : st[id]? = some (.cells (r.c bv))) (hb : Cut Try.prog st 5 bv (bs r.b) r.b.length) (hk : k < 4611686018427387904)
    (h0 : ∀ s, (r.tk k).1 = none → Trn st id (RS.c bv (r.tk k).2) s → K (.tsl [] 0 true true) s)
    (h1 : ∀ l v s, (r.tk k).1 = some l → Trn st id (RS.c bv (r.tk k).2) s → Cut Try.prog s 5 v (bs l) l.length → K v s) : acallF Try.prog pl (n + 2) m 61 [.ref id 0, .sc (.int .i64 k)] st K := by
  rw [acallF_eq Try.func61 rfl]
  simp only [↓evp, evq, evr, fxa0, fxa1, fxa2, fxa3, fxu, fxn, fxl, ↓fxp, absL, fitL, flatL, aput, ares, ares1, ofVal, unSc, aload, afill, splice, abound, asI, elems, IntKind.bits, sortT, eqNil, closedL, allByte, patch, pendOK, numA, Value.cells, Value.oneCell', ibin, List.replicate, false_implies, forall_eq, forall_eq_or_imp, true_implies, implies_true, forall_const, Option.elim, Nat.reduceAdd, Nat.reduceSub, Nat.reduceMul, Nat.reduceLT, Nat.reduceEqDiff, Nat.reduceLeDiff, Nat.reduceBEq, Int.reduceLE, Int.reduceLT, Int.reduceToNat, Int.reduceBNe, Int.reduceBEq, Int.reduceNeg, Int.reduceEq, Int.reduceNe, Nat.reduceBNe, Int.reduceAdd, Int.reduceSub, Int.reduceMul, Int.reducePow, Nat.reducePow, Int.reduceGT, Int.reduceGE, and_self, and_true, true_and, and_false, false_and, or_true, true_or, or_false, false_or, not_true_eq_false, not_false_eq_true, if_true, if_false, ite_true, ite_false, beq_self_eq_true, BEq.rfl, reduceCtorEq, eq_self, ne_eq, decide_true, decide_false, Function.comp_def, beq_iff_eq]
  refine p_fine hr ?_
  by_cases he : r.e = 0
  · have e0 : (r.e == 0) = true := by simpa using he
    have hat := ho.at_
    have hlen := ho.len
    have hl := alen_rd hb.1 Try.underlying22
    have hr' := hr
    simp only [RS.c] at hr'
    have a1 : IntKind.i64.wrap ((r.b.length : Int) - r.at_) = ((r.b.length - r.at_ : Nat) : Int) := by rw [IntWalk.i64_in _ (by omega)]; omega
    by_cases hg : k + r.at_ > r.b.length
    · have d : decide ((k : Int) > ((r.b.length - r.at_ : Nat) : Int)) = true := decide_eq_true (by omega)
      have hu : r.tk k = (none, { r with e := 5 }) := by simp only [RS.tk, if_pos he, if_pos hg]
      rw [hu] at h0
      simp only [e0, hr', hl, a1, d, ↓evp, evq, evr, fxa0, fxa1, fxa2, fxa3, fxu, fxn, fxl, ↓fxp, absL, fitL, flatL, aput, ares, ares1, ofVal, unSc, aload, afill, splice, abound, asI, elems, IntKind.bits, sortT, eqNil, closedL, allByte, patch, pendOK, numA, Value.cells, Value.oneCell', ibin, List.replicate, false_implies, forall_eq, forall_eq_or_imp, true_implies, implies_true, forall_const, Option.elim, Nat.reduceAdd, Nat.reduceSub, Nat.reduceMul, Nat.reduceLT, Nat.reduceEqDiff, Nat.reduceLeDiff, Nat.reduceBEq, Int.reduceLE, Int.reduceLT, Int.reduceToNat, Int.reduceBNe, Int.reduceBEq, Int.reduceNeg, Int.reduceEq, Int.reduceNe, Nat.reduceBNe, Int.reduceAdd, Int.reduceSub, Int.reduceMul, Int.reducePow, Nat.reducePow, Int.reduceGT, Int.reduceGE, and_self, and_true, true_and, and_false, false_and, or_true, true_or, or_false, false_or, not_true_eq_false, not_false_eq_true, if_true, if_false, ite_true, ite_false, beq_self_eq_true, BEq.rfl, reduceCtorEq, eq_self, ne_eq, decide_true, decide_false, Function.comp_def, beq_iff_eq]
      refine p_fail hr fun s hs => ?_
      simp only [if_pos he] at hs
      simp only [↓evp, evq, evr, fxa0, fxa1, fxa2, fxa3, fxu, fxn, fxl, ↓fxp, absL, fitL, flatL, aput, ares, ares1, ofVal, unSc, aload, afill, splice, abound, asI, elems, IntKind.bits, sortT, eqNil, closedL, allByte, patch, pendOK, numA, Value.cells, Value.oneCell', ibin, List.replicate, false_implies, forall_eq, forall_eq_or_imp, true_implies, implies_true, forall_const, Option.elim, Nat.reduceAdd, Nat.reduceSub, Nat.reduceMul, Nat.reduceLT, Nat.reduceEqDiff, Nat.reduceLeDiff, Nat.reduceBEq, Int.reduceLE, Int.reduceLT, Int.reduceToNat, Int.reduceBNe, Int.reduceBEq, Int.reduceNeg, Int.reduceEq, Int.reduceNe, Nat.reduceBNe, Int.reduceAdd, Int.reduceSub, Int.reduceMul, Int.reducePow, Nat.reducePow, Int.reduceGT, Int.reduceGE, and_self, and_true, true_and, and_false, false_and, or_true, true_or, or_false, false_or, not_true_eq_false, not_false_eq_true, if_true, if_false, ite_true, ite_false, beq_self_eq_true, BEq.rfl, reduceCtorEq, eq_self, ne_eq, decide_true, decide_false, Function.comp_def, beq_iff_eq]
      exact h0 s rfl hs
    · have d : decide ((k : Int) > ((r.b.length - r.at_ : Nat) : Int)) = false := decide_eq_false (by omega)
      have hu : r.tk k = (some ((r.b.drop r.at_).take k), { r with at_ := r.at_ + k }) := by simp only [RS.tk, if_pos he, if_neg hg]
      rw [hu] at h1
      have a2 : IntKind.i64.wrap ((r.at_ : Int) + (k : Int)) = ((r.at_ + k : Nat) : Int) := by rw [IntWalk.i64_in _ (by omega)]; rfl
      have a3 : IntKind.i64.wrap (((r.at_ + k : Nat) : Int) - (k : Int)) = (r.at_ : Int) := by rw [IntWalk.i64_in _ (by omega)]; omega
      have ht : Trn st id (RS.c bv { r with at_ := r.at_ + k }) (st.set id (.cells (RS.c bv { r with at_ := r.at_ + k }))) := .set hr
      obtain ⟨v', hs, hv⟩ := cut_mid (hb.trn hr ht) (lo := r.at_) (hi := r.at_ + k) (by omega) (by omega)
      rw [Nat.add_sub_cancel_left] at hv
      simp only [RS.c] at hs
      have hg' := fun x => get_set hr x
      simp only [e0, hr', hl, a1, a2, a3, d, hg', hs, ↓evp, evq, evr, fxa0, fxa1, fxa2, fxa3, fxu, fxn, fxl, ↓fxp, absL, fitL, flatL, aput, ares, ares1, ofVal, unSc, aload, afill, splice, abound, asI, elems, IntKind.bits, sortT, eqNil, closedL, allByte, patch, pendOK, numA, Value.cells, Value.oneCell', ibin, List.replicate, false_implies, forall_eq, forall_eq_or_imp, true_implies, implies_true, forall_const, Option.elim, Nat.reduceAdd, Nat.reduceSub, Nat.reduceMul, Nat.reduceLT, Nat.reduceEqDiff, Nat.reduceLeDiff, Nat.reduceBEq, Int.reduceLE, Int.reduceLT, Int.reduceToNat, Int.reduceBNe, Int.reduceBEq, Int.reduceNeg, Int.reduceEq, Int.reduceNe, Nat.reduceBNe, Int.reduceAdd, Int.reduceSub, Int.reduceMul, Int.reducePow, Nat.reducePow, Int.reduceGT, Int.reduceGE, and_self, and_true, true_and, and_false, false_and, or_true, true_or, or_false, false_or, not_true_eq_false, not_false_eq_true, if_true, if_false, ite_true, ite_false, beq_self_eq_true, BEq.rfl, reduceCtorEq, eq_self, ne_eq, decide_true, decide_false, Function.comp_def, beq_iff_eq]
      exact h1 _ _ _ rfl ht hv
  · have e0 : (r.e == 0) = false := by simpa using he
    have hu : r.tk k = (none, r) := by simp only [RS.tk, if_neg he]
    rw [hu] at h0
    simp only [e0, ↓evp, evq, evr, fxa0, fxa1, fxa2, fxa3, fxu, fxn, fxl, ↓fxp, absL, fitL, flatL, aput, ares, ares1, ofVal, unSc, aload, afill, splice, abound, asI, elems, IntKind.bits, sortT, eqNil, closedL, allByte, patch, pendOK, numA, Value.cells, Value.oneCell', ibin, List.replicate, false_implies, forall_eq, forall_eq_or_imp, true_implies, implies_true, forall_const, Option.elim, Nat.reduceAdd, Nat.reduceSub, Nat.reduceMul, Nat.reduceLT, Nat.reduceEqDiff, Nat.reduceLeDiff, Nat.reduceBEq, Int.reduceLE, Int.reduceLT, Int.reduceToNat, Int.reduceBNe, Int.reduceBEq, Int.reduceNeg, Int.reduceEq, Int.reduceNe, Nat.reduceBNe, Int.reduceAdd, Int.reduceSub, Int.reduceMul, Int.reducePow, Nat.reducePow, Int.reduceGT, Int.reduceGE, and_self, and_true, true_and, and_false, false_and, or_true, true_or, or_false, false_or, not_true_eq_false, not_false_eq_true, if_true, if_false, ite_true, ite_false, beq_self_eq_true, BEq.rfl, reduceCtorEq, eq_self, ne_eq, decide_true, decide_false, Function.comp_def, beq_iff_eq]
    exact h0 _ rfl (.same hr)
theorem tk_len {k : Nat} {l : List Int} (h : (r.tk k).1 = some l) : l.length = k ∧ (r.ok → ∀ c ∈ l, 0 ≤ c ∧ c < 256) := by
  unfold RS.tk at h
  split at h
  · split at h
    · cases h
    · simp only [Option.some.injEq] at h
      subst h
      refine ⟨by rw [List.length_take, List.length_drop]; omega, fun ho c hc => ho.b c (List.drop_subset _ _ (List.take_subset _ _ hc))⟩
  · cases h
theorem p_low4 {v : V} {a b c d : Int} {l : List Int} (hv : Cut Try.prog st 5 v (bs (a :: b :: c :: d :: l)) (a :: b :: c :: d :: l).length) (h : ∀ x ∈ a :: b :: c :: d :: l, 0 ≤ x ∧ x < 256) (hK : K (.sc (.int .u32 (le [a, b, c, d]))) st) : acallF Try.prog pl (n + 1) m 62 [v] st K := by
  rw [acallF_eq Try.func62 rfl]
  have ha := h a (by simp)
  have hb := h b (by simp)
  have hc := h c (by simp)
  have hd := h d (by simp)
  have p0 := ix_cut hv (i := 0) (by simp)
  have p1 := ix_cut hv (i := 1) (by simp)
  have p2 := ix_cut hv (i := 2) (by simp)
  have p3 := ix_cut hv (i := 3) (by simp)
  simp only [Int.cast_ofNat_Int, List.getElem_cons_zero, List.getElem_cons_succ, Int.natCast_zero, Int.natCast_one] at p0 p1 p2 p3
  have w0 : ∀ x : Int, 0 ≤ x ∧ x < 256 → IntKind.u32.wrap x = x := fun x hx => IntWalk.u32_in _ (by omega)
  have s1 : IntKind.u32.wrap (b * 2 ^ min 8 32) = b * 256 := by show IntKind.u32.wrap (b * 256) = _; exact IntWalk.u32_in _ (by omega)
  have s2 : IntKind.u32.wrap (c * 2 ^ min 16 32) = c * 65536 := by show IntKind.u32.wrap (c * 65536) = _; exact IntWalk.u32_in _ (by omega)
  have s3 : IntKind.u32.wrap (d * 2 ^ min 24 32) = d * 16777216 := by show IntKind.u32.wrap (d * 16777216) = _; exact IntWalk.u32_in _ (by omega)
  have o1 : bits .or .u32 a (b * 256) = a + b * 256 := by
    rw [u32_or _ _ (by omega) (by omega) (by omega) (by omega), show (b * 256).toNat = b.toNat * 2 ^ 8 by omega, shl_or (by omega)]; omega
  have o2 : bits .or .u32 (a + b * 256) (c * 65536) = a + b * 256 + c * 65536 := by
    rw [u32_or _ _ (by omega) (by omega) (by omega) (by omega), show (c * 65536).toNat = c.toNat * 2 ^ 16 by omega, shl_or (by omega)]; omega
  have o3 : bits .or .u32 (a + b * 256 + c * 65536) (d * 16777216) = (le [a, b, c, d] : Int) := by
    rw [u32_or _ _ (by omega) (by omega) (by omega) (by omega), show (d * 16777216).toNat = d.toNat * 2 ^ 24 by omega, shl_or (by omega)]
    simp only [le]; omega
  simp only [p0, p1, p2, p3, w0 a ha, w0 b hb, w0 c hc, w0 d hd, s1, s2, s3, o1, o2, o3, ↓evp, evq, evr, fxa0, fxa1, fxa2, fxa3, fxu, fxn, fxl, ↓fxp, absL, fitL, flatL, aput, ares, ares1, ofVal, unSc, aload, afill, splice, abound, asI, elems, IntKind.bits, sortT, eqNil, closedL, allByte, patch, pendOK, numA, Value.cells, Value.oneCell', ibin, List.replicate, false_implies, forall_eq, forall_eq_or_imp, true_implies, implies_true, forall_const, Option.elim, Nat.reduceAdd, Nat.reduceSub, Nat.reduceMul, Nat.reduceLT, Nat.reduceEqDiff, Nat.reduceLeDiff, Nat.reduceBEq, Int.reduceLE, Int.reduceLT, Int.reduceToNat, Int.reduceBNe, Int.reduceBEq, Int.reduceNeg, Int.reduceEq, Int.reduceNe, Nat.reduceBNe, Int.reduceAdd, Int.reduceSub, Int.reduceMul, Int.reducePow, Nat.reducePow, Int.reduceGT, Int.reduceGE, and_self, and_true, true_and, and_false, false_and, or_true, true_or, or_false, false_or, not_true_eq_false, not_false_eq_true, if_true, if_false, ite_true, ite_false, beq_self_eq_true, BEq.rfl, reduceCtorEq, eq_self, ne_eq, decide_true, decide_false, Function.comp_def, beq_iff_eq]
  exact hK
end
end Go.Proofs.Ytfndpnmdjblokaa
