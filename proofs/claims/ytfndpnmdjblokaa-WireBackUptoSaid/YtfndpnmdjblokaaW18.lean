/- WireBack, the law. -/
import Derived.Test.YtfndpnmdjblokaaW17
import Derived.Test.YtfndpnmdjblokaaW7
set_option linter.unusedVariables false
set_option linter.unusedSimpArgs false
set_option maxRecDepth 10000
namespace Go.Proofs.Ytfndpnmdjblokaa
open Go Go.M Go.RowKit
attribute [local congr] acallF_cong aloop_cong bcase_cong resK_cong valK_cong wantK_cong callK_cong xputK_cong qputK_cong
attribute [local irreducible] seqK blockK loopK nextK bcase resK valK wantK funK putK dputK xputK qputK callK aops aop acode adraw aloop acallF acall invK
/-- The holes of a frame. -/
def hol (L : List V) (k : Nat) : V := L.getD k V.dead
/-- How many bytes all have, at most. -/
theorem wr_total {l : List Itm} (hok : ∀ a ∈ l, a.ok) : (l.flatMap Itm.wr).length ≤ 10 * bulkVl (l.flatMap Itm.v) := by
  induction l with
  | nil => simp
  | cons a l ih =>
    rw [List.flatMap_cons, List.flatMap_cons, List.length_append, bulkVl_append, Itm.bulk]
    have := Itm.wr_len (hok a (by simp))
    have := ih (fun b hb => hok b (by simp [hb]))
    omega
theorem wr_bytes {a : Itm} (h : a.ok) : ∀ c ∈ a.wr, 0 ≤ c ∧ c < 256 := by
  have hu : ∀ x, ∀ c ∈ uvb x, 0 ≤ c ∧ c < 256 := fun x => by
    induction x using Nat.strongRecOn with
    | ind x ih =>
      intro c hc
      by_cases h : x < 128
      · rw [uvb_lt h] at hc; simp at hc; omega
      · rw [uvb_ge h] at hc
        rcases List.mem_cons.1 hc with rfl | hc
        · omega
        · exact ih _ (by omega) c hc
  have hf : ∀ k x, ∀ c ∈ fxb x k, 0 ≤ c ∧ c < 256 := fun k => by
    induction k with
    | zero => intro x c hc; simp [fxb] at hc
    | succ k ih =>
      intro x c hc
      rw [fxb] at hc
      rcases List.mem_cons.1 hc with rfl | hc
      · omega
      · exact ih _ c hc
  unfold Itm.wr
  intro c hc
  repeat' split at hc
  · exact hu _ c hc
  · exact hu _ c hc
  · exact hf _ _ c hc
  · exact hf _ _ c hc
  · rcases List.mem_append.1 hc with hc | hc
    · exact hu _ c hc
    · exact h.b c hc
  · simp at hc
set_option maxHeartbeats 1000000 in
theorem l02_WireBack {m : Nat} {tl : V} {l : List Itm} (ht : ∀ s, Rd Try.prog s 28 tl (l.flatMap Itm.v) l.length) (hok : ∀ a ∈ l, a.ok)
    (hb2 : bulkVl (l.flatMap Itm.v) ≤ 1048576) (hm : 1048576 < m) : acallF Try.prog pl 8 m 5 [tl] [] fun v _ => v = .sc (.bool true) := by
  have hW := wr_total hok
  have hll := Itm.count l
  have hal := fun s => alen_rd (ht s) Try.underlying23
  have hbi : ∀ i (h : i < l.length), l[i].b.length ≤ 1048576 := fun i hil => by
    have : 4 + l[i].b.length ≤ bulkVl (l.flatMap Itm.v) := by
      rw [← Itm.bulk]
      conv => rhs; rw [← List.take_append_drop i l, List.drop_eq_getElem_cons hil, List.flatMap_append, List.flatMap_cons, bulkVl_append, bulkVl_append]
      omega
    omega
  rw [acallF_eq Try.func5 rfl]
  simp only [↓evp, evq, evr, fxa0, fxa1, fxa2, fxa3, fxu, fxn, fxl, ↓fxp, absL, fitL, flatL, aput, ares, ares1, ofVal, unSc, aload, afill, splice, abound, asI, elems, IntKind.bits, sortT, eqNil, closedL, allByte, patch, pendOK, numA, Value.cells, Value.oneCell', ibin, List.replicate, false_implies, forall_eq, forall_eq_or_imp, true_implies, implies_true, forall_const, Option.elim, Nat.reduceAdd, Nat.reduceSub, Nat.reduceMul, Nat.reduceLT, Nat.reduceEqDiff, Nat.reduceLeDiff, Nat.reduceBEq, Int.reduceLE, Int.reduceLT, Int.reduceToNat, Int.reduceBNe, Int.reduceBEq, Int.reduceNeg, Int.reduceEq, Int.reduceNe, Nat.reduceBNe, Int.reduceAdd, Int.reduceSub, Int.reduceMul, Int.reducePow, Nat.reducePow, Int.reduceGT, Int.reduceGE, and_self, and_true, true_and, and_false, false_and, or_true, true_or, or_false, false_or, not_true_eq_false, not_false_eq_true, if_true, if_false, ite_true, ite_false, beq_self_eq_true, BEq.rfl, reduceCtorEq, eq_self, ne_eq, decide_true, decide_false, Function.comp_def, beq_iff_eq]
  refine aloop_for (fun k t s => ∃ i b, k + i = m ∧ i ≤ l.length ∧ Rd Try.prog s 5 b (bs ((l.take i).flatMap Itm.wr)) ((l.take i).flatMap Itm.wr).length ∧
    ∃ hf : Nat → V, t = [tl, hf 1, hf 2, b, .sc (.int .i64 i), hf 5, hf 6, hf 7, hf 8, hf 9, hf 10, hf 11, hf 12, hf 13, hf 14, hf 15, hf 16, hf 17, hf 18, hf 19, hf 20, hf 21, hf 22, hf 23, hf 24, hf 25, hf 26, hf 27, hf 28, hf 29, hf 30, hf 31, hf 32, hf 33, hf 34, hf 35, hf 36, hf 37, hf 38, hf 39, hf 40, hf 41, hf 42, hf 43, hf 44, hf 45, hf 46, hf 47, hf 48, hf 49, hf 50, hf 51, hf 52, hf 53, hf 54, hf 55, hf 56, hf 57, hf 58, hf 59, hf 60, hf 61, hf 62, hf 63, hf 64, hf 65, hf 66, hf 67, hf 68, hf 69, hf 70, hf 71, hf 72, hf 73, hf 74, hf 75, hf 76, hf 77, hf 78, hf 79, hf 80, hf 81, hf 82, hf 83, hf 84, hf 85, hf 86, hf 87, hf 88, hf 89, hf 90, hf 91, hf 92, hf 93, hf 94, hf 95, hf 96, hf 97, hf 98, hf 99, hf 100, hf 101, hf 102, hf 103]) ⟨0, .tsl [] 0 true true, by omega, by omega, by simpa using nil_rd, (hol [V.dead, _, _, V.dead, V.dead, _, _, _, _, _, _, _, _, _, _, _, _, _, _, _, _, _, _, _, _, _, _, _, _, _, _, _, _, _, _, _, _, _, _, _, _, _, _, _, _, _, _, _, _, _, _, _, _, _, _, _, _, _, _, _, _, _, _, _, _, _, _, _, _, _, _, _, _, _, _, _, _, _, _, _, _, _, _, _, _, _, _, _, _, _, _, _, _, _, _, _, _, _, _, _, _, _, _, _]), rfl⟩ ?_
  rintro I' hI' k t s ⟨i, b, hk, hi, hb, hf, rfl⟩
  refine ⟨k - 1, by omega, ?_⟩
  have hL := flatMap_take_len (g := Itm.wr) l i
  by_cases hil : i < l.length
  · have d : decide ((i : Int) < l.length) = true := decide_eq_true (by omega)
    obtain ⟨p1, p2⟩ := ix_flat (f := Itm.v) (fun a => rfl) (ht s) Try.underlying23 sz28 ag28 (by omega) hil
    have hwr : IntKind.i64.wrap ((i : Int) + 1) = ((i + 1 : Nat) : Int) := by rw [IntWalk.i64_in _ (by omega)]; rfl
    have hbl := hbi i hil
    simp only [hal, d, p1, p2, ↓evp, evq, evr, fxa0, fxa1, fxa2, fxa3, fxu, fxn, fxl, ↓fxp, absL, fitL, flatL, aput, ares, ares1, ofVal, unSc, aload, afill, splice, abound, asI, elems, IntKind.bits, sortT, eqNil, closedL, allByte, patch, pendOK, numA, Value.cells, Value.oneCell', ibin, List.replicate, false_implies, forall_eq, forall_eq_or_imp, true_implies, implies_true, forall_const, Option.elim, Nat.reduceAdd, Nat.reduceSub, Nat.reduceMul, Nat.reduceLT, Nat.reduceEqDiff, Nat.reduceLeDiff, Nat.reduceBEq, Int.reduceLE, Int.reduceLT, Int.reduceToNat, Int.reduceBNe, Int.reduceBEq, Int.reduceNeg, Int.reduceEq, Int.reduceNe, Nat.reduceBNe, Int.reduceAdd, Int.reduceSub, Int.reduceMul, Int.reducePow, Nat.reducePow, Int.reduceGT, Int.reduceGE, and_self, and_true, true_and, and_false, false_and, or_true, true_or, or_false, false_or, not_true_eq_false, not_false_eq_true, if_true, if_false, ite_true, ite_false, beq_self_eq_true, BEq.rfl, reduceCtorEq, eq_self, ne_eq, decide_true, decide_false, Function.comp_def, beq_iff_eq]
    refine l02_written (hok _ (List.getElem_mem hil)) hb (by omega) (by omega) fun c more s' hg hc hmore => ?_
    simp only [hwr, ↓evp, evq, evr, fxa0, fxa1, fxa2, fxa3, fxu, fxn, fxl, ↓fxp, absL, fitL, flatL, aput, ares, ares1, ofVal, unSc, aload, afill, splice, abound, asI, elems, IntKind.bits, sortT, eqNil, closedL, allByte, patch, pendOK, numA, Value.cells, Value.oneCell', ibin, List.replicate, false_implies, forall_eq, forall_eq_or_imp, true_implies, implies_true, forall_const, Option.elim, Nat.reduceAdd, Nat.reduceSub, Nat.reduceMul, Nat.reduceLT, Nat.reduceEqDiff, Nat.reduceLeDiff, Nat.reduceBEq, Int.reduceLE, Int.reduceLT, Int.reduceToNat, Int.reduceBNe, Int.reduceBEq, Int.reduceNeg, Int.reduceEq, Int.reduceNe, Nat.reduceBNe, Int.reduceAdd, Int.reduceSub, Int.reduceMul, Int.reducePow, Nat.reducePow, Int.reduceGT, Int.reduceGE, and_self, and_true, true_and, and_false, false_and, or_true, true_or, or_false, false_or, not_true_eq_false, not_false_eq_true, if_true, if_false, ite_true, ite_false, beq_self_eq_true, BEq.rfl, reduceCtorEq, eq_self, ne_eq, decide_true, decide_false, Function.comp_def, beq_iff_eq]
    have e : (l.take (i + 1)).flatMap Itm.wr = (l.take i).flatMap Itm.wr ++ l[i].wr := flatMap_take_succ _ _ hil
    refine hI' _ _ _ ⟨i + 1, c, by omega, hil, ?_, (hol [V.dead, _, _, V.dead, V.dead, _, _, _, _, _, _, _, _, _, _, _, _, _, _, _, _, _, _, _, _, _, _, _, _, _, _, _, _, _, _, _, _, _, _, _, _, _, _, _, _, _, _, _, _, _, _, _, _, _, _, _, _, _, _, _, _, _, _, _, _, _, _, _, _, _, _, _, _, _, _, _, _, _, _, _, _, _, _, _, _, _, _, _, _, _, _, _, _, _, _, _, _, _, _, _, _, _, _, _]), rfl⟩
    rw [e]; exact hc
  · have d : decide ((i : Int) < l.length) = false := decide_eq_false (by omega)
    obtain rfl : i = l.length := by omega
    rw [List.take_length] at hb hL
    simp only [hal, d, ↓evp, evq, evr, fxa0, fxa1, fxa2, fxa3, fxu, fxn, fxl, ↓fxp, absL, fitL, flatL, aput, ares, ares1, ofVal, unSc, aload, afill, splice, abound, asI, elems, IntKind.bits, sortT, eqNil, closedL, allByte, patch, pendOK, numA, Value.cells, Value.oneCell', ibin, List.replicate, false_implies, forall_eq, forall_eq_or_imp, true_implies, implies_true, forall_const, Option.elim, Nat.reduceAdd, Nat.reduceSub, Nat.reduceMul, Nat.reduceLT, Nat.reduceEqDiff, Nat.reduceLeDiff, Nat.reduceBEq, Int.reduceLE, Int.reduceLT, Int.reduceToNat, Int.reduceBNe, Int.reduceBEq, Int.reduceNeg, Int.reduceEq, Int.reduceNe, Nat.reduceBNe, Int.reduceAdd, Int.reduceSub, Int.reduceMul, Int.reducePow, Nat.reducePow, Int.reduceGT, Int.reduceGE, and_self, and_true, true_and, and_false, false_and, or_true, true_or, or_false, false_or, not_true_eq_false, not_false_eq_true, if_true, if_false, ite_true, ite_false, beq_self_eq_true, BEq.rfl, reduceCtorEq, eq_self, ne_eq, decide_true, decide_false, Function.comp_def, beq_iff_eq]
    refine p_Read hb (fun hn => List.eq_nil_of_length_eq_zero (hb.2.1.2 hn)) (by omega) fun bp ip s1 hg1 hip hp hcp => ?_
    clear hI' I'
    simp only [↓evp, evq, evr, fxa0, fxa1, fxa2, fxa3, fxu, fxn, fxl, ↓fxp, absL, fitL, flatL, aput, ares, ares1, ofVal, unSc, aload, afill, splice, abound, asI, elems, IntKind.bits, sortT, eqNil, closedL, allByte, patch, pendOK, numA, Value.cells, Value.oneCell', ibin, List.replicate, false_implies, forall_eq, forall_eq_or_imp, true_implies, implies_true, forall_const, Option.elim, Nat.reduceAdd, Nat.reduceSub, Nat.reduceMul, Nat.reduceLT, Nat.reduceEqDiff, Nat.reduceLeDiff, Nat.reduceBEq, Int.reduceLE, Int.reduceLT, Int.reduceToNat, Int.reduceBNe, Int.reduceBEq, Int.reduceNeg, Int.reduceEq, Int.reduceNe, Nat.reduceBNe, Int.reduceAdd, Int.reduceSub, Int.reduceMul, Int.reducePow, Nat.reducePow, Int.reduceGT, Int.reduceGE, and_self, and_true, true_and, and_false, false_and, or_true, true_or, or_false, false_or, not_true_eq_false, not_false_eq_true, if_true, if_false, ite_true, ite_false, beq_self_eq_true, BEq.rfl, reduceCtorEq, eq_self, ne_eq, decide_true, decide_false, Function.comp_def, beq_iff_eq]
    generalize hT : l.flatMap Itm.wr = T at *
    have hTb : ∀ c ∈ T, 0 ≤ c ∧ c < 256 := fun c hc => by
      rw [← hT] at hc
      obtain ⟨a, ha, hc⟩ := List.mem_flatMap.1 hc
      exact wr_bytes (hok a ha) c hc
    refine aloop_for (fun k t s => ∃ i, k + i = m ∧ i ≤ l.length ∧ s[ip]? = some (.cells (RS.c bp ⟨T, ((l.take i).flatMap Itm.wr).length, 0⟩)) ∧ Cut Try.prog s 5 bp (bs T) T.length ∧
      ∃ hf : Nat → V, t = [tl, hf 1, hf 2, hf 3, hf 4, .ref ip 0, .sc (.int .i64 i), hf 7, hf 8, hf 9, hf 10, hf 11, hf 12, hf 13, hf 14, hf 15, hf 16, hf 17, hf 18, hf 19, hf 20, hf 21, hf 22, hf 23, hf 24, hf 25, hf 26, hf 27, hf 28, hf 29, hf 30, hf 31, hf 32, hf 33, hf 34, hf 35, hf 36, hf 37, hf 38, hf 39, hf 40, hf 41, hf 42, hf 43, hf 44, hf 45, hf 46, hf 47, hf 48, hf 49, hf 50, hf 51, hf 52, hf 53, hf 54, hf 55, hf 56, hf 57, hf 58, hf 59, hf 60, hf 61, hf 62, hf 63, hf 64, hf 65, hf 66, hf 67, hf 68, hf 69, hf 70, hf 71, hf 72, hf 73, hf 74, hf 75, hf 76, hf 77, hf 78, hf 79, hf 80, hf 81, hf 82, hf 83, hf 84, hf 85, hf 86, hf 87, hf 88, hf 89, hf 90, hf 91, hf 92, hf 93, hf 94, hf 95, hf 96, hf 97, hf 98, hf 99, hf 100, hf 101, hf 102, hf 103]) ⟨0, by omega, by omega, hp, hcp, (hol [V.dead, _, _, _, _, V.dead, V.dead, _, _, _, _, _, _, _, _, _, _, _, _, _, _, _, _, _, _, _, _, _, _, _, _, _, _, _, _, _, _, _, _, _, _, _, _, _, _, _, _, _, _, _, _, _, _, _, _, _, _, _, _, _, _, _, _, _, _, _, _, _, _, _, _, _, _, _, _, _, _, _, _, _, _, _, _, _, _, _, _, _, _, _, _, _, _, _, _, _, _, _, _, _, _, _, _, _]), rfl⟩ ?_
    rintro I' hI' k t s ⟨i, hk, hi, hr, hcp, hf, rfl⟩
    refine ⟨k - 1, by omega, ?_⟩
    have hsplit : T = (l.take i).flatMap Itm.wr ++ (l.drop i).flatMap Itm.wr := by rw [← hT, ← List.flatMap_append, List.take_append_drop]
    have ho : (⟨T, ((l.take i).flatMap Itm.wr).length, 0⟩ : RS).ok := ⟨by simp only; rw [hsplit, List.length_append]; omega, by simp only; omega, hTb⟩
    have hdr : T.drop ((l.take i).flatMap Itm.wr).length = (l.drop i).flatMap Itm.wr := by
      have := congrArg (List.drop ((l.take i).flatMap Itm.wr).length) hsplit
      rw [List.drop_left] at this
      exact this
    by_cases hil : i < l.length
    · have d : decide ((i : Int) < l.length) = true := decide_eq_true (by omega)
      obtain ⟨p1, p2⟩ := ix_flat (f := Itm.v) (fun a => rfl) (ht s) Try.underlying23 sz28 ag28 (by omega) hil
      have hwr : IntKind.i64.wrap ((i : Int) + 1) = ((i + 1 : Nat) : Int) := by rw [IntWalk.i64_in _ (by omega)]; rfl
      have hoi := hok _ (List.getElem_mem hil)
      have hbl := hbi i hil
      have e : ((l.take (i + 1)).flatMap Itm.wr).length = ((l.take i).flatMap Itm.wr).length + l[i].wr.length := by rw [flatMap_take_succ _ _ hil, List.length_append]
      rw [List.drop_eq_getElem_cons hil, List.flatMap_cons] at hdr
      have nxt : ∀ s', s'[ip]? = some (.cells (RS.c bp ⟨T, ((l.take i).flatMap Itm.wr).length + l[i].wr.length, 0⟩)) → Cut Try.prog s' 5 bp (bs T) T.length → ∀ t, (∃ hf : Nat → V, t = [tl, hf 1, hf 2, hf 3, hf 4, .ref ip 0, .sc (.int .i64 ((i + 1 : Nat) : Int)), hf 7, hf 8, hf 9, hf 10, hf 11, hf 12, hf 13, hf 14, hf 15, hf 16, hf 17, hf 18, hf 19, hf 20, hf 21, hf 22, hf 23, hf 24, hf 25, hf 26, hf 27, hf 28, hf 29, hf 30, hf 31, hf 32, hf 33, hf 34, hf 35, hf 36, hf 37, hf 38, hf 39, hf 40, hf 41, hf 42, hf 43, hf 44, hf 45, hf 46, hf 47, hf 48, hf 49, hf 50, hf 51, hf 52, hf 53, hf 54, hf 55, hf 56, hf 57, hf 58, hf 59, hf 60, hf 61, hf 62, hf 63, hf 64, hf 65, hf 66, hf 67, hf 68, hf 69, hf 70, hf 71, hf 72, hf 73, hf 74, hf 75, hf 76, hf 77, hf 78, hf 79, hf 80, hf 81, hf 82, hf 83, hf 84, hf 85, hf 86, hf 87, hf 88, hf 89, hf 90, hf 91, hf 92, hf 93, hf 94, hf 95, hf 96, hf 97, hf 98, hf 99, hf 100, hf 101, hf 102, hf 103]) → I' (k - 1) t s' := fun s' k1 k2 t ht => by
        refine hI' _ _ _ ⟨i + 1, by omega, hil, ?_, k2, ht⟩
        rw [e]; exact k1
      clear hI' e hsplit
      generalize ((l.take i).flatMap Itm.wr).length = at_ at *
      generalize l[i] = a at *
      obtain ⟨dd, x, b, nil, full, most⟩ := a
      obtain ⟨h1, h2, h3, h4, h5, h6⟩ := hoi
      simp only at h1 h2 h3 h4 h5 h6 hbl
      have hg0 : Grw s (s ++ [Ob.cells [V.sc (.int .i64 dd), V.sc (.int .u64 x), V.tsl (bs b) b.length nil full, V.sc (.int .i64 most)]]) := .push _ _
      have hcell : (s ++ [Ob.cells [V.sc (.int .i64 dd), V.sc (.int .u64 x), V.tsl (bs b) b.length nil full, V.sc (.int .i64 most)]])[s.length]? = some (Ob.cells [V.sc (.int .i64 dd), V.sc (.int .u64 x), V.tsl (bs b) b.length nil full, V.sc (.int .i64 most)]) := get_new0 _ _
      have hr0 := hg0 _ _ hr
      have hcp0 := hcp.grw hg0
      have hne : s.length ≠ ip := fun e => by have := (List.getElem?_eq_some_iff.1 hr).1; omega
      have hat := ho.at_
      simp only at hat
      by_cases d0 : dd = 0
      · have q0 : (dd == 0) = true := by simpa using d0
        have q1 : (dd == 1) = false := by simp; omega
        have q2 : (dd == 2) = false := by simp; omega
        have q3 : (dd == 3) = false := by simp; omega
        have q6 : (dd == 6) = false := by simp; omega
        have hw : Itm.wr ⟨dd, x, b, nil, full, most⟩ = uvb x := by simp only [Itm.wr, if_pos d0]
        rw [hw] at hdr nxt
        have hu : RS.uv ⟨T, at_, 0⟩ = (x, ⟨T, at_ + (uvb (x)).length, 0⟩) := RS.uv_back (r := ⟨T, at_, 0⟩) rfl h2 hdr
        simp only [hal, d, p1, p2, hwr, Itm.v, hcell, q0, q1, q2, q3, q6, ↓evp, evq, evr, fxa0, fxa1, fxa2, fxa3, fxu, fxn, fxl, ↓fxp, absL, fitL, flatL, aput, ares, ares1, ofVal, unSc, aload, afill, splice, abound, asI, elems, IntKind.bits, sortT, eqNil, closedL, allByte, patch, pendOK, numA, Value.cells, Value.oneCell', ibin, List.replicate, false_implies, forall_eq, forall_eq_or_imp, true_implies, implies_true, forall_const, Option.elim, Nat.reduceAdd, Nat.reduceSub, Nat.reduceMul, Nat.reduceLT, Nat.reduceEqDiff, Nat.reduceLeDiff, Nat.reduceBEq, Int.reduceLE, Int.reduceLT, Int.reduceToNat, Int.reduceBNe, Int.reduceBEq, Int.reduceNeg, Int.reduceEq, Int.reduceNe, Nat.reduceBNe, Int.reduceAdd, Int.reduceSub, Int.reduceMul, Int.reducePow, Nat.reducePow, Int.reduceGT, Int.reduceGE, and_self, and_true, true_and, and_false, false_and, or_true, true_or, or_false, false_or, not_true_eq_false, not_false_eq_true, if_true, if_false, ite_true, ite_false, beq_self_eq_true, BEq.rfl, reduceCtorEq, eq_self, ne_eq, decide_true, decide_false, Function.comp_def, beq_iff_eq]
        refine p_Uvarint ho hr0 hcp0 (by omega) fun s2 k2 => ?_
        rw [hu] at k2
        have hc2 := k2.other hcell hne
        simp only [hu, hcell, hc2, hwr, q0, q1, q2, q3, q6, bne_self_eq_false, ↓evp, evq, evr, fxa0, fxa1, fxa2, fxa3, fxu, fxn, fxl, ↓fxp, absL, fitL, flatL, aput, ares, ares1, ofVal, unSc, aload, afill, splice, abound, asI, elems, IntKind.bits, sortT, eqNil, closedL, allByte, patch, pendOK, numA, Value.cells, Value.oneCell', ibin, List.replicate, false_implies, forall_eq, forall_eq_or_imp, true_implies, implies_true, forall_const, Option.elim, Nat.reduceAdd, Nat.reduceSub, Nat.reduceMul, Nat.reduceLT, Nat.reduceEqDiff, Nat.reduceLeDiff, Nat.reduceBEq, Int.reduceLE, Int.reduceLT, Int.reduceToNat, Int.reduceBNe, Int.reduceBEq, Int.reduceNeg, Int.reduceEq, Int.reduceNe, Nat.reduceBNe, Int.reduceAdd, Int.reduceSub, Int.reduceMul, Int.reducePow, Nat.reducePow, Int.reduceGT, Int.reduceGE, and_self, and_true, true_and, and_false, false_and, or_true, true_or, or_false, false_or, not_true_eq_false, not_false_eq_true, if_true, if_false, ite_true, ite_false, beq_self_eq_true, BEq.rfl, reduceCtorEq, eq_self, ne_eq, decide_true, decide_false, Function.comp_def, beq_iff_eq]
        exact nxt _ k2.1 (hcp0.trn hr0 k2) _ ⟨(hol [V.dead, _, _, _, _, V.dead, V.dead, _, _, _, _, _, _, _, _, _, _, _, _, _, _, _, _, _, _, _, _, _, _, _, _, _, _, _, _, _, _, _, _, _, _, _, _, _, _, _, _, _, _, _, _, _, _, _, _, _, _, _, _, _, _, _, _, _, _, _, _, _, _, _, _, _, _, _, _, _, _, _, _, _, _, _, _, _, _, _, _, _, _, _, _, _, _, _, _, _, _, _, _, _, _, _, _, _]), rfl⟩
      have q0 : (dd == 0) = false := by simpa using d0
      by_cases d1 : dd = 1
      · have q1 : (dd == 1) = true := by simpa using d1
        have q2 : (dd == 2) = false := by simp; omega
        have q3 : (dd == 3) = false := by simp; omega
        have q6 : (dd == 6) = false := by simp; omega
        have hw : Itm.wr ⟨dd, x, b, nil, full, most⟩ = uvb (zz (sgn x)) := by simp only [Itm.wr, if_neg d0, if_pos d1]
        rw [hw] at hdr nxt
        have hu : RS.uv ⟨T, at_, 0⟩ = (zz (sgn x), ⟨T, at_ + (uvb (zz (sgn x))).length, 0⟩) := RS.uv_back (r := ⟨T, at_, 0⟩) rfl (zz_lt (sgn_in h2).1 (sgn_in h2).2) hdr
        have hz := zag_zz (sgn x)
        have hsw := sgn_wrap h2
        simp only [hal, d, p1, p2, hwr, Itm.v, hcell, q0, q1, q2, q3, q6, hz, hsw, ↓evp, evq, evr, fxa0, fxa1, fxa2, fxa3, fxu, fxn, fxl, ↓fxp, absL, fitL, flatL, aput, ares, ares1, ofVal, unSc, aload, afill, splice, abound, asI, elems, IntKind.bits, sortT, eqNil, closedL, allByte, patch, pendOK, numA, Value.cells, Value.oneCell', ibin, List.replicate, false_implies, forall_eq, forall_eq_or_imp, true_implies, implies_true, forall_const, Option.elim, Nat.reduceAdd, Nat.reduceSub, Nat.reduceMul, Nat.reduceLT, Nat.reduceEqDiff, Nat.reduceLeDiff, Nat.reduceBEq, Int.reduceLE, Int.reduceLT, Int.reduceToNat, Int.reduceBNe, Int.reduceBEq, Int.reduceNeg, Int.reduceEq, Int.reduceNe, Nat.reduceBNe, Int.reduceAdd, Int.reduceSub, Int.reduceMul, Int.reducePow, Nat.reducePow, Int.reduceGT, Int.reduceGE, and_self, and_true, true_and, and_false, false_and, or_true, true_or, or_false, false_or, not_true_eq_false, not_false_eq_true, if_true, if_false, ite_true, ite_false, beq_self_eq_true, BEq.rfl, reduceCtorEq, eq_self, ne_eq, decide_true, decide_false, Function.comp_def, beq_iff_eq]
        refine p_Varint ho hr0 hcp0 (by omega) fun s2 k2 => ?_
        rw [hu] at k2
        have hc2 := k2.other hcell hne
        simp only [hu, hcell, hc2, hwr, q0, q1, q2, q3, q6, bne_self_eq_false, hz, hsw, ↓evp, evq, evr, fxa0, fxa1, fxa2, fxa3, fxu, fxn, fxl, ↓fxp, absL, fitL, flatL, aput, ares, ares1, ofVal, unSc, aload, afill, splice, abound, asI, elems, IntKind.bits, sortT, eqNil, closedL, allByte, patch, pendOK, numA, Value.cells, Value.oneCell', ibin, List.replicate, false_implies, forall_eq, forall_eq_or_imp, true_implies, implies_true, forall_const, Option.elim, Nat.reduceAdd, Nat.reduceSub, Nat.reduceMul, Nat.reduceLT, Nat.reduceEqDiff, Nat.reduceLeDiff, Nat.reduceBEq, Int.reduceLE, Int.reduceLT, Int.reduceToNat, Int.reduceBNe, Int.reduceBEq, Int.reduceNeg, Int.reduceEq, Int.reduceNe, Nat.reduceBNe, Int.reduceAdd, Int.reduceSub, Int.reduceMul, Int.reducePow, Nat.reducePow, Int.reduceGT, Int.reduceGE, and_self, and_true, true_and, and_false, false_and, or_true, true_or, or_false, false_or, not_true_eq_false, not_false_eq_true, if_true, if_false, ite_true, ite_false, beq_self_eq_true, BEq.rfl, reduceCtorEq, eq_self, ne_eq, decide_true, decide_false, Function.comp_def, beq_iff_eq]
        exact nxt _ k2.1 (hcp0.trn hr0 k2) _ ⟨(hol [V.dead, _, _, _, _, V.dead, V.dead, _, _, _, _, _, _, _, _, _, _, _, _, _, _, _, _, _, _, _, _, _, _, _, _, _, _, _, _, _, _, _, _, _, _, _, _, _, _, _, _, _, _, _, _, _, _, _, _, _, _, _, _, _, _, _, _, _, _, _, _, _, _, _, _, _, _, _, _, _, _, _, _, _, _, _, _, _, _, _, _, _, _, _, _, _, _, _, _, _, _, _, _, _, _, _, _, _]), rfl⟩
      have q1 : (dd == 1) = false := by simpa using d1
      by_cases d2 : dd = 2
      · have q2 : (dd == 2) = true := by simpa using d2
        have q3 : (dd == 3) = false := by simp; omega
        have q6 : (dd == 6) = false := by simp; omega
        have hw : Itm.wr ⟨dd, x, b, nil, full, most⟩ = fxb x 4 := by simp only [Itm.wr, if_neg d0, if_neg d1, if_pos d2]
        rw [hw] at hdr nxt
        have hu : RS.fx 4 ⟨T, at_, 0⟩ = (x % 256 ^ 4, ⟨T, at_ + 4, 0⟩) := RS.fx_back (r := ⟨T, at_, 0⟩) rfl hat hdr
        have hsw : IntKind.u32.wrap (x : Int) = ((x % 256 ^ 4 : Nat) : Int) := by rw [IntKind.wrap_u32]; omega
        rw [fxb_length] at nxt
        simp only [hal, d, p1, p2, hwr, Itm.v, hcell, q0, q1, q2, q3, q6, hsw, ↓evp, evq, evr, fxa0, fxa1, fxa2, fxa3, fxu, fxn, fxl, ↓fxp, absL, fitL, flatL, aput, ares, ares1, ofVal, unSc, aload, afill, splice, abound, asI, elems, IntKind.bits, sortT, eqNil, closedL, allByte, patch, pendOK, numA, Value.cells, Value.oneCell', ibin, List.replicate, false_implies, forall_eq, forall_eq_or_imp, true_implies, implies_true, forall_const, Option.elim, Nat.reduceAdd, Nat.reduceSub, Nat.reduceMul, Nat.reduceLT, Nat.reduceEqDiff, Nat.reduceLeDiff, Nat.reduceBEq, Int.reduceLE, Int.reduceLT, Int.reduceToNat, Int.reduceBNe, Int.reduceBEq, Int.reduceNeg, Int.reduceEq, Int.reduceNe, Nat.reduceBNe, Int.reduceAdd, Int.reduceSub, Int.reduceMul, Int.reducePow, Nat.reducePow, Int.reduceGT, Int.reduceGE, and_self, and_true, true_and, and_false, false_and, or_true, true_or, or_false, false_or, not_true_eq_false, not_false_eq_true, if_true, if_false, ite_true, ite_false, beq_self_eq_true, BEq.rfl, reduceCtorEq, eq_self, ne_eq, decide_true, decide_false, Function.comp_def, beq_iff_eq]
        refine p_Fixed4 ho hr0 hcp0 fun s2 k2 => ?_
        rw [hu] at k2
        have hc2 := k2.other hcell hne
        simp only [hu, hcell, hc2, hwr, q0, q1, q2, q3, q6, bne_self_eq_false, hsw, ↓evp, evq, evr, fxa0, fxa1, fxa2, fxa3, fxu, fxn, fxl, ↓fxp, absL, fitL, flatL, aput, ares, ares1, ofVal, unSc, aload, afill, splice, abound, asI, elems, IntKind.bits, sortT, eqNil, closedL, allByte, patch, pendOK, numA, Value.cells, Value.oneCell', ibin, List.replicate, false_implies, forall_eq, forall_eq_or_imp, true_implies, implies_true, forall_const, Option.elim, Nat.reduceAdd, Nat.reduceSub, Nat.reduceMul, Nat.reduceLT, Nat.reduceEqDiff, Nat.reduceLeDiff, Nat.reduceBEq, Int.reduceLE, Int.reduceLT, Int.reduceToNat, Int.reduceBNe, Int.reduceBEq, Int.reduceNeg, Int.reduceEq, Int.reduceNe, Nat.reduceBNe, Int.reduceAdd, Int.reduceSub, Int.reduceMul, Int.reducePow, Nat.reducePow, Int.reduceGT, Int.reduceGE, and_self, and_true, true_and, and_false, false_and, or_true, true_or, or_false, false_or, not_true_eq_false, not_false_eq_true, if_true, if_false, ite_true, ite_false, beq_self_eq_true, BEq.rfl, reduceCtorEq, eq_self, ne_eq, decide_true, decide_false, Function.comp_def, beq_iff_eq]
        exact nxt _ k2.1 (hcp0.trn hr0 k2) _ ⟨(hol [V.dead, _, _, _, _, V.dead, V.dead, _, _, _, _, _, _, _, _, _, _, _, _, _, _, _, _, _, _, _, _, _, _, _, _, _, _, _, _, _, _, _, _, _, _, _, _, _, _, _, _, _, _, _, _, _, _, _, _, _, _, _, _, _, _, _, _, _, _, _, _, _, _, _, _, _, _, _, _, _, _, _, _, _, _, _, _, _, _, _, _, _, _, _, _, _, _, _, _, _, _, _, _, _, _, _, _, _]), rfl⟩
      have q2 : (dd == 2) = false := by simpa using d2
      by_cases d3 : dd = 3
      · have q3 : (dd == 3) = true := by simpa using d3
        have q6 : (dd == 6) = false := by simp; omega
        have hw : Itm.wr ⟨dd, x, b, nil, full, most⟩ = fxb x 8 := by simp only [Itm.wr, if_neg d0, if_neg d1, if_neg d2, if_pos d3]
        rw [hw] at hdr nxt
        have hu : RS.fx 8 ⟨T, at_, 0⟩ = (x % 256 ^ 8, ⟨T, at_ + 8, 0⟩) := RS.fx_back (r := ⟨T, at_, 0⟩) rfl hat hdr
        have hx8 : x % 256 ^ 8 = x := Nat.mod_eq_of_lt h2
        rw [hx8] at hu
        rw [fxb_length] at nxt
        simp only [hal, d, p1, p2, hwr, Itm.v, hcell, q0, q1, q2, q3, q6, ↓evp, evq, evr, fxa0, fxa1, fxa2, fxa3, fxu, fxn, fxl, ↓fxp, absL, fitL, flatL, aput, ares, ares1, ofVal, unSc, aload, afill, splice, abound, asI, elems, IntKind.bits, sortT, eqNil, closedL, allByte, patch, pendOK, numA, Value.cells, Value.oneCell', ibin, List.replicate, false_implies, forall_eq, forall_eq_or_imp, true_implies, implies_true, forall_const, Option.elim, Nat.reduceAdd, Nat.reduceSub, Nat.reduceMul, Nat.reduceLT, Nat.reduceEqDiff, Nat.reduceLeDiff, Nat.reduceBEq, Int.reduceLE, Int.reduceLT, Int.reduceToNat, Int.reduceBNe, Int.reduceBEq, Int.reduceNeg, Int.reduceEq, Int.reduceNe, Nat.reduceBNe, Int.reduceAdd, Int.reduceSub, Int.reduceMul, Int.reducePow, Nat.reducePow, Int.reduceGT, Int.reduceGE, and_self, and_true, true_and, and_false, false_and, or_true, true_or, or_false, false_or, not_true_eq_false, not_false_eq_true, if_true, if_false, ite_true, ite_false, beq_self_eq_true, BEq.rfl, reduceCtorEq, eq_self, ne_eq, decide_true, decide_false, Function.comp_def, beq_iff_eq]
        refine p_Fixed8 ho hr0 hcp0 fun s2 k2 => ?_
        rw [hu] at k2
        have hc2 := k2.other hcell hne
        simp only [hu, hcell, hc2, hwr, q0, q1, q2, q3, q6, bne_self_eq_false, ↓evp, evq, evr, fxa0, fxa1, fxa2, fxa3, fxu, fxn, fxl, ↓fxp, absL, fitL, flatL, aput, ares, ares1, ofVal, unSc, aload, afill, splice, abound, asI, elems, IntKind.bits, sortT, eqNil, closedL, allByte, patch, pendOK, numA, Value.cells, Value.oneCell', ibin, List.replicate, false_implies, forall_eq, forall_eq_or_imp, true_implies, implies_true, forall_const, Option.elim, Nat.reduceAdd, Nat.reduceSub, Nat.reduceMul, Nat.reduceLT, Nat.reduceEqDiff, Nat.reduceLeDiff, Nat.reduceBEq, Int.reduceLE, Int.reduceLT, Int.reduceToNat, Int.reduceBNe, Int.reduceBEq, Int.reduceNeg, Int.reduceEq, Int.reduceNe, Nat.reduceBNe, Int.reduceAdd, Int.reduceSub, Int.reduceMul, Int.reducePow, Nat.reducePow, Int.reduceGT, Int.reduceGE, and_self, and_true, true_and, and_false, false_and, or_true, true_or, or_false, false_or, not_true_eq_false, not_false_eq_true, if_true, if_false, ite_true, ite_false, beq_self_eq_true, BEq.rfl, reduceCtorEq, eq_self, ne_eq, decide_true, decide_false, Function.comp_def, beq_iff_eq]
        exact nxt _ k2.1 (hcp0.trn hr0 k2) _ ⟨(hol [V.dead, _, _, _, _, V.dead, V.dead, _, _, _, _, _, _, _, _, _, _, _, _, _, _, _, _, _, _, _, _, _, _, _, _, _, _, _, _, _, _, _, _, _, _, _, _, _, _, _, _, _, _, _, _, _, _, _, _, _, _, _, _, _, _, _, _, _, _, _, _, _, _, _, _, _, _, _, _, _, _, _, _, _, _, _, _, _, _, _, _, _, _, _, _, _, _, _, _, _, _, _, _, _, _, _, _, _]), rfl⟩
      have q3 : (dd == 3) = false := by simpa using d3
      by_cases d6 : dd = 6
      · have q6 : (dd == 6) = true := by simpa using d6
        have hw : Itm.wr ⟨dd, x, b, nil, full, most⟩ = uvb b.length ++ b := by simp only [Itm.wr, if_neg d0, if_neg d1, if_neg d2, if_neg d3, if_pos d6]
        rw [hw] at hdr nxt
        have hu : RS.by b.length ⟨T, at_, 0⟩ = (b, ⟨T, at_ + (uvb b.length ++ b).length, 0⟩) := RS.by_back (r := ⟨T, at_, 0⟩) rfl hat (by omega) hdr
        have hlb : ∀ s, alen Try.prog s 22 (V.tsl (bs b) b.length nil full) = some (V.sc (.int .i64 b.length), s) := fun s => alen_rd (tsl_rd sz5 (by simp [bs]) h6) Try.underlying22
        simp only [hal, d, p1, p2, hwr, Itm.v, hcell, q0, q1, q2, q3, q6, hlb, ↓evp, evq, evr, fxa0, fxa1, fxa2, fxa3, fxu, fxn, fxl, ↓fxp, absL, fitL, flatL, aput, ares, ares1, ofVal, unSc, aload, afill, splice, abound, asI, elems, IntKind.bits, sortT, eqNil, closedL, allByte, patch, pendOK, numA, Value.cells, Value.oneCell', ibin, List.replicate, false_implies, forall_eq, forall_eq_or_imp, true_implies, implies_true, forall_const, Option.elim, Nat.reduceAdd, Nat.reduceSub, Nat.reduceMul, Nat.reduceLT, Nat.reduceEqDiff, Nat.reduceLeDiff, Nat.reduceBEq, Int.reduceLE, Int.reduceLT, Int.reduceToNat, Int.reduceBNe, Int.reduceBEq, Int.reduceNeg, Int.reduceEq, Int.reduceNe, Nat.reduceBNe, Int.reduceAdd, Int.reduceSub, Int.reduceMul, Int.reducePow, Nat.reducePow, Int.reduceGT, Int.reduceGE, and_self, and_true, true_and, and_false, false_and, or_true, true_or, or_false, false_or, not_true_eq_false, not_false_eq_true, if_true, if_false, ite_true, ite_false, beq_self_eq_true, BEq.rfl, reduceCtorEq, eq_self, ne_eq, decide_true, decide_false, Function.comp_def, beq_iff_eq]
        refine p_Bytes ho hr0 hcp0 (by simp only; omega) (by omega) (by omega) fun v1 s2 k2 hv1 => ?_
        rw [hu] at k2 hv1
        have hc2 := k2.other hcell hne
        simp only [hu, hcell, hc2, hwr, q0, q1, q2, q3, q6, bne_self_eq_false, hlb, ↓evp, evq, evr, fxa0, fxa1, fxa2, fxa3, fxu, fxn, fxl, ↓fxp, absL, fitL, flatL, aput, ares, ares1, ofVal, unSc, aload, afill, splice, abound, asI, elems, IntKind.bits, sortT, eqNil, closedL, allByte, patch, pendOK, numA, Value.cells, Value.oneCell', ibin, List.replicate, false_implies, forall_eq, forall_eq_or_imp, true_implies, implies_true, forall_const, Option.elim, Nat.reduceAdd, Nat.reduceSub, Nat.reduceMul, Nat.reduceLT, Nat.reduceEqDiff, Nat.reduceLeDiff, Nat.reduceBEq, Int.reduceLE, Int.reduceLT, Int.reduceToNat, Int.reduceBNe, Int.reduceBEq, Int.reduceNeg, Int.reduceEq, Int.reduceNe, Nat.reduceBNe, Int.reduceAdd, Int.reduceSub, Int.reduceMul, Int.reducePow, Nat.reducePow, Int.reduceGT, Int.reduceGE, and_self, and_true, true_and, and_false, false_and, or_true, true_or, or_false, false_or, not_true_eq_false, not_false_eq_true, if_true, if_false, ite_true, ite_false, beq_self_eq_true, BEq.rfl, reduceCtorEq, eq_self, ne_eq, decide_true, decide_false, Function.comp_def, beq_iff_eq]
        refine l02_same hv1.1 (tsl_rd sz5 (by simp [bs]) h6) ?_
        simp only [beq_self_eq_true, hwr, ↓evp, evq, evr, fxa0, fxa1, fxa2, fxa3, fxu, fxn, fxl, ↓fxp, absL, fitL, flatL, aput, ares, ares1, ofVal, unSc, aload, afill, splice, abound, asI, elems, IntKind.bits, sortT, eqNil, closedL, allByte, patch, pendOK, numA, Value.cells, Value.oneCell', ibin, List.replicate, false_implies, forall_eq, forall_eq_or_imp, true_implies, implies_true, forall_const, Option.elim, Nat.reduceAdd, Nat.reduceSub, Nat.reduceMul, Nat.reduceLT, Nat.reduceEqDiff, Nat.reduceLeDiff, Nat.reduceBEq, Int.reduceLE, Int.reduceLT, Int.reduceToNat, Int.reduceBNe, Int.reduceBEq, Int.reduceNeg, Int.reduceEq, Int.reduceNe, Nat.reduceBNe, Int.reduceAdd, Int.reduceSub, Int.reduceMul, Int.reducePow, Nat.reducePow, Int.reduceGT, Int.reduceGE, and_self, and_true, true_and, and_false, false_and, or_true, true_or, or_false, false_or, not_true_eq_false, not_false_eq_true, if_true, if_false, ite_true, ite_false, beq_self_eq_true, BEq.rfl, reduceCtorEq, eq_self, ne_eq, decide_true, decide_false, Function.comp_def, beq_iff_eq]
        exact nxt _ k2.1 (hcp0.trn hr0 k2) _ ⟨(hol [V.dead, _, _, _, _, V.dead, V.dead, _, _, _, _, _, _, _, _, _, _, _, _, _, _, _, _, _, _, _, _, _, _, _, _, _, _, _, _, _, _, _, _, _, _, _, _, _, _, _, _, _, _, _, _, _, _, _, _, _, _, _, _, _, _, _, _, _, _, _, _, _, _, _, _, _, _, _, _, _, _, _, _, _, _, _, _, _, _, _, _, _, _, _, _, _, _, _, _, _, _, _, _, _, _, _, _, _]), rfl⟩
      have q6 : (dd == 6) = false := by simpa using d6
      have hw : Itm.wr ⟨dd, x, b, nil, full, most⟩ = [] := by simp only [Itm.wr, if_neg d0, if_neg d1, if_neg d2, if_neg d3, if_neg d6]
      rw [hw] at nxt
      simp only [hal, d, p1, p2, hwr, Itm.v, hcell, q0, q1, q2, q3, q6, ↓evp, evq, evr, fxa0, fxa1, fxa2, fxa3, fxu, fxn, fxl, ↓fxp, absL, fitL, flatL, aput, ares, ares1, ofVal, unSc, aload, afill, splice, abound, asI, elems, IntKind.bits, sortT, eqNil, closedL, allByte, patch, pendOK, numA, Value.cells, Value.oneCell', ibin, List.replicate, false_implies, forall_eq, forall_eq_or_imp, true_implies, implies_true, forall_const, Option.elim, Nat.reduceAdd, Nat.reduceSub, Nat.reduceMul, Nat.reduceLT, Nat.reduceEqDiff, Nat.reduceLeDiff, Nat.reduceBEq, Int.reduceLE, Int.reduceLT, Int.reduceToNat, Int.reduceBNe, Int.reduceBEq, Int.reduceNeg, Int.reduceEq, Int.reduceNe, Nat.reduceBNe, Int.reduceAdd, Int.reduceSub, Int.reduceMul, Int.reducePow, Nat.reducePow, Int.reduceGT, Int.reduceGE, and_self, and_true, true_and, and_false, false_and, or_true, true_or, or_false, false_or, not_true_eq_false, not_false_eq_true, if_true, if_false, ite_true, ite_false, beq_self_eq_true, BEq.rfl, reduceCtorEq, eq_self, ne_eq, decide_true, decide_false, Function.comp_def, beq_iff_eq]
      exact nxt _ hr0 hcp0 _ ⟨(hol [V.dead, _, _, _, _, V.dead, V.dead, _, _, _, _, _, _, _, _, _, _, _, _, _, _, _, _, _, _, _, _, _, _, _, _, _, _, _, _, _, _, _, _, _, _, _, _, _, _, _, _, _, _, _, _, _, _, _, _, _, _, _, _, _, _, _, _, _, _, _, _, _, _, _, _, _, _, _, _, _, _, _, _, _, _, _, _, _, _, _, _, _, _, _, _, _, _, _, _, _, _, _, _, _, _, _, _, _]), rfl⟩
    · have d : decide ((i : Int) < l.length) = false := decide_eq_false (by omega)
      obtain rfl : i = l.length := by omega
      rw [List.take_length, hT] at hr ho
      simp only [hal, d, ↓evp, evq, evr, fxa0, fxa1, fxa2, fxa3, fxu, fxn, fxl, ↓fxp, absL, fitL, flatL, aput, ares, ares1, ofVal, unSc, aload, afill, splice, abound, asI, elems, IntKind.bits, sortT, eqNil, closedL, allByte, patch, pendOK, numA, Value.cells, Value.oneCell', ibin, List.replicate, false_implies, forall_eq, forall_eq_or_imp, true_implies, implies_true, forall_const, Option.elim, Nat.reduceAdd, Nat.reduceSub, Nat.reduceMul, Nat.reduceLT, Nat.reduceEqDiff, Nat.reduceLeDiff, Nat.reduceBEq, Int.reduceLE, Int.reduceLT, Int.reduceToNat, Int.reduceBNe, Int.reduceBEq, Int.reduceNeg, Int.reduceEq, Int.reduceNe, Nat.reduceBNe, Int.reduceAdd, Int.reduceSub, Int.reduceMul, Int.reducePow, Nat.reducePow, Int.reduceGT, Int.reduceGE, and_self, and_true, true_and, and_false, false_and, or_true, true_or, or_false, false_or, not_true_eq_false, not_false_eq_true, if_true, if_false, ite_true, ite_false, beq_self_eq_true, BEq.rfl, reduceCtorEq, eq_self, ne_eq, decide_true, decide_false, Function.comp_def, beq_iff_eq]
      refine p_Done ho hr hcp ?_
      have hdn : RS.dn ⟨T, T.length, 0⟩ = 0 := by simp [RS.dn]
      simp only [hdn, ↓evp, evq, evr, fxa0, fxa1, fxa2, fxa3, fxu, fxn, fxl, ↓fxp, absL, fitL, flatL, aput, ares, ares1, ofVal, unSc, aload, afill, splice, abound, asI, elems, IntKind.bits, sortT, eqNil, closedL, allByte, patch, pendOK, numA, Value.cells, Value.oneCell', ibin, List.replicate, false_implies, forall_eq, forall_eq_or_imp, true_implies, implies_true, forall_const, Option.elim, Nat.reduceAdd, Nat.reduceSub, Nat.reduceMul, Nat.reduceLT, Nat.reduceEqDiff, Nat.reduceLeDiff, Nat.reduceBEq, Int.reduceLE, Int.reduceLT, Int.reduceToNat, Int.reduceBNe, Int.reduceBEq, Int.reduceNeg, Int.reduceEq, Int.reduceNe, Nat.reduceBNe, Int.reduceAdd, Int.reduceSub, Int.reduceMul, Int.reducePow, Nat.reducePow, Int.reduceGT, Int.reduceGE, and_self, and_true, true_and, and_false, false_and, or_true, true_or, or_false, false_or, not_true_eq_false, not_false_eq_true, if_true, if_false, ite_true, ite_false, beq_self_eq_true, BEq.rfl, reduceCtorEq, eq_self, ne_eq, decide_true, decide_false, Function.comp_def, beq_iff_eq]
      refine f16 (by omega) fun s => ?_
      simp only [↓evp, evq, evr, fxa0, fxa1, fxa2, fxa3, fxu, fxn, fxl, ↓fxp, absL, fitL, flatL, aput, ares, ares1, ofVal, unSc, aload, afill, splice, abound, asI, elems, IntKind.bits, sortT, eqNil, closedL, allByte, patch, pendOK, numA, Value.cells, Value.oneCell', ibin, List.replicate, false_implies, forall_eq, forall_eq_or_imp, true_implies, implies_true, forall_const, Option.elim, Nat.reduceAdd, Nat.reduceSub, Nat.reduceMul, Nat.reduceLT, Nat.reduceEqDiff, Nat.reduceLeDiff, Nat.reduceBEq, Int.reduceLE, Int.reduceLT, Int.reduceToNat, Int.reduceBNe, Int.reduceBEq, Int.reduceNeg, Int.reduceEq, Int.reduceNe, Nat.reduceBNe, Int.reduceAdd, Int.reduceSub, Int.reduceMul, Int.reducePow, Nat.reducePow, Int.reduceGT, Int.reduceGE, and_self, and_true, true_and, and_false, false_and, or_true, true_or, or_false, false_or, not_true_eq_false, not_false_eq_true, if_true, if_false, ite_true, ite_false, beq_self_eq_true, BEq.rfl, reduceCtorEq, eq_self, ne_eq, decide_true, decide_false, Function.comp_def, beq_iff_eq]
end Go.Proofs.Ytfndpnmdjblokaa
