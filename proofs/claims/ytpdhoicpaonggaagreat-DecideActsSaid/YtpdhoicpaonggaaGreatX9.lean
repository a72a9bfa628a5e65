/- Chapter 21: may a unit be? By the reference. Chapters 3 and 6: the neighbours of a cell, and the legal steps from it, one by one. Chapter 23: what a unit does, by the program. -/
import Derived.Test.YtpdhoicpaonggaaGreatX8
set_option linter.unusedVariables false
set_option linter.unusedSimpArgs false
set_option maxRecDepth 10000
namespace Go.Proofs.YtpdhoicpaonggaaGreat
open Go Go.M Go.RowKit
attribute [local congr] acallF_cong aloop_cong bcase_cong resK_cong valK_cong wantK_cong callK_cong xputK_cong qputK_cong resM_cong rfK_cong
attribute [local irreducible] seqK blockK loopK nextK bcase resK valK wantK funK putK dputK xputK qputK callK aops aop acode adraw aloop acallF acall invK resM rfK rfEnd rdEnd rdMid around
section
variable {n m : Nat} {st s S0 : List Ob} {K : V → List Ob → Prop} {x y c z d : Int} {pv : V} {u : Un}
theorem r_cell (hK : ∀ s, Grw st s → K (.sc (.bool (cellI x y))) s) : acallF Tryz.prog pl (n + 1) m 102 [.agg (cl x y)] st K := by
  refine acallF_inF Tryz.func102 rfl rfl Tryz.ntmps102 (by simp) ?_
  simp only [cellI] at hK
  cases d1 : decide (x ≥ 0) <;> cases d2 : decide (x < 128) <;> cases d3 : decide (y ≥ 0) <;> cases d4 : decide (y < 128) <;>
  · simp only [d1, d2, d3, d4, Bool.and_self, Bool.and_true, Bool.true_and, Bool.and_false, Bool.false_and] at hK
    simp only [cl, d1, d2, d3, d4, ↓zP,zV,Nat.reduceAdd,Nat.reduceMul,Nat.reduceLT,Nat.reduceEqDiff,Nat.reduceLeDiff,Int.reduceLE,Int.reduceLT,Int.reduceBNe,Int.reduceBEq,Int.reduceNeg,Int.reduceEq,Int.reduceAdd,Int.reduceGT,Int.reduceGE,reduceCtorEq]
    exact hK _ (Grw.push _ _)
set_option maxHeartbeats 8000000 in
theorem r_UMay (hp : Pth st pv u.P) (hm : 20000 < m) (hK : ∀ b s, (u.ph = 1 → u.P ≠ [] → b = (headB u && movB u)) → Grw st s → K (.sc (.bool b)) s) : acallF Tryz.prog pl (n + 5) m 66 [.agg (unV u pv)] st K := by
  refine acallF_inF Tryz.func66 rfl rfl Tryz.ntmps66 (by simp) ?_
  obtain ⟨o1, o2⟩ := hp.2
  have bad : headB u = false → ∀ s, Grw st s → K (.sc (.bool false)) s := fun h s g => hK _ _ (fun _ _ => by rw [h]; rfl) g
  obtain ⟨S, hS⟩ : ∃ S, S = st ++ [Ob.cells (unV u pv)] := ⟨_, rfl⟩
  have gS : Grw st S := by rw [hS]; exact Grw.push _ _
  have c0 : S[st.length]? = some (.cells (unV u pv)) := by rw [hS]; exact get_new0 _ _
  simp only [unV] at hS c0
  cases e1 : decide (u.id < 1) with
  | true =>
    simp only [unV, o1, o2, e1, ↓zP,zV,Nat.reduceAdd,Nat.reduceMul,Nat.reduceLT,Nat.reduceEqDiff,Nat.reduceLeDiff,Int.reduceLE,Int.reduceLT,Int.reduceBNe,Int.reduceBEq,Int.reduceNeg,Int.reduceEq,Int.reduceAdd,Int.reduceGT,Int.reduceGE,reduceCtorEq]
    exact bad (by simp only [headB, e1, Bool.not_true, Bool.false_and]) _ (Grw.push _ _)
  | false =>
  cases e2 : decide (u.id > 2147483647) with
  | true =>
    simp only [unV, o1, o2, e1, e2, ↓zP,zV,Nat.reduceAdd,Nat.reduceMul,Nat.reduceLT,Nat.reduceEqDiff,Nat.reduceLeDiff,Int.reduceLE,Int.reduceLT,Int.reduceBNe,Int.reduceBEq,Int.reduceNeg,Int.reduceEq,Int.reduceAdd,Int.reduceGT,Int.reduceGE,reduceCtorEq]
    exact bad (by simp only [headB, e2, Bool.not_true, Bool.and_false, Bool.false_and]) _ (Grw.push _ _)
  | false =>
  cases e3 : decide (u.pl < 0) with
  | true =>
    simp only [unV, o1, o2, e1, e2, e3, ↓zP,zV,Nat.reduceAdd,Nat.reduceMul,Nat.reduceLT,Nat.reduceEqDiff,Nat.reduceLeDiff,Int.reduceLE,Int.reduceLT,Int.reduceBNe,Int.reduceBEq,Int.reduceNeg,Int.reduceEq,Int.reduceAdd,Int.reduceGT,Int.reduceGE,reduceCtorEq]
    exact bad (by simp only [headB, e3, Bool.not_true, Bool.and_false, Bool.false_and]) _ (Grw.push _ _)
  | false =>
  cases e4 : decide (u.pl ≥ 8) with
  | true =>
    simp only [unV, o1, o2, e1, e2, e3, e4, ↓zP,zV,Nat.reduceAdd,Nat.reduceMul,Nat.reduceLT,Nat.reduceEqDiff,Nat.reduceLeDiff,Int.reduceLE,Int.reduceLT,Int.reduceBNe,Int.reduceBEq,Int.reduceNeg,Int.reduceEq,Int.reduceAdd,Int.reduceGT,Int.reduceGE,reduceCtorEq]
    exact bad (by simp only [headB, e4, Bool.not_true, Bool.and_false, Bool.false_and]) _ (Grw.push _ _)
  | false =>
  simp only [unV, o1, o2, e1, e2, e3, e4, ↓zP,zV,Nat.reduceAdd,Nat.reduceMul,Nat.reduceLT,Nat.reduceEqDiff,Nat.reduceLeDiff,Int.reduceLE,Int.reduceLT,Int.reduceBNe,Int.reduceBEq,Int.reduceNeg,Int.reduceEq,Int.reduceAdd,Int.reduceGT,Int.reduceGE,reduceCtorEq]
  rw [← hS]
  refine r_CMay (n := n + 3) fun s1 j1 => ?_
  have a0 := j1 _ _ c0
  have g1 := gS.trans j1
  cases e5 : shB u.c u.z with
  | false =>
    simp only [a0, e5, ↓zP,zV,Nat.reduceAdd,Nat.reduceMul,Nat.reduceLT,Nat.reduceEqDiff,Nat.reduceLeDiff,Int.reduceLE,Int.reduceLT,Int.reduceBNe,Int.reduceBEq,Int.reduceNeg,Int.reduceEq,Int.reduceAdd,Int.reduceGT,Int.reduceGE,reduceCtorEq]
    exact bad (by simp only [headB, e5, Bool.and_false, Bool.false_and]) _ g1
  | true =>
  simp only [a0, e5, ↓zP,zV,Nat.reduceAdd,Nat.reduceMul,Nat.reduceLT,Nat.reduceEqDiff,Nat.reduceLeDiff,Int.reduceLE,Int.reduceLT,Int.reduceBNe,Int.reduceBEq,Int.reduceNeg,Int.reduceEq,Int.reduceAdd,Int.reduceGT,Int.reduceGE,reduceCtorEq]
  refine r_cell (n := n + 3) fun s2 j2 => ?_
  have a0 := j2 _ _ a0
  have g2 := g1.trans j2
  cases e6 : cellI u.x u.y with
  | false =>
    simp only [a0, e6, ↓zP,zV,Nat.reduceAdd,Nat.reduceMul,Nat.reduceLT,Nat.reduceEqDiff,Nat.reduceLeDiff,Int.reduceLE,Int.reduceLT,Int.reduceBNe,Int.reduceBEq,Int.reduceNeg,Int.reduceEq,Int.reduceAdd,Int.reduceGT,Int.reduceGE,reduceCtorEq]
    exact bad (by simp only [headB, e6, Bool.and_false, Bool.false_and]) _ g2
  | true =>
  simp only [a0, e6, ↓zP,zV,Nat.reduceAdd,Nat.reduceMul,Nat.reduceLT,Nat.reduceEqDiff,Nat.reduceLeDiff,Int.reduceLE,Int.reduceLT,Int.reduceBNe,Int.reduceBEq,Int.reduceNeg,Int.reduceEq,Int.reduceAdd,Int.reduceGT,Int.reduceGE,reduceCtorEq]
  refine r_cell (n := n + 3) fun s3 j3 => ?_
  have a0 := j3 _ _ a0
  have g3 := g2.trans j3
  cases e7 : cellI u.gx u.gy with
  | false =>
    simp only [a0, e7, ↓zP,zV,Nat.reduceAdd,Nat.reduceMul,Nat.reduceLT,Nat.reduceEqDiff,Nat.reduceLeDiff,Int.reduceLE,Int.reduceLT,Int.reduceBNe,Int.reduceBEq,Int.reduceNeg,Int.reduceEq,Int.reduceAdd,Int.reduceGT,Int.reduceGE,reduceCtorEq]
    exact bad (by simp only [headB, e7, Bool.and_false, Bool.false_and]) _ g3
  | true =>
  cases e8 : decide (u.wt < 0) with
  | true =>
    simp only [a0, e7, e8, ↓zP,zV,Nat.reduceAdd,Nat.reduceMul,Nat.reduceLT,Nat.reduceEqDiff,Nat.reduceLeDiff,Int.reduceLE,Int.reduceLT,Int.reduceBNe,Int.reduceBEq,Int.reduceNeg,Int.reduceEq,Int.reduceAdd,Int.reduceGT,Int.reduceGE,reduceCtorEq]
    exact bad (by simp only [headB, e8, Bool.not_true, Bool.and_false, Bool.false_and]) _ g3
  | false =>
  cases e9 : decide (u.wt > 15) with
  | true =>
    simp only [a0, e7, e8, e9, ↓zP,zV,Nat.reduceAdd,Nat.reduceMul,Nat.reduceLT,Nat.reduceEqDiff,Nat.reduceLeDiff,Int.reduceLE,Int.reduceLT,Int.reduceBNe,Int.reduceBEq,Int.reduceNeg,Int.reduceEq,Int.reduceAdd,Int.reduceGT,Int.reduceGE,reduceCtorEq]
    exact bad (by simp only [headB, e9, Bool.not_true, Bool.and_false]) _ g3
  | false =>
  have hh : headB u = true := by simp only [headB, e1, e2, e3, e4, e5, e6, e7, e8, e9, Bool.not_false, Bool.and_self]
  rw [hh] at hK
  simp only [Bool.true_and] at hK
  have hp3 := hp.grw g3
  have pX := hp3.len
  by_cases q0 : u.ph = 0
  · have no : ∀ b s, Grw st s → K (.sc (.bool b)) s := fun b s g => hK b s (fun h => absurd h (by omega)) g
    cases w1 : ((u.P.length : Int) == 0) <;> cases w2 : (u.gx == 0 && u.gy == 0) <;> cases w3 : (u.wt == 0) <;>
    · simp only [a0, e7, e8, e9, q0, pX, w1, w2, w3, cmp_cell, ↓zP,zV,Nat.reduceAdd,Nat.reduceMul,Nat.reduceLT,Nat.reduceEqDiff,Nat.reduceLeDiff,Int.reduceLE,Int.reduceLT,Int.reduceBNe,Int.reduceBEq,Int.reduceNeg,Int.reduceEq,Int.reduceAdd,Int.reduceGT,Int.reduceGE,reduceCtorEq]
      exact no _ _ g3
  have b0 : (u.ph == 0) = false := beq_eq_false_iff_ne.2 q0
  by_cases q2 : u.ph = 2
  · have no : ∀ b s, Grw st s → K (.sc (.bool b)) s := fun b s g => hK b s (fun h => absurd h (by omega)) g
    cases w1 : ((u.P.length : Int) == 0) <;> cases w3 : (u.wt == 0) <;>
    · simp only [a0, e7, e8, e9, q2, pX, w1, w3, ↓zP,zV,Nat.reduceAdd,Nat.reduceMul,Nat.reduceLT,Nat.reduceEqDiff,Nat.reduceLeDiff,Int.reduceLE,Int.reduceLT,Int.reduceBNe,Int.reduceBEq,Int.reduceNeg,Int.reduceEq,Int.reduceAdd,Int.reduceGT,Int.reduceGE,reduceCtorEq]
      exact no _ _ g3
  have b2 : (u.ph == 2) = false := beq_eq_false_iff_ne.2 q2
  by_cases q1 : u.ph = 1
  case neg =>
    have b1 : (u.ph == 1) = false := beq_eq_false_iff_ne.2 q1
    simp only [a0, e7, e8, e9, b0, b1, b2, ↓zP,zV,Nat.reduceAdd,Nat.reduceMul,Nat.reduceLT,Nat.reduceEqDiff,Nat.reduceLeDiff,Int.reduceLE,Int.reduceLT,Int.reduceBNe,Int.reduceBEq,Int.reduceNeg,Int.reduceEq,Int.reduceAdd,Int.reduceGT,Int.reduceGE,reduceCtorEq]
    exact hK _ _ (fun h => absurd h q1) g3
  have b1 : (u.ph == 1) = true := beq_iff_eq.2 q1
  by_cases h0 : u.P.length = 0
  · have z0 : decide ((u.P.length : Int) < 1) = true := decide_eq_true (by omega)
    simp only [a0, e7, e8, e9, b0, b1, b2, pX, z0, ↓zP,zV,Nat.reduceAdd,Nat.reduceMul,Nat.reduceLT,Nat.reduceEqDiff,Nat.reduceLeDiff,Int.reduceLE,Int.reduceLT,Int.reduceBNe,Int.reduceBEq,Int.reduceNeg,Int.reduceEq,Int.reduceAdd,Int.reduceGT,Int.reduceGE,reduceCtorEq]
    exact hK _ _ (fun _ h => absurd (List.length_eq_zero_iff.1 h0) h) g3
  have z0 : decide ((u.P.length : Int) < 1) = false := decide_eq_false (by omega)
  by_cases h1 : u.P.length > 16384
  · have hq : decide (u.P.length ≤ 16384) = false := decide_eq_false (by omega)
    have z1 : decide ((u.P.length : Int) > 16384) = true := decide_eq_true (by omega)
    simp only [a0, e7, e8, e9, b0, b1, b2, pX, z0, z1, ↓zP,zV,Nat.reduceAdd,Nat.reduceMul,Nat.reduceLT,Nat.reduceEqDiff,Nat.reduceLeDiff,Int.reduceLE,Int.reduceLT,Int.reduceBNe,Int.reduceBEq,Int.reduceNeg,Int.reduceEq,Int.reduceAdd,Int.reduceGT,Int.reduceGE,reduceCtorEq]
    exact hK _ _ (fun _ _ => by simp only [movB, hq, Bool.false_and]) g3
  have z1 : decide ((u.P.length : Int) > 16384) = false := decide_eq_false (by omega)
  have hle : decide (u.P.length ≤ 16384) = true := decide_eq_true (by omega)
  have hel := end_last (gx := u.gx) (gy := u.gy) (P := u.P) (by omega)
  have hK : ∀ b s, b = (endB u.gx u.gy u.P && pathB u.x u.y u.P) → Grw st s → K (.sc (.bool b)) s := fun b s h g => hK b s (fun _ _ => by rw [h]; simp only [movB, hle, Bool.true_and]) g
  simp only [a0, e7, e8, e9, b0, b1, b2, pX, z0, z1, ↓zP,zV,Nat.reduceAdd,Nat.reduceMul,Nat.reduceLT,Nat.reduceEqDiff,Nat.reduceLeDiff,Int.reduceLE,Int.reduceLT,Int.reduceBNe,Int.reduceBEq,Int.reduceNeg,Int.reduceEq,Int.reduceAdd,Int.reduceGT,Int.reduceGE,reduceCtorEq]
  generalize hT : s3 ++ _ = T
  have gT : Grw st T := by rw [← hT]; exact g3.push' _
  have c0 : T[st.length]? = some (.cells (unV u pv)) := by rw [← hT]; exact Grw.push s3 _ _ _ a0
  simp only [unV] at c0
  have c1 : T[s3.length]? = some (.cells (cl u.x u.y)) := by rw [← hT]; exact get_new0 _ _
  have l3 : st.length < s3.length := (List.getElem?_eq_some_iff.1 a0).1
  clear hT
  have grw : ∀ {s : List Ob}, (∀ q o, q ≠ s3.length → T[q]? = some o → s[q]? = some o) → Grw st s := fun h q o hq => by
    have := (List.getElem?_eq_some_iff.1 hq).1
    exact h _ _ (by omega) (gT _ _ hq)
  refine aloop_forF (fun k f s => ∃ (j : Nat) (cx cy : Int), k + j = m ∧ j ≤ u.P.length ∧ pathB u.x u.y u.P = pathB cx cy (u.P.drop j) ∧ (0 < j → u.P[j - 1]? = some (cx, cy)) ∧ s[s3.length]? = some (.cells (cl cx cy)) ∧ (∀ q o, q ≠ s3.length → T[q]? = some o → s[q]? = some o) ∧ f 1 = .ref st.length 0 ∧ f 3 = .ref s3.length 0 ∧ f 4 = .sc (.int .i64 j)) ⟨0, u.x, u.y, by omega, by omega, rfl, (fun h => absurd h (by omega)), c1, fun _ _ _ h => h, by simp only [zF,Nat.reduceEqDiff,Nat.reduceLT], by simp only [zF,Nat.reduceEqDiff,Nat.reduceLT], by simp only [zF,Nat.reduceEqDiff,Nat.reduceLT]; rfl⟩ ?_
  rintro I' hI' k f s ⟨j, cx, cy, hk, hj, hI, hcc, hc, fr, f1, f3, f4⟩
  refine ⟨k - 1, by omega, ?_⟩
  have hps := hp.grw (grw fr)
  have pL := hps.len
  have d0 := fr _ _ (by omega) c0
  simp only [cl] at hc
  by_cases hjl : j < u.P.length
  · have dj : decide ((j : Int) < u.P.length) = true := decide_eq_true (by omega)
    have e3 : IntKind.i64.wrap ((j : Int) + 1) = ((j + 1 : Nat) : Int) := by rw [IntWalk.i64_in _ (by omega)]; rfl
    have k1 := (hps.ix hjl).1
    have k2 := (hps.ix hjl).2
    have hst := path_step (x := cx) (y := cy) hjl
    have hat : u.P[j]? = some u.P[j] := List.getElem?_eq_getElem hjl
    simp only [f1, f3, f4, d0, pL, dj, k1, k2, ↓zP,zV,Nat.reduceAdd,Nat.reduceMul,Nat.reduceLT,Nat.reduceEqDiff,Nat.reduceLeDiff,Int.reduceLE,Int.reduceLT,Int.reduceBNe,Int.reduceBEq,Int.reduceNeg,Int.reduceEq,Int.reduceAdd,Int.reduceGT,Int.reduceGE,reduceCtorEq]
    refine r_cell (n := n + 3) fun s4 j4 => ?_
    have hps4 := hps.grw j4
    have k3 := (hps4.ix hjl).1
    have k4 := (hps4.ix hjl).2
    generalize hP : u.P[j] = p at k2 k4 hst hat
    have d4 := j4 _ _ d0
    have hc4 := j4 _ _ hc
    cases e4 : cellI p.1 p.2 with
    | false =>
      simp only [f1, f3, f4, d0, d4, hc4, k1, k2, k3, k4, e4, ↓zP,zV,Nat.reduceAdd,Nat.reduceMul,Nat.reduceLT,Nat.reduceEqDiff,Nat.reduceLeDiff,Int.reduceLE,Int.reduceLT,Int.reduceBNe,Int.reduceBEq,Int.reduceNeg,Int.reduceEq,Int.reduceAdd,Int.reduceGT,Int.reduceGE,reduceCtorEq]
      exact hK _ _ (by rw [hI, hst, e4]; simp only [Bool.false_and, Bool.and_false]) ((grw fr).trans j4)
    | true =>
      simp only [f1, f3, f4, d0, d4, hc, hc4, k1, k2, k3, k4, e4, ↓zP,zV,Nat.reduceAdd,Nat.reduceMul,Nat.reduceLT,Nat.reduceEqDiff,Nat.reduceLeDiff,Int.reduceLE,Int.reduceLT,Int.reduceBNe,Int.reduceBEq,Int.reduceNeg,Int.reduceEq,Int.reduceAdd,Int.reduceGT,Int.reduceGE,reduceCtorEq]
      refine r_Dir (n := n) (by omega) fun s5 j5 => ?_
      have hps5 := hps4.grw j5
      have k5 := (hps5.ix hjl).1
      have k6 := (hps5.ix hjl).2
      rw [hP] at k6
      have d5 := j5 _ _ d4
      have hc5 := j5 _ _ hc4
      have q5 := fun o => get_set hc5 o
      cases e5 : decide (dirI cx cy p.1 p.2 < 0) with
      | true =>
        simp only [f1, f3, f4, d0, d4, d5, hc4, hc5, k1, k2, k3, k4, k5, k6, e5, ↓zP,zV,Nat.reduceAdd,Nat.reduceMul,Nat.reduceLT,Nat.reduceEqDiff,Nat.reduceLeDiff,Int.reduceLE,Int.reduceLT,Int.reduceBNe,Int.reduceBEq,Int.reduceNeg,Int.reduceEq,Int.reduceAdd,Int.reduceGT,Int.reduceGE,reduceCtorEq]
        exact hK _ _ (by rw [hI, hst, e4, e5]; simp only [Bool.not_true, Bool.false_and, Bool.and_false]) (((grw fr).trans j4).trans j5)
      | false =>
        rw [e4, e5] at hst
        simp only [Bool.not_false, Bool.true_and, Bool.and_true] at hst
        simp only [f1, f3, f4, d0, d4, d5, hc4, hc5, q5, k1, k2, k3, k4, k5, k6, e3, e5, ↓zP,zV,Nat.reduceAdd,Nat.reduceMul,Nat.reduceLT,Nat.reduceEqDiff,Nat.reduceLeDiff,Int.reduceLE,Int.reduceLT,Int.reduceBNe,Int.reduceBEq,Int.reduceNeg,Int.reduceEq,Int.reduceAdd,Int.reduceGT,Int.reduceGE,reduceCtorEq]
        refine hI' _ _ _ ⟨j + 1, p.1, p.2, by omega, hjl, hI.trans hst, (fun _ => hat), get_set hc5 _, fun q o hq ho => ?_, by simp only [f1, zF,Nat.reduceEqDiff,Nat.reduceLT], by simp only [f3, zF,Nat.reduceEqDiff,Nat.reduceLT], by simp only [zF,Nat.reduceEqDiff,Nat.reduceLT]⟩
        rw [List.getElem?_set_ne (Ne.symm hq)]
        exact j5 _ _ (j4 _ _ (fr _ _ hq ho))
  · have dj : decide ((j : Int) < u.P.length) = false := decide_eq_false (by omega)
    obtain rfl : j = u.P.length := by omega
    have hlast := hcc (by omega)
    rw [List.getElem?_eq_getElem (by omega), Option.some.injEq] at hlast
    rw [hlast] at hel
    have hpt : pathB u.x u.y u.P = true := by rw [hI, List.drop_length]; rfl
    have fin := fun b => hK b s
    rw [hel, hpt, Bool.and_true] at fin
    cases e6 : (cx == u.gx && cy == u.gy) with
    | false =>
      simp only [f1, f3, f4, d0, pL, hc, dj, e6, cmp_cell, ↓zP,zV,Nat.reduceAdd,Nat.reduceMul,Nat.reduceLT,Nat.reduceEqDiff,Nat.reduceLeDiff,Int.reduceLE,Int.reduceLT,Int.reduceBNe,Int.reduceBEq,Int.reduceNeg,Int.reduceEq,Int.reduceAdd,Int.reduceGT,Int.reduceGE,reduceCtorEq]
      exact fin _ e6.symm (grw fr)
    | true =>
      simp only [f1, f3, f4, d0, pL, hc, dj, e6, cmp_cell, ↓zP,zV,Nat.reduceAdd,Nat.reduceMul,Nat.reduceLT,Nat.reduceEqDiff,Nat.reduceLeDiff,Int.reduceLE,Int.reduceLT,Int.reduceBNe,Int.reduceBEq,Int.reduceNeg,Int.reduceEq,Int.reduceAdd,Int.reduceGT,Int.reduceGE,reduceCtorEq]
      exact fin _ e6.symm (grw fr)
end
section
variable {n m : Nat} {st S0 : List Ob} {K : V → List Ob → Prop} {wd rd : Nat} {ro : Option Nat} {WW HH : Int} {T : List Int} {L : List B4} {x y c z a b w h : Int} {v : V}
theorem aputs_two {n p q : Nat} {f : Nat → V} {v w : V} (h : p < n) (h2 : q < n) : aputs (ofF n f) [p, q] [v, w] = ofF n (fu (fu f p v) q w) := by
  show aput (aput (ofF n f) (some p) v) (some q) w = _
  rw [aput_ofF h, aput_ofF h2]
theorem cellsV_yl (l : Nat) : cellsV (.yl l) = [.yl l] := id rfl
theorem one_yl (l : Nat) : one (.yl l) = true := id rfl
theorem c_Ar (hK : K (.fn (.func 120) [.ref st.length 0, .ref (st.length + 1) 0]) (st ++ [.cells (cl x y), .cells (rc a b w h)])) : acallF Tryz.prog pl (n + 1) m 89 [.agg (cl x y), .agg (rc a b w h)] st K := by
  refine acallF_inF Tryz.func89 rfl rfl Tryz.ntmps89 (by simp) ?_
  simp only [cl, rc] at hK
  simp only [cl, rc, ↓zP,zV,Nat.reduceAdd,Nat.reduceMul,Nat.reduceLT,Nat.reduceEqDiff,Nat.reduceLeDiff,Int.reduceLE,Int.reduceLT,Int.reduceBNe,Int.reduceBEq,Int.reduceNeg,Int.reduceEq,Int.reduceAdd,Int.reduceGT,Int.reduceGE,reduceCtorEq]
  exact hK
theorem c_Around (hK : K (.fn (.func 88) [.ref (st.length + 2) 0, .ref st.length 0, .ref (st.length + 1) 0]) (st ++ [.cells [.ref wd 0], .cells (cl c z), .cells (cl x y)])) : acallF Tryz.prog pl (n + 1) m 46 [.ref wd 0, .agg (cl c z), .agg (cl x y)] st K := by
  refine acallF_inF Tryz.func46 rfl rfl Tryz.ntmps46 (by simp) ?_
  simp only [cl] at hK
  simp only [cl, ↓zP,zV,Nat.reduceAdd,Nat.reduceMul,Nat.reduceLT,Nat.reduceEqDiff,Nat.reduceLeDiff,Int.reduceLE,Int.reduceLT,Int.reduceBNe,Int.reduceBEq,Int.reduceNeg,Int.reduceEq,Int.reduceAdd,Int.reduceGT,Int.reduceGE,reduceCtorEq]
  exact hK
set_option maxHeartbeats 2000000 in
theorem c_Ar1 {l rb rb2 : Nat} {I : Nat → List Ob → Prop} {J : List Ob → Prop} (hm : 8 < m)
    (keep : ∀ k s, I k s → s[rb]? = some (.cells (cl x y)) ∧ s[rb2]? = some (.cells (rc a b w h))) (grow : ∀ k s s', I k s → Grw s s' → I k s') (h0 : I 0 st)
    (skip : ∀ (j : Nat) (s : List Ob), j < 8 → (stepB x y j && hasB a b w h (x + tX j) (y + tY j)) = false → I j s → I (j + 1) s)
    (step : ∀ (j : Nat) (s : List Ob) (K' : V → List Ob → Prop), j < 8 → I j s → (∀ s', I (j + 1) s' → K' (.sc (.bool true)) s') → (∀ s', J s' → K' (.sc (.bool false)) s') → acallF Tryz.prog pl (n + 4) m Tryz.prog.funcs.size [.yl l, .sc (.int .i64 j), .agg (cl (x + tX j) (y + tY j))] s K')
    (hend : ∀ s, I 8 s → K (.tup []) s) (hstop : ∀ s, J s → K (.tup []) s) : acallF Tryz.prog pl (n + 5) m 120 [.yl l, .ref rb 0, .ref rb2 0] st K := by
  refine acallF_inF Tryz.func120 rfl rfl Tryz.ntmps120 (by simp) ?_
  simp only [↓zP,zV,Nat.reduceAdd,Nat.reduceMul,Nat.reduceLT,Nat.reduceEqDiff,Nat.reduceLeDiff,Int.reduceLE,Int.reduceLT,Int.reduceBNe,Int.reduceBEq,Int.reduceNeg,Int.reduceEq,Int.reduceAdd,Int.reduceGT,Int.reduceGE,reduceCtorEq]
  refine aloop_forF (fun k f s => ∃ j : Nat, k + j = m ∧ j ≤ 8 ∧ I j s ∧ f 0 = .yl l ∧ f 1 = .ref rb 0 ∧ f 2 = .ref rb2 0 ∧ f 7 = .sc (.int .i64 j)) ⟨0, by omega, by omega, h0, by simp only [zF,Nat.reduceEqDiff,Nat.reduceLT], by simp only [zF,Nat.reduceEqDiff,Nat.reduceLT], by simp only [zF,Nat.reduceEqDiff,Nat.reduceLT], by simp only [zF,Nat.reduceEqDiff,Nat.reduceLT]; rfl⟩ ?_
  rintro I' hI' k f s ⟨j, hk, hj, hI, f0, f1, f2, f7⟩
  refine ⟨k - 1, by omega, ?_⟩
  by_cases hjl : j < 8
  · have dj : decide ((j : Int) < 8) = true := decide_eq_true (by omega)
    have e3 : IntKind.i64.wrap ((j : Int) + 1) = ((j + 1 : Nat) : Int) := by rw [IntWalk.i64_in _ (by omega)]; rfl
    obtain ⟨k1, k2⟩ := keep _ _ hI
    simp only [cl, rc] at k1 k2
    simp only [f0, f1, f2, f7, k1, dj, ↓zP,zV,Nat.reduceAdd,Nat.reduceMul,Nat.reduceLT,Nat.reduceEqDiff,Nat.reduceLeDiff,Int.reduceLE,Int.reduceLT,Int.reduceBNe,Int.reduceBEq,Int.reduceNeg,Int.reduceEq,Int.reduceAdd,Int.reduceGT,Int.reduceGE,reduceCtorEq]
    refine c_Step (n := n + 1) fun s1 j1 => ?_
    have a2 := fun X => Grw.push s1 X _ _ (j1 _ _ k2)
    have gX := fun X => grow _ _ _ hI (j1.push' X)
    have sk := skip j
    cases e : stepB x y j with
    | false =>
      simp only [f0, f1, f2, f7, cl, e, e3, ↓zP,zV,Nat.reduceAdd,Nat.reduceMul,Nat.reduceLT,Nat.reduceEqDiff,Nat.reduceLeDiff,Int.reduceLE,Int.reduceLT,Int.reduceBNe,Int.reduceBEq,Int.reduceNeg,Int.reduceEq,Int.reduceAdd,Int.reduceGT,Int.reduceGE,reduceCtorEq]
      exact hI' _ _ _ ⟨j + 1, by omega, hjl, sk _ hjl (by rw [e]; rfl) (gX _), by simp only [f0, zF,Nat.reduceEqDiff,Nat.reduceLT], by simp only [f1, zF,Nat.reduceEqDiff,Nat.reduceLT], by simp only [f2, zF,Nat.reduceEqDiff,Nat.reduceLT], by simp only [zF,Nat.reduceEqDiff,Nat.reduceLT]⟩
    | true =>
      have ex : stX x y j = x + tX j := by unfold stX; rw [if_pos e]
      have ey : stY x y j = y + tY j := by unfold stY; rw [if_pos e]
      simp only [f0, f1, f2, f7, cl, a2, e, ex, ey, ↓zP,zV,Nat.reduceAdd,Nat.reduceMul,Nat.reduceLT,Nat.reduceEqDiff,Nat.reduceLeDiff,Int.reduceLE,Int.reduceLT,Int.reduceBNe,Int.reduceBEq,Int.reduceNeg,Int.reduceEq,Int.reduceAdd,Int.reduceGT,Int.reduceGE,reduceCtorEq]
      refine c_Has (n := n) fun s2 j2 => ?_
      have t2 := j2 _ _ (get_new0 s1 [Ob.cells [V.sc (.int .i64 (x + tX j)), V.sc (.int .i64 (y + tY j))]])
      have g2 := grow _ _ _ (gX _) j2
      cases e2 : hasB a b w h (x + tX j) (y + tY j) with
      | false =>
        simp only [f0, f1, f2, f7, e2, e3, ↓zP,zV,Nat.reduceAdd,Nat.reduceMul,Nat.reduceLT,Nat.reduceEqDiff,Nat.reduceLeDiff,Int.reduceLE,Int.reduceLT,Int.reduceBNe,Int.reduceBEq,Int.reduceNeg,Int.reduceEq,Int.reduceAdd,Int.reduceGT,Int.reduceGE,reduceCtorEq]
        exact hI' _ _ _ ⟨j + 1, by omega, hjl, sk _ hjl (by rw [e2, Bool.and_false]) g2, by simp only [f0, zF,Nat.reduceEqDiff,Nat.reduceLT], by simp only [f1, zF,Nat.reduceEqDiff,Nat.reduceLT], by simp only [f2, zF,Nat.reduceEqDiff,Nat.reduceLT], by simp only [zF,Nat.reduceEqDiff,Nat.reduceLT]⟩
      | true =>
        simp only [f0, f1, f2, f7, t2, e2, get_new, get_new0, ↓zP,zV,Nat.reduceAdd,Nat.reduceMul,Nat.reduceLT,Nat.reduceEqDiff,Nat.reduceLeDiff,Int.reduceLE,Int.reduceLT,Int.reduceBNe,Int.reduceBEq,Int.reduceNeg,Int.reduceEq,Int.reduceAdd,Int.reduceGT,Int.reduceGE,reduceCtorEq]
        refine yl_fsz fsz (step j s2 _ hjl g2 (fun s' h' => ?_) fun s' h' => ?_)
        · simp only [f0, f1, f2, f7, e3, ↓zP,zV,Nat.reduceAdd,Nat.reduceMul,Nat.reduceLT,Nat.reduceEqDiff,Nat.reduceLeDiff,Int.reduceLE,Int.reduceLT,Int.reduceBNe,Int.reduceBEq,Int.reduceNeg,Int.reduceEq,Int.reduceAdd,Int.reduceGT,Int.reduceGE,reduceCtorEq]
          exact hI' _ _ _ ⟨j + 1, by omega, hjl, h', by simp only [f0, zF,Nat.reduceEqDiff,Nat.reduceLT], by simp only [f1, zF,Nat.reduceEqDiff,Nat.reduceLT], by simp only [f2, zF,Nat.reduceEqDiff,Nat.reduceLT], by simp only [zF,Nat.reduceEqDiff,Nat.reduceLT]⟩
        · simp only [↓zP,zV,Nat.reduceAdd,Nat.reduceMul,Nat.reduceLT,Nat.reduceEqDiff,Nat.reduceLeDiff,Int.reduceLE,Int.reduceLT,Int.reduceBNe,Int.reduceBEq,Int.reduceNeg,Int.reduceEq,Int.reduceAdd,Int.reduceGT,Int.reduceGE,reduceCtorEq]
          exact hstop _ h'
  · have dj : decide ((j : Int) < 8) = false := decide_eq_false (by omega)
    obtain rfl : j = 8 := by omega
    simp only [f0, f1, f2, f7, dj, ↓zP,zV,Nat.reduceAdd,Nat.reduceMul,Nat.reduceLT,Nat.reduceEqDiff,Nat.reduceLeDiff,Int.reduceLE,Int.reduceLT,Int.reduceBNe,Int.reduceBEq,Int.reduceNeg,Int.reduceEq,Int.reduceAdd,Int.reduceGT,Int.reduceGE,reduceCtorEq]
    exact hend _ hI
theorem has_wh {WW HH x y : Int} (h1 : 1 ≤ WW ∧ WW ≤ 128) (h2 : 1 ≤ HH ∧ HH ≤ 128) (hx : 0 ≤ x ∧ x < WW ∧ 0 ≤ y ∧ y < HH) : hasB 0 0 WW HH x y = true := by
  simp only [hasB, mayB, nearB, sideB, inB, Bool.and_eq_true, decide_eq_true_eq]
  omega
theorem leg_has {ts : List V} {d : Int} (h1 : 1 ≤ WW ∧ WW ≤ 128) (h2 : 1 ≤ HH ∧ HH ≤ 128) (h : (stepB x y d && hasB 0 0 WW HH (x + tX d) (y + tY d)) = false) : legB (standB WW HH ts L c z) x y d = false := by
  cases hh : legB (standB WW HH ts L c z) x y d with
  | false => rfl
  | true =>
    have e := leg_step hh
    simp only [legB, Bool.and_eq_true] at hh
    rw [e, has_wh h1 h2 (stand_in hh.1.2)] at h
    cases h
set_option maxHeartbeats 4000000 in
theorem c_Around1 {l tf tw ts : Nat} {I : Nat → List Ob → Prop} {J : List Ob → Prop} (hw : Wo S0 wd ro WW HH T L) (hg : Grw S0 st) (hl : S0.length ≤ l) (hll : l < st.length) (hm : 300 < m)
    (hf : st[tf]? = some (.cells (cl x y))) (htw : st[tw]? = some (.cells [.ref wd 0])) (hts : st[ts]? = some (.cells (cl c z))) (nl : tf ≠ l ∧ tw ≠ l ∧ ts ≠ l)
    (keep : ∀ k s, I k s → ∀ q o, q ≠ l → st[q]? = some o → s[q]? = some o) (grow : ∀ k s s', I k s → (∀ q o, q < st.length → s[q]? = some o → s'[q]? = some o) → I k s') (growJ : ∀ s s', J s → (∀ q o, q < st.length → s[q]? = some o → s'[q]? = some o) → J s') (h0 : I 0 st)
    (skip : ∀ (j : Nat) (s : List Ob), j < 8 → legB (standB WW HH (bs T) L c z) x y j = false → I j s → I (j + 1) s)
    (step : ∀ (j : Nat) (s : List Ob) (K' : V → List Ob → Prop), j < 8 → legB (standB WW HH (bs T) L c z) x y j = true → I j s → (∀ s', I (j + 1) s' → (∀ q o, st.length ≤ q → s[q]? = some o → s'[q]? = some o) → K' (.sc (.bool true)) s') → (∀ s', J s' → (∀ q o, st.length ≤ q → s[q]? = some o → s'[q]? = some o) → K' (.sc (.bool false)) s') →
      acallF Tryz.prog pl (n + 9) m Tryz.prog.funcs.size [.yl l, .sc (.int .i64 j), .agg (cl (x + tX j) (y + tY j))] s K')
    (hend : ∀ s, I 8 s → K (.tup []) s) (hstop : ∀ s, J s → K (.tup []) s) : acallF Tryz.prog pl (n + 12) m 88 [.yl l, .ref tf 0, .ref tw 0, .ref ts 0] st K := by
  obtain ⟨hW, hH, _, _⟩ := refOK_facts hw.ok
  refine acallF_inF Tryz.func88 rfl rfl Tryz.ntmps88 (by simp) ?_
  have g0 := Grw.push st [.cells [.yl l]]
  have b0 : (st ++ [Ob.cells [.yl l]])[st.length]? = some (.cells [.yl l]) := get_new0 _ _
  have p1 := g0 _ _ hf
  have p2 := g0 _ _ htw
  have p3 := g0 _ _ hts
  simp only [cl] at p1 p3
  simp only [cellsV_yl, one_yl, p1, p2, ↓zP,zV,Nat.reduceAdd,Nat.reduceMul,Nat.reduceLT,Nat.reduceEqDiff,Nat.reduceLeDiff,Int.reduceLE,Int.reduceLT,Int.reduceBNe,Int.reduceBEq,Int.reduceNeg,Int.reduceEq,Int.reduceAdd,Int.reduceGT,Int.reduceGE,reduceCtorEq]
  refine ((hw.grw hg).grw g0).all (n := n + 9) fun s1 j1 => ?_
  have p1' := j1 _ _ p1
  simp only [p1, p1', ↓zP,zV,Nat.reduceAdd,Nat.reduceMul,Nat.reduceLT,Nat.reduceEqDiff,Nat.reduceLeDiff,Int.reduceLE,Int.reduceLT,Int.reduceBNe,Int.reduceBEq,Int.reduceNeg,Int.reduceEq,Int.reduceAdd,Int.reduceGT,Int.reduceGE,reduceCtorEq]
  refine c_Ar ?_
  generalize hs2 : s1 ++ [Ob.cells (cl x y), Ob.cells (rc 0 0 WW HH)] = s2
  have gs : Grw st s2 := by rw [← hs2]; exact (g0.trans j1).push' _
  have r1 : s2[s1.length]? = some (.cells (cl x y)) := by rw [← hs2]; exact get_new _ _ 0
  have r2 : s2[s1.length + 1]? = some (.cells (rc 0 0 WW HH)) := by rw [← hs2]; exact get_new _ _ 1
  have r0 : s2[st.length]? = some (.cells [.yl l]) := by rw [← hs2]; exact Grw.push s1 _ _ _ (j1 _ _ b0)
  have l1 : st.length < s1.length := (List.getElem?_eq_some_iff.1 (j1 _ _ b0)).1
  have l2 : s2.length = s1.length + 2 := by rw [← hs2]; simp
  simp only [↓zP,zV,Nat.reduceAdd,Nat.reduceMul,Nat.reduceLT,Nat.reduceEqDiff,Nat.reduceLeDiff,Int.reduceLE,Int.reduceLT,Int.reduceBNe,Int.reduceBEq,Int.reduceNeg,Int.reduceEq,Int.reduceAdd,Int.reduceGT,Int.reduceGE,reduceCtorEq]
  generalize hF : fu (fu _ _ _) _ _ = F
  have q1 : F 1 = .ref tf 0 := by rw [← hF]; simp only [zF,Nat.reduceEqDiff,Nat.reduceLT]
  have q2 : F 2 = .ref tw 0 := by rw [← hF]; simp only [zF,Nat.reduceEqDiff,Nat.reduceLT]
  have q3 : F 3 = .ref ts 0 := by rw [← hF]; simp only [zF,Nat.reduceEqDiff,Nat.reduceLT]
  have q4 : F 4 = .ref st.length 0 := by rw [← hF]; simp only [zF,Nat.reduceEqDiff,Nat.reduceLT]
  clear hF
  generalize hO : Ob.loop .ready none _ _ _ _ _ = O
  refine c_Ar1 (n := n + 6) (x := x) (y := y) (a := 0) (b := 0) (w := WW) (h := HH)
    (I := fun k s => I k s ∧ s[s2.length]? = some O ∧ s[st.length]? = some (.cells [.yl l]) ∧ s[s1.length]? = some (.cells (cl x y)) ∧ s[s1.length + 1]? = some (.cells (rc 0 0 WW HH)))
    (J := fun s => J s ∧ ∃ a b c d e, s[s2.length]? = some (.loop .done (some .ret) a b c d e)) (by omega)
    (fun k s h => ⟨h.2.2.2.1, h.2.2.2.2⟩) (fun k s s' h g => ⟨grow _ _ _ h.1 fun q o _ ho => g _ _ ho, g _ _ h.2.1, g _ _ h.2.2.1, g _ _ h.2.2.2.1, g _ _ h.2.2.2.2⟩)
    ⟨grow _ _ _ h0 fun q o _ ho => Grw.push s2 _ _ _ (gs _ _ ho), get_new0 _ _, Grw.push s2 _ _ _ r0, Grw.push s2 _ _ _ r1, Grw.push s2 _ _ _ r2⟩
    (fun j s hj e h => ⟨skip j s hj (leg_has hW hH e) h.1, h.2⟩) ?_ ?_ ?_
  · rintro j s K' hj ⟨h1, h2, h3, h4, h5⟩ hK1 hK2
    subst hO
    refine acallF_yl h2 rfl ?_
    rw [aputs_two (by decide) (by decide)]
    simp only [cl, ↓zP,zV,Nat.reduceAdd,Nat.reduceMul,Nat.reduceLT,Nat.reduceEqDiff,Nat.reduceLeDiff,Int.reduceLE,Int.reduceLT,Int.reduceBNe,Int.reduceBEq,Int.reduceNeg,Int.reduceEq,Int.reduceAdd,Int.reduceGT,Int.reduceGE,reduceCtorEq]
    have g1 := Grw.push s [.cells [.sc (.int .i64 (x + tX j)), .sc (.int .i64 (y + tY j))]]
    have c6 : (s ++ [Ob.cells [V.sc (.int .i64 (x + tX j)), V.sc (.int .i64 (y + tY j))]])[s.length]? = some (.cells [V.sc (.int .i64 (x + tX j)), V.sc (.int .i64 (y + tY j))]) := get_new0 _ _
    refine rdMid_ok (g1 _ _ h2) ?_
    generalize hs3 : (s ++ [Ob.cells [V.sc (.int .i64 (x + tX j)), V.sc (.int .i64 (y + tY j))]]) = s3 at g1 c6
    have ls : s2.length < s.length := (List.getElem?_eq_some_iff.1 h2).1
    have lt : s2.length < s3.length := (List.getElem?_eq_some_iff.1 (g1 _ _ h2)).1
    generalize hs4 : s3.set s2.length _ = s4
    have k : ∀ q o, q ≠ s2.length → s3[q]? = some o → s4[q]? = some o := fun q o hq ho => by rw [← hs4, List.getElem?_set_ne (Ne.symm hq)]; exact ho
    have dl : ∀ o, s3.set s2.length o = s4 → s4[s2.length]? = some o := fun o ho => by rw [← ho]; exact List.getElem?_set_self lt
    have dl := dl _ hs4
    have lf := (List.getElem?_eq_some_iff.1 hf).1
    have lw := (List.getElem?_eq_some_iff.1 htw).1
    have lss := (List.getElem?_eq_some_iff.1 hts).1
    have ls2 := gs.le
    have df := k _ _ (by omega) (g1 _ _ (keep _ _ h1 _ _ nl.1 hf))
    have dw := k _ _ (by omega) (g1 _ _ (keep _ _ h1 _ _ nl.2.1 htw))
    have ds := k _ _ (by omega) (g1 _ _ (keep _ _ h1 _ _ nl.2.2 hts))
    have d3 := k _ _ (by omega) (g1 _ _ h3)
    have d4 := k _ _ (by omega) (g1 _ _ h4)
    have d5 := k _ _ (by omega) (g1 _ _ h5)
    have d6 := k _ _ (by omega) c6
    have G4 : Grw S0 s4 := fun q o hq => by
      have := (List.getElem?_eq_some_iff.1 hq).1
      exact k _ _ (by omega) (g1 _ _ (keep _ _ h1 _ _ (by omega) (hg _ _ hq)))
    have i4 : I j s4 := grow _ _ _ h1 fun q o hq ho => k _ _ (by omega) (g1 _ _ ho)
    simp only [cl] at df ds
    simp only [q1, q2, q3, df, dw, ds, ↓zP,zV,Nat.reduceAdd,Nat.reduceMul,Nat.reduceLT,Nat.reduceEqDiff,Nat.reduceLeDiff,Int.reduceLE,Int.reduceLT,Int.reduceBNe,Int.reduceBEq,Int.reduceNeg,Int.reduceEq,Int.reduceAdd,Int.reduceGT,Int.reduceGE,reduceCtorEq]
    refine c_Steps (n := n) (hw.grw G4) hm fun s5 j5 => ?_
    have i5 : I j s5 := grow _ _ _ i4 fun q o _ ho => j5 _ _ ho
    have l5 := (List.getElem?_eq_some_iff.1 (j5 _ _ dl)).1
    cases e : legB (standB WW HH (bs T) L c z) x y j with
    | false =>
      simp only [e, ↓zP,zV,Nat.reduceAdd,Nat.reduceMul,Nat.reduceLT,Nat.reduceEqDiff,Nat.reduceLeDiff,Int.reduceLE,Int.reduceLT,Int.reduceBNe,Int.reduceBEq,Int.reduceNeg,Int.reduceEq,Int.reduceAdd,Int.reduceGT,Int.reduceGE,reduceCtorEq]
      refine rdEnd_normal (j5 _ _ dl) ?_
      have ne : ∀ q, q < s2.length → ∀ o o', s5[q]? = some o → (s5.set s2.length o')[q]? = some o := fun q hq o o' ho => by rw [List.getElem?_set_ne (by omega)]; exact ho
      exact hK1 _ ⟨skip j _ hj e (grow _ _ _ i5 fun q o hq ho => ne _ (by omega) _ _ ho), List.getElem?_set_self l5, ne _ (by omega) _ _ (j5 _ _ d3), ne _ (by omega) _ _ (j5 _ _ d4), ne _ (by omega) _ _ (j5 _ _ d5)⟩
    | true =>
      simp only [q4, e, j5 _ _ d3, j5 _ _ d6, ↓zP,zV,Nat.reduceAdd,Nat.reduceMul,Nat.reduceLT,Nat.reduceEqDiff,Nat.reduceLeDiff,Int.reduceLE,Int.reduceLT,Int.reduceBNe,Int.reduceBEq,Int.reduceNeg,Int.reduceEq,Int.reduceAdd,Int.reduceGT,Int.reduceGE,reduceCtorEq]
      refine yl_fsz fsz (step j s5 _ hj e i5 (fun s6 i6 k6 => ?_) fun s6 i6 k6 => ?_)
      · simp only [↓zP,zV,Nat.reduceAdd,Nat.reduceMul,Nat.reduceLT,Nat.reduceEqDiff,Nat.reduceLeDiff,Int.reduceLE,Int.reduceLT,Int.reduceBNe,Int.reduceBEq,Int.reduceNeg,Int.reduceEq,Int.reduceAdd,Int.reduceGT,Int.reduceGE,reduceCtorEq]
        refine rdEnd_normal (k6 _ _ ls2 (j5 _ _ dl)) ?_
        have l6 := (List.getElem?_eq_some_iff.1 (k6 _ _ ls2 (j5 _ _ dl))).1
        have ne : ∀ q, q < s2.length → ∀ o o', s6[q]? = some o → (s6.set s2.length o')[q]? = some o := fun q hq o o' ho => by rw [List.getElem?_set_ne (by omega)]; exact ho
        exact hK1 _ ⟨grow _ _ _ i6 fun q o hq ho => ne _ (by omega) _ _ ho, List.getElem?_set_self l6, ne _ (by omega) _ _ (k6 _ _ (by omega) (j5 _ _ d3)), ne _ (by omega) _ _ (k6 _ _ (by omega) (j5 _ _ d4)), ne _ (by omega) _ _ (k6 _ _ (by omega) (j5 _ _ d5))⟩
      · simp only [↓zP,zV,Nat.reduceAdd,Nat.reduceMul,Nat.reduceLT,Nat.reduceEqDiff,Nat.reduceLeDiff,Int.reduceLE,Int.reduceLT,Int.reduceBNe,Int.reduceBEq,Int.reduceNeg,Int.reduceEq,Int.reduceAdd,Int.reduceGT,Int.reduceGE,reduceCtorEq]
        refine rdEnd_ret (k6 _ _ ls2 (j5 _ _ dl)) ?_
        have l6 := (List.getElem?_eq_some_iff.1 (k6 _ _ ls2 (j5 _ _ dl))).1
        refine hK2 _ ⟨growJ _ _ i6 fun q o hq ho => ?_, _, _, _, _, _, List.getElem?_set_self l6⟩
        rw [List.getElem?_set_ne (by omega)]
        exact ho
  · intro s h
    subst hO
    refine rfEnd_normal h.2.1 (by decide) ?_
    simp only [↓zP,zV,Nat.reduceAdd,Nat.reduceMul,Nat.reduceLT,Nat.reduceEqDiff,Nat.reduceLeDiff,Int.reduceLE,Int.reduceLT,Int.reduceBNe,Int.reduceBEq,Int.reduceNeg,Int.reduceEq,Int.reduceAdd,Int.reduceGT,Int.reduceGE,reduceCtorEq]
    refine hend _ (grow _ _ _ h.1 fun q o hq ho => ?_)
    rw [List.getElem?_set_ne (by omega)]
    exact ho
  · rintro s ⟨h, a1, a2, a3, a4, a5, h2⟩
    subst hO
    refine rfEnd_ret h2 (by decide) ?_
    simp only [↓zP,zV,Nat.reduceAdd,Nat.reduceMul,Nat.reduceLT,Nat.reduceEqDiff,Nat.reduceLeDiff,Int.reduceLE,Int.reduceLT,Int.reduceBNe,Int.reduceBEq,Int.reduceNeg,Int.reduceEq,Int.reduceAdd,Int.reduceGT,Int.reduceGE,reduceCtorEq]
    refine hstop _ (growJ _ _ h fun q o hq ho => ?_)
    rw [List.getElem?_set_ne (by omega)]
    exact ho
end
def Pt (s : List Ob) (tb : Nat) (L M : List o.U) : Prop := ∃ ix a b u c us os gs cls cc, o.Rel us os L ∧ o.Ix s ix a b us os ∧ o.Tb s tb ix u c cls cc ∧ o.Cr L M gs cls cc
def chT (S : Int → Int → Bool) (may : Int → Int → Int) (x y wt a b : Int) : Int × Int × Int :=
  if legB S x y (dirI x y a b) = true then
    if may a b = 0 then (1, a, b) else if wt < 3 then (2, 0, 0) else match (List.range 8).find? (fun d : Nat => asideB S may x y a b d) with
      | some d => (3, x + tX d, y + tY d)
      | none => (2, 0, 0)
  else (4, 0, 0)
section
variable {S : Int → Int → Bool} {may : Int → Int → Int} {u : Un} {x y a b wt : Int}
theorem ch_stay (h : u.ph ≠ 1 ∨ u.P = []) : chS S may u = (0, 0, 0) := by
  unfold chS
  cases hP : u.P with
  | nil => rfl
  | cons c P =>
    simp only
    rw [if_neg fun hh => (h.resolve_right (by rw [hP]; simp)) hh.1]
theorem ch_bad (h : (headB u && movB u) = false) : chS S may u = (0, 0, 0) := by
  unfold chS
  cases hP : u.P with
  | nil => rfl
  | cons c P =>
    simp only
    rw [if_neg fun hh => by rw [h] at hh; cases hh.2]
theorem ch_go {c : Int × Int} {P : List (Int × Int)} (hP : u.P = c :: P) (h1 : u.ph = 1) (h2 : (headB u && movB u) = true) : chS S may u = chT S may u.x u.y u.wt c.1 c.2 := by
  unfold chS
  rw [hP]
  simp only
  rw [if_pos ⟨h1, h2⟩]
  rfl
theorem chT_lose (h : legB S x y (dirI x y a b) = false) : chT S may x y wt a b = (4, 0, 0) := by
  unfold chT; rw [if_neg (by rw [h]; decide)]
theorem chT_go (h : legB S x y (dirI x y a b) = true) (h2 : may a b = 0) : chT S may x y wt a b = (1, a, b) := by
  unfold chT; rw [if_pos h, if_pos h2]
theorem chT_wait (h : legB S x y (dirI x y a b) = true) (h2 : may a b ≠ 0) (h3 : wt < 3) : chT S may x y wt a b = (2, 0, 0) := by
  unfold chT; rw [if_pos h, if_neg h2, if_pos h3]
theorem chT_none (h : legB S x y (dirI x y a b) = true) (h2 : may a b ≠ 0) (h3 : ¬ wt < 3) (h4 : ∀ i : Nat, i < 8 → asideB S may x y a b i = false) : chT S may x y wt a b = (2, 0, 0) := by
  unfold chT; rw [if_pos h, if_neg h2, if_neg h3, find_miss (p := fun d : Nat => asideB S may x y a b d) h4]
theorem chT_aside (h : legB S x y (dirI x y a b) = true) (h2 : may a b ≠ 0) (h3 : ¬ wt < 3) {j : Nat} (hj : j < 8) (h4 : ∀ i : Nat, i < j → asideB S may x y a b i = false) (h5 : asideB S may x y a b j = true) : chT S may x y wt a b = (3, x + tX j, y + tY j) := by
  unfold chT; rw [if_pos h, if_neg h2, if_neg h3, find_hit (p := fun d : Nat => asideB S may x y a b d) hj h4 h5]
end
section
variable {n m : Nat} {st s S0 : List Ob} {K : V → List Ob → Prop} {wd rd tb : Nat} {ro : Option Nat} {WW HH : Int} {T : List Int} {L : List B4} {L2 Q : List o.U} {x y a b id : Int} {pv : V} {u : Un}
theorem Pt.grw (h : Pt st tb L2 Q) (k : Grw st s) : Pt s tb L2 Q := by
  obtain ⟨ix, a, b, u, c, us, os, gs, cls, cc, h1, h2, h3, h4⟩ := h
  exact ⟨ix, a, b, u, c, us, os, gs, cls, cc, h1, h2.grw k, h3.grw k, h4⟩
theorem Pt.may (h : Pt st tb L2 Q) (hm : 300 < m) (hK : ∀ s, Grw st s → K (.sc (.int .i64 (o.mayC L2 Q id x y))) s) : acallF Tryz.prog pl (n + 7) m 21 [.ref tb 0, .sc (.int .i64 id), .agg (cl x y)] st K := by
  obtain ⟨ix, a, b, u, c, us, os, gs, cls, cc, h1, h2, h3, h4⟩ := h
  exact o.do_MayC h1 h2 h3 h4 hm hK
set_option maxHeartbeats 4000000 in
theorem ch_yl {ps : Array Tmp} {asg body : Code} (hc : frf (Tryz.f15.body.getD .skip) = some (ps, asg, body)) {F : Nat → V} {t4 t5 t6 t7 lid : Nat} {p : Option Code} {d : Int} (q4 : F 4 = .ref t4 0) (q5 : F 5 = .ref t5 0) (q6 : F 6 = .ref t6 0) (q7 : F 7 = .ref t7 0)
    (ht : Pt S0 tb L2 Q) (hg : Grw S0 s) (hlid : S0.length ≤ lid) (hm : 300 < m) (h4 : s[t4]? = some (.cells [.ref tb 0])) (h5 : s[t5]? = some (.cells (unV u pv))) (h6 : s[t6]? = some (.cells [.sc (.int .i64 0), .sc (.int .i64 0), .sc (.int .i64 0)])) (h7 : s[t7]? = some (.cells (cl a b)))
    (hl : s[lid]? = some (.loop .ready p (pl 15) (ofF 74 F) ps.toList asg body))
    (hK : (!(x == a && y == b) && o.mayC L2 Q u.id x y == 0) = false → ∀ s', s'[lid]? = some (.loop .ready none (pl 15) (ofF 74 F) ps.toList asg body) → (∀ j o, j ≠ lid → s[j]? = some o → s'[j]? = some o) → K (.sc (.bool true)) s')
    (hK2 : (!(x == a && y == b) && o.mayC L2 Q u.id x y == 0) = true → ∀ s', s'[lid]? = some (.loop .done (some .ret) (pl 15) (ofF 74 F) ps.toList asg body) → s'[t6]? = some (.cells [.sc (.int .i64 3), .sc (.int .i64 x), .sc (.int .i64 y)]) → (∀ j o, j ≠ lid → j ≠ t6 → s[j]? = some o → s'[j]? = some o) → K (.sc (.bool false)) s') :
    acallF Tryz.prog pl (n + 8) m Tryz.prog.funcs.size [.yl lid, .sc (.int .i64 d), .agg (cl x y)] s K := by
  simp only [Tryz.f15, Option.getD_some, frf, Option.some.injEq, Prod.mk.injEq] at hc
  obtain ⟨rfl, rfl, rfl⟩ := hc
  refine acallF_yl hl rfl ?_
  rw [show (#[58, 59] : Array Tmp).toList = [58, 59] from rfl, aputs_two (by decide) (by decide)]
  simp only [cl, ↓zP,zV,Nat.reduceAdd,Nat.reduceMul,Nat.reduceLT,Nat.reduceEqDiff,Nat.reduceLeDiff,Int.reduceLE,Int.reduceLT,Int.reduceBNe,Int.reduceBEq,Int.reduceNeg,Int.reduceEq,Int.reduceAdd,Int.reduceGT,Int.reduceGE,reduceCtorEq]
  simp only [cl] at h7
  simp only [unV] at h5
  have g0 := Grw.push s [.cells [.sc (.int .i64 x), .sc (.int .i64 y)]]
  have c8 : (s ++ [Ob.cells [V.sc (.int .i64 x), V.sc (.int .i64 y)]])[s.length]? = some (.cells [V.sc (.int .i64 x), V.sc (.int .i64 y)]) := get_new0 _ _
  refine rdMid_ok (g0 _ _ hl) ?_
  generalize hs1 : (s ++ [Ob.cells [V.sc (.int .i64 x), V.sc (.int .i64 y)]]) = s1 at g0 c8
  have nl : s.length ≠ lid := fun he => by subst he; rw [List.getElem?_eq_none (Nat.le_refl _)] at hl; cases hl
  have lt : lid < s1.length := (List.getElem?_eq_some_iff.1 (g0 _ _ hl)).1
  have nc : ∀ (j : Nat) (c : List V), s[j]? = some (.cells c) → j ≠ lid := fun j c hj he => by subst he; rw [hl] at hj; cases hj
  generalize hs2 : s1.set lid _ = s2
  have k : ∀ j o, j ≠ lid → s1[j]? = some o → s2[j]? = some o := fun j o hj ho => by rw [← hs2, List.getElem?_set_ne (Ne.symm hj)]; exact ho
  have d4 := k _ _ (nc _ _ h4) (g0 _ _ h4)
  have d5 := k _ _ (nc _ _ h5) (g0 _ _ h5)
  have d6 := k _ _ (nc _ _ h6) (g0 _ _ h6)
  have d7 := k _ _ (nc _ _ h7) (g0 _ _ h7)
  have d8 := k _ _ nl c8
  have dl : ∀ o, s1.set lid o = s2 → s2[lid]? = some o := fun o ho => by rw [← ho]; exact List.getElem?_set_self lt
  have dl := dl _ hs2
  have fr : ∀ j o, j ≠ lid → s[j]? = some o → s2[j]? = some o := fun j o hj ho => k _ _ hj (g0 _ _ ho)
  have G2 : Grw S0 s2 := fun j o hj => by
    have := (List.getElem?_eq_some_iff.1 hj).1
    exact fr _ _ (by omega) (hg _ _ hj)
  have go : (!(x == a && y == b) && o.mayC L2 Q u.id x y == 0) = false → ∀ s3, Grw s2 s3 → K (.sc (.bool true)) (s3.set lid (.loop .ready none (pl 15) (ofF 74 F) [58, 59] _ _)) := fun hb s3 j3 => by
    have ll := (List.getElem?_eq_some_iff.1 (j3 _ _ dl)).1
    refine hK hb _ (List.getElem?_set_self ll) fun j o hjl ho => ?_
    rw [List.getElem?_set_ne (Ne.symm hjl)]
    exact j3 _ _ (fr _ _ hjl ho)
  cases e1 : (x == a && y == b) with
  | true =>
    simp only [q4, q5, q6, q7, d4, d5, d7, d8, e1, cmp_cellN, ↓zP,zV,Nat.reduceAdd,Nat.reduceMul,Nat.reduceLT,Nat.reduceEqDiff,Nat.reduceLeDiff,Int.reduceLE,Int.reduceLT,Int.reduceBNe,Int.reduceBEq,Int.reduceNeg,Int.reduceEq,Int.reduceAdd,Int.reduceGT,Int.reduceGE,reduceCtorEq]
    refine rdEnd_normal dl ?_
    exact go (by rw [e1]; rfl) _ (Grw.refl _)
  | false =>
    simp only [q4, q5, q6, q7, d4, d5, d7, d8, e1, cmp_cellN, ↓zP,zV,Nat.reduceAdd,Nat.reduceMul,Nat.reduceLT,Nat.reduceEqDiff,Nat.reduceLeDiff,Int.reduceLE,Int.reduceLT,Int.reduceBNe,Int.reduceBEq,Int.reduceNeg,Int.reduceEq,Int.reduceAdd,Int.reduceGT,Int.reduceGE,reduceCtorEq]
    refine (ht.grw G2).may (n := n) hm fun s3 j3 => ?_
    have n6 := nc _ _ h6
    have f6 := j3 _ _ d6
    have f8 := j3 _ _ d8
    have r6 := fun o => get_set f6 o
    cases e2 : (o.mayC L2 Q u.id x y == 0) with
    | false =>
      simp only [q4, q5, q6, q7, e2, ↓zP,zV,Nat.reduceAdd,Nat.reduceMul,Nat.reduceLT,Nat.reduceEqDiff,Nat.reduceLeDiff,Int.reduceLE,Int.reduceLT,Int.reduceBNe,Int.reduceBEq,Int.reduceNeg,Int.reduceEq,Int.reduceAdd,Int.reduceGT,Int.reduceGE,reduceCtorEq]
      refine rdEnd_normal (j3 _ _ dl) ?_
      exact go (by rw [e2, Bool.and_false]) _ j3
    | true =>
      simp only [q4, q5, q6, q7, f6, f8, r6, e2, ↓zP,zV,Nat.reduceAdd,Nat.reduceMul,Nat.reduceLT,Nat.reduceEqDiff,Nat.reduceLeDiff,Int.reduceLE,Int.reduceLT,Int.reduceBNe,Int.reduceBEq,Int.reduceNeg,Int.reduceEq,Int.reduceAdd,Int.reduceGT,Int.reduceGE,reduceCtorEq]
      refine rdEnd_ret (by rw [List.getElem?_set_ne n6]; exact j3 _ _ dl) ?_
      have ll := (List.getElem?_eq_some_iff.1 (j3 _ _ dl)).1
      have l6 := (List.getElem?_eq_some_iff.1 f6).1
      refine hK2 (by rw [e1, e2]; rfl) _ ?_ ?_ ?_
      · rw [List.getElem?_set_self (by rw [List.length_set]; exact ll)]
      · rw [List.getElem?_set_ne (Ne.symm n6), List.getElem?_set_self l6]
      · intro j o hjl hj6 ho
        rw [List.getElem?_set_ne (Ne.symm hjl), List.getElem?_set_ne (Ne.symm hj6)]
        exact j3 _ _ (fr _ _ hjl ho)
set_option maxHeartbeats 8000000 in
theorem c_Choose (hw : Wo st wd ro WW HH T L) (ht : Pt st tb L2 Q) (hp : Pth st pv u.P) (hm : 20000 < m) (hK : ∀ s, Grw st s → K (.agg (chV (chS (standB WW HH (bs T) L u.c u.z) (o.mayC L2 Q u.id) u))) s) :
    acallF Tryz.prog pl (n + 13) m 15 [.ref wd 0, .ref tb 0, .agg (unV u pv)] st K := by
  refine acallF_inF Tryz.func15 rfl rfl Tryz.ntmps15 (by simp) ?_
  obtain ⟨o1, o2⟩ := hp.2
  have g0 := Grw.push st [.cells [.ref tb 0], .cells (unV u pv), .cells [.sc (.int .i64 0), .sc (.int .i64 0), .sc (.int .i64 0)]]
  have c4 : (st ++ [Ob.cells [.ref tb 0], .cells (unV u pv), .cells [.sc (.int .i64 0), .sc (.int .i64 0), .sc (.int .i64 0)]])[st.length]? = some (.cells [.ref tb 0]) := get_new _ _ 0
  have c5 : (st ++ [Ob.cells [.ref tb 0], .cells (unV u pv), .cells [.sc (.int .i64 0), .sc (.int .i64 0), .sc (.int .i64 0)]])[st.length + 1]? = some (.cells (unV u pv)) := get_new _ _ 1
  have c6 : (st ++ [Ob.cells [.ref tb 0], .cells (unV u pv), .cells [.sc (.int .i64 0), .sc (.int .i64 0), .sc (.int .i64 0)]])[st.length + 2]? = some (.cells [.sc (.int .i64 0), .sc (.int .i64 0), .sc (.int .i64 0)]) := get_new _ _ 2
  simp only [unV] at g0 c4 c5 c6
  simp only [unV, o1, o2, c5, ↓zP,zV,Nat.reduceAdd,Nat.reduceMul,Nat.reduceLT,Nat.reduceEqDiff,Nat.reduceLeDiff,Int.reduceLE,Int.reduceLT,Int.reduceBNe,Int.reduceBEq,Int.reduceNeg,Int.reduceEq,Int.reduceAdd,Int.reduceGT,Int.reduceGE,reduceCtorEq]
  have stn : ∀ (s : List Ob) (o : Ob), Grw st s → Grw st (s.set (st.length + 2) o) := fun s o h => h.set (by omega) o
  refine u_Next (n := n + 11) (u := u) (pv := pv) (hp.grw g0) (fun hh s1 j1 => ?_) (fun h1 c P hP s1 j1 => ?_)
  · rw [ch_stay hh] at hK
    have a6 := fun X => Grw.push s1 X _ _ (j1 _ _ c6)
    have q6 := fun X o => get_set (a6 X) o
    simp only [chV] at hK
    simp only [cl, a6, q6, ↓zP,zV,Nat.reduceAdd,Nat.reduceMul,Nat.reduceLT,Nat.reduceEqDiff,Nat.reduceLeDiff,Int.reduceLE,Int.reduceLT,Int.reduceBNe,Int.reduceBEq,Int.reduceNeg,Int.reduceEq,Int.reduceAdd,Int.reduceGT,Int.reduceGE,reduceCtorEq]
    exact hK _ (stn _ _ ((g0.trans j1).push' _))
  have a4 := fun X => Grw.push s1 X _ _ (j1 _ _ c4)
  have a5 := fun X => Grw.push s1 X _ _ (j1 _ _ c5)
  have a6 := fun X => Grw.push s1 X _ _ (j1 _ _ c6)
  have G1 := fun X => (g0.trans j1).push' X
  simp only [cl, a5, o1, o2, ↓zP,zV,Nat.reduceAdd,Nat.reduceMul,Nat.reduceLT,Nat.reduceEqDiff,Nat.reduceLeDiff,Int.reduceLE,Int.reduceLT,Int.reduceBNe,Int.reduceBEq,Int.reduceNeg,Int.reduceEq,Int.reduceAdd,Int.reduceGT,Int.reduceGE,reduceCtorEq]
  refine u_Check (n := n + 5) (u := u) (pv := pv) (hp.grw (G1 _)) h1 hm (fun hh s2 j2 => ?_) (fun hh s2 j2 => ?_)
  case' _ =>
    have b4 := j2 _ _ (a4 _)
    have b5 := j2 _ _ (a5 _)
    have b6 := j2 _ _ (a6 _)
    have b7 := j2 _ _ (get_new0 s1 [Ob.cells [V.sc (.int .i64 c.1), V.sc (.int .i64 c.2)]])
    have G2 := (G1 _).trans j2
    have q6 := fun o => get_set b6 o
  rotate_left
  · rw [ch_bad hh] at hK
    have b6 := j2 _ _ (a6 _)
    have q6 := fun o => get_set b6 o
    simp only [chV] at hK
    simp only [b6, q6, ↓zP,zV,Nat.reduceAdd,Nat.reduceMul,Nat.reduceLT,Nat.reduceEqDiff,Nat.reduceLeDiff,Int.reduceLE,Int.reduceLT,Int.reduceBNe,Int.reduceBEq,Int.reduceNeg,Int.reduceEq,Int.reduceAdd,Int.reduceGT,Int.reduceGE,reduceCtorEq]
    exact hK _ (stn _ _ ((G1 _).trans j2))
  rw [ch_go hP h1 hh] at hK
  simp only [b4, b5, b6, b7, get_new, get_new0, List.getElem?_cons_zero, ↓zP,zV,Nat.reduceAdd,Nat.reduceMul,Nat.reduceLT,Nat.reduceEqDiff,Nat.reduceLeDiff,Int.reduceLE,Int.reduceLT,Int.reduceBNe,Int.reduceBEq,Int.reduceNeg,Int.reduceEq,Int.reduceAdd,Int.reduceGT,Int.reduceGE,reduceCtorEq]
  refine c_Dir (n := n + 8) (by omega) fun s3 j3 => ?_
  have d4 := j3 _ _ b4
  have d5 := j3 _ _ b5
  have d6 := j3 _ _ b6
  have d7 := j3 _ _ b7
  have G3 := G2.trans j3
  simp only [b4, b5, b6, b7, d4, d5, d6, d7, get_new, get_new0, List.getElem?_cons_zero, ↓zP,zV,Nat.reduceAdd,Nat.reduceMul,Nat.reduceLT,Nat.reduceEqDiff,Nat.reduceLeDiff,Int.reduceLE,Int.reduceLT,Int.reduceBNe,Int.reduceBEq,Int.reduceNeg,Int.reduceEq,Int.reduceAdd,Int.reduceGT,Int.reduceGE,reduceCtorEq]
  refine c_Steps (n := n + 3) (hw.grw G3) (by omega) fun s4 j4 => ?_
  have e4 := j4 _ _ d4
  have e5 := j4 _ _ d5
  have e6 := j4 _ _ d6
  have e7 := j4 _ _ d7
  have G4 := G3.trans j4
  have r4 := fun o => get_set e6 o
  cases q1 : legB (standB WW HH (bs T) L u.c u.z) u.x u.y (dirI u.x u.y c.1 c.2) with
  | false =>
    rw [chT_lose q1] at hK
    simp only [chV] at hK
    simp only [b4, b5, b6, b7, d4, d5, d6, d7, e4, e5, e6, e7, r4, q1, ↓zP,zV,Nat.reduceAdd,Nat.reduceMul,Nat.reduceLT,Nat.reduceEqDiff,Nat.reduceLeDiff,Int.reduceLE,Int.reduceLT,Int.reduceBNe,Int.reduceBEq,Int.reduceNeg,Int.reduceEq,Int.reduceAdd,Int.reduceGT,Int.reduceGE,reduceCtorEq]
    exact hK _ (stn _ _ G4)
  | true =>
  simp only [b4, b5, b6, b7, d4, d5, d6, d7, e4, e5, e6, e7, q1, List.getElem?_cons_zero, ↓zP,zV,Nat.reduceAdd,Nat.reduceMul,Nat.reduceLT,Nat.reduceEqDiff,Nat.reduceLeDiff,Int.reduceLE,Int.reduceLT,Int.reduceBNe,Int.reduceBEq,Int.reduceNeg,Int.reduceEq,Int.reduceAdd,Int.reduceGT,Int.reduceGE,reduceCtorEq]
  refine (ht.grw G4).may (n := n + 5) (by omega) fun s5 j5 => ?_
  have f4 := j5 _ _ e4
  have f5 := j5 _ _ e5
  have f6 := j5 _ _ e6
  have f7 := j5 _ _ e7
  have G5 := G4.trans j5
  have r5 := fun o => get_set f6 o
  cases q2 : (o.mayC L2 Q u.id c.1 c.2 == 0) with
  | true =>
    rw [chT_go q1 (by simpa using q2)] at hK
    simp only [chV] at hK
    simp only [f4, f5, f6, f7, r5, q2, List.getElem?_cons_zero, ↓zP,zV,Nat.reduceAdd,Nat.reduceMul,Nat.reduceLT,Nat.reduceEqDiff,Nat.reduceLeDiff,Int.reduceLE,Int.reduceLT,Int.reduceBNe,Int.reduceBEq,Int.reduceNeg,Int.reduceEq,Int.reduceAdd,Int.reduceGT,Int.reduceGE,reduceCtorEq]
    exact hK _ (stn _ _ G5)
  | false =>
  have q2' : o.mayC L2 Q u.id c.1 c.2 ≠ 0 := by simpa using q2
  cases q3 : decide (u.wt < 3) with
  | true =>
    rw [chT_wait q1 q2' (of_decide_eq_true q3)] at hK
    simp only [chV] at hK
    simp only [f4, f5, f6, f7, r5, q2, q3, List.getElem?_cons_zero, ↓zP,zV,Nat.reduceAdd,Nat.reduceMul,Nat.reduceLT,Nat.reduceEqDiff,Nat.reduceLeDiff,Int.reduceLE,Int.reduceLT,Int.reduceBNe,Int.reduceBEq,Int.reduceNeg,Int.reduceEq,Int.reduceAdd,Int.reduceGT,Int.reduceGE,reduceCtorEq]
    exact hK _ (stn _ _ G5)
  | false =>
  have q3' := of_decide_eq_false q3
  simp only [f4, f5, f6, f7, q2, q3, List.getElem?_cons_zero, ↓zP,zV,Nat.reduceAdd,Nat.reduceMul,Nat.reduceLT,Nat.reduceEqDiff,Nat.reduceLeDiff,Int.reduceLE,Int.reduceLT,Int.reduceBNe,Int.reduceBEq,Int.reduceNeg,Int.reduceEq,Int.reduceAdd,Int.reduceGT,Int.reduceGE,reduceCtorEq]
  refine c_Around ?_
  generalize hs6 : s5 ++ [Ob.cells [V.ref wd 0], Ob.cells (cl u.c u.z), Ob.cells (cl u.x u.y)] = s6
  simp only [↓zP,zV,Nat.reduceAdd,Nat.reduceMul,Nat.reduceLT,Nat.reduceEqDiff,Nat.reduceLeDiff,Int.reduceLE,Int.reduceLT,Int.reduceBNe,Int.reduceBEq,Int.reduceNeg,Int.reduceEq,Int.reduceAdd,Int.reduceGT,Int.reduceGE,reduceCtorEq]
  have g6 : Grw s5 s6 := by rw [← hs6]; exact .push _ _
  have x0 : s6[s5.length]? = some (.cells [V.ref wd 0]) := by rw [← hs6]; exact get_new _ _ 0
  have x1 : s6[s5.length + 1]? = some (.cells (cl u.c u.z)) := by rw [← hs6]; exact get_new _ _ 1
  have x2 : s6[s5.length + 2]? = some (.cells (cl u.x u.y)) := by rw [← hs6]; exact get_new _ _ 2
  have l6 : s6.length = s5.length + 3 := by rw [← hs6]; simp
  have l5 : st.length + 2 < s5.length := (List.getElem?_eq_some_iff.1 f6).1
  have l7 : s1.length < s5.length := (List.getElem?_eq_some_iff.1 f7).1
  generalize hO : Ob.loop .ready none _ _ _ _ _ = O
  have g7 := fun X => Grw.push s6 X
  have G7 : Grw st (s6 ++ [O]) := (G5.trans g6).trans (g7 _)
  have hln : (s6 ++ [O]).length = s6.length + 1 := by simp
  generalize hSS : standB WW HH (bs T) L u.c u.z = SS at hK q1
  refine c_Around1 (n := n) (S0 := st) (l := s6.length) (tf := s5.length + 2) (tw := s5.length) (ts := s5.length + 1) (x := u.x) (y := u.y) (c := u.c) (z := u.z)
    (I := fun k s => (∀ i : Nat, i < k → asideB SS (o.mayC L2 Q u.id) u.x u.y c.1 c.2 i = false) ∧ s[s6.length]? = some O ∧ (∀ q o, q ≠ s6.length → (s6 ++ [O])[q]? = some o → s[q]? = some o))
    (J := fun s => (∃ j : Nat, j < 8 ∧ (∀ i : Nat, i < j → asideB SS (o.mayC L2 Q u.id) u.x u.y c.1 c.2 i = false) ∧ asideB SS (o.mayC L2 Q u.id) u.x u.y c.1 c.2 j = true ∧ s[st.length + 2]? = some (.cells [.sc (.int .i64 3), .sc (.int .i64 (u.x + tX j)), .sc (.int .i64 (u.y + tY j))])) ∧ (∃ a b c d e, s[s6.length]? = some (.loop .done (some .ret) a b c d e)) ∧ (∀ q o, q ≠ s6.length → q ≠ st.length + 2 → (s6 ++ [O])[q]? = some o → s[q]? = some o))
    hw G7 (by omega) (by omega) (by omega) (g7 _ _ _ x2) (g7 _ _ _ x0) (g7 _ _ _ x1) ⟨by omega, by omega, by omega⟩ (fun k s h => h.2.2)
    (fun k s s' h g => ⟨h.1, g _ _ (by omega) h.2.1, fun q o hq ho => g _ _ (List.getElem?_eq_some_iff.1 ho).1 (h.2.2 q o hq ho)⟩)
    (fun s s' h g => by
      obtain ⟨⟨j, h1, h2, h3, h4⟩, ⟨a1, a2, a3, a4, a5, h5⟩, h6⟩ := h
      exact ⟨⟨j, h1, h2, h3, g _ _ (by omega) h4⟩, ⟨a1, a2, a3, a4, a5, g _ _ (by omega) h5⟩, fun q o hq hq2 ho => g _ _ (List.getElem?_eq_some_iff.1 ho).1 (h6 q o hq hq2 ho)⟩)
    ⟨fun i hi => absurd hi (by omega), get_new0 _ _, fun _ _ _ h => h⟩
    (fun j s hj e h => ⟨fun i hi => by
      by_cases hij : i = j
      · rw [hSS] at e
        rw [hij, asideB, e]; rfl
      · exact h.1 i (by omega), h.2⟩) ?_ ?_ ?_
  · rintro j s K' hj hleg ⟨i1, i2, i3⟩ hK1 hK2
    rw [hSS] at hleg
    have hasd : asideB SS (o.mayC L2 Q u.id) u.x u.y c.1 c.2 j = (!(u.x + tX j == c.1 && u.y + tY j == c.2) && o.mayC L2 Q u.id (u.x + tX j) (u.y + tY j) == 0) := by simp only [asideB, hleg, Bool.true_and]
    have up : ∀ q o, q ≠ s6.length → s5[q]? = some o → s[q]? = some o := fun q o hq ho => i3 _ _ hq (g7 _ _ _ (g6 _ _ ho))
    have Gs : Grw st s := fun q o ho => by
      have := (List.getElem?_eq_some_iff.1 ho).1
      exact up _ _ (by omega) (G5 _ _ ho)
    subst hO
    refine ch_yl (n := n + 1) (u := u) (pv := pv) rfl (t4 := st.length) (t5 := st.length + 1) (t6 := st.length + 2) (t7 := s1.length) (by simp only [zF,Nat.reduceEqDiff,Nat.reduceLT]) (by simp only [zF,Nat.reduceEqDiff,Nat.reduceLT]) (by simp only [zF,Nat.reduceEqDiff,Nat.reduceLT]) (by simp only [zF,Nat.reduceEqDiff,Nat.reduceLT]) ht Gs (by omega) (by omega) (up _ _ (by omega) f4) (up _ _ (by omega) f5) (up _ _ (by omega) f6) (up _ _ (by omega) f7) i2 (fun hh s' k2 k3 => ?_) fun hh s' k2 k4 k3 => ?_
    · refine hK1 _ ⟨fun i hi => ?_, k2, fun q o h1 h2 => k3 q o h1 (i3 q o h1 h2)⟩ fun q o hq ho => k3 q o (by omega) ho
      by_cases hij : i = j
      · rw [hij, hasd]; exact hh
      · exact i1 i (by omega)
    · exact hK2 _ ⟨⟨j, hj, i1, hasd.trans hh, k4⟩, ⟨_, _, _, _, _, k2⟩, fun q o h1 h2 h3 => k3 q o h1 h2 (i3 q o h1 h3)⟩ fun q o hq ho => k3 q o (by omega) (by omega) ho
  · rintro s ⟨i1, i2, i3⟩
    subst hO
    rw [chT_none q1 q2' q3' i1] at hK
    simp only [chV] at hK
    refine rfEnd_normal i2 (by decide) ?_
    generalize hs7 : s.set s6.length _ = s7
    have up : ∀ q o, q ≠ s6.length → s5[q]? = some o → s7[q]? = some o := fun q o hq ho => by
      rw [← hs7, List.getElem?_set_ne (Ne.symm hq)]
      exact i3 _ _ hq (g7 _ _ _ (g6 _ _ ho))
    have y6 := up _ _ (by omega) f6
    have r7 := fun o => get_set y6 o
    simp only [y6, r7, ↓zP,zV,Nat.reduceAdd,Nat.reduceMul,Nat.reduceLT,Nat.reduceEqDiff,Nat.reduceLeDiff,Int.reduceLE,Int.reduceLT,Int.reduceBNe,Int.reduceBEq,Int.reduceNeg,Int.reduceEq,Int.reduceAdd,Int.reduceGT,Int.reduceGE,reduceCtorEq]
    refine hK _ (stn _ _ fun q o ho => ?_)
    have := (List.getElem?_eq_some_iff.1 ho).1
    exact up _ _ (by omega) (G5 _ _ ho)
  · rintro s ⟨⟨j, hj, i1, i2, i3⟩, ⟨a1, a2, a3, a4, a5, i4⟩, i5⟩
    subst hO
    rw [chT_aside q1 q2' q3' hj i1 i2] at hK
    simp only [chV] at hK
    refine rfEnd_ret i4 (by decide) ?_
    generalize hs7 : s.set s6.length _ = s7
    have y6 : s7[st.length + 2]? = some (.cells [.sc (.int .i64 3), .sc (.int .i64 (u.x + tX j)), .sc (.int .i64 (u.y + tY j))]) := by
      rw [← hs7, List.getElem?_set_ne (by omega)]
      exact i3
    simp only [y6, ↓zP,zV,Nat.reduceAdd,Nat.reduceMul,Nat.reduceLT,Nat.reduceEqDiff,Nat.reduceLeDiff,Int.reduceLE,Int.reduceLT,Int.reduceBNe,Int.reduceBEq,Int.reduceNeg,Int.reduceEq,Int.reduceAdd,Int.reduceGT,Int.reduceGE,reduceCtorEq]
    refine hK _ fun q o ho => ?_
    have := (List.getElem?_eq_some_iff.1 ho).1
    rw [← hs7, List.getElem?_set_ne (by omega)]
    exact i5 _ _ (by omega) (by omega) (g7 _ _ _ (g6 _ _ (G5 _ _ ho)))
end
end Go.Proofs.YtpdhoicpaonggaaGreat
