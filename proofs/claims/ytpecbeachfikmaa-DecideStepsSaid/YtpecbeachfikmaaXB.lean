/- Chapter 23: one legal step; no longer than it must: the law. -/
import Derived.Test.YtpecbeachfikmaaXA
set_option linter.unusedVariables false
set_option linter.unusedSimpArgs false
set_option maxRecDepth 10000
namespace Go.Proofs.Ytpecbeachfikmaa
open Go Go.M Go.RowKit
attribute [local congr] acallF_cong aloop_cong bcase_cong resK_cong valK_cong wantK_cong callK_cong xputK_cong qputK_cong resM_cong rfK_cong
attribute [local irreducible] seqK blockK loopK nextK bcase resK valK wantK funK putK dputK xputK qputK callK aops aop acode adraw aloop acallF acall invK resM rfK rfEnd rdEnd rdMid around
/-! ### Chapter 23: one legal step; no longer than it must: the law. -/
section
variable {n m : Nat} {st s : List Ob} {K : V → List Ob → Prop} {WW HH : Int} {T : List Int} {L : List B4} {tv bv lv cv pv : V} {E : List o.U} {C : List o.K4} {u : Un}
set_option maxHeartbeats 8000000 in
theorem l23_Steps (ht : ∀ s, Rd Try.prog s 5 tv (bs T) T.length) (hb : ∀ s, Rd Try.prog s 141 bv (L.flatMap B4.v) L.length) (ot : one tv = true ∧ cellsV tv = [tv]) (ob : one bv = true ∧ cellsV bv = [bv])
    (hm : 20000 < m) (hTm : T.length < m) (hTb : ∀ t ∈ T, 0 ≤ t ∧ t < 256) (hT : T.length ≤ 140737488355328) (hL : L.length ≤ 3518437208883)
    (he : ∀ s, Rd Try.prog s 91 lv (E.flatMap o.U.v) E.length) (hid : ∀ e ∈ E, o.inR e.id) (hEm : E.length < m) (hEl : E.length ≤ 3518437208883) (ol : M.one lv = true ∧ cellsV lv = [lv]) (oc : M.one cv = true ∧ cellsV cv = [cv]) (hp : ∀ s, Pth s pv u.P)
    (hK : ∀ s, K (.sc (.bool true)) s) : acallF Try.prog pl (n + 15) m 3 [.agg (mp WW HH tv bv), .agg (scV lv cv pv u)] st K := by
  refine acallF_inF Try.func3 rfl rfl Try.ntmps3 (by simp) ?_
  obtain ⟨op1, op2⟩ := (hp []).2
  obtain ⟨S, hS⟩ : ∃ S, S = st ++ [Ob.cells (mp WW HH tv bv), Ob.cells (scV lv cv pv u)] := ⟨_, rfl⟩
  have c0 : S[st.length]? = some (.cells (mp WW HH tv bv)) := by rw [hS]; exact get_new _ _ 0
  have c1 : S[st.length + 1]? = some (.cells (scV lv cv pv u)) := by rw [hS]; exact get_new _ _ 1
  simp only [mp, scV, unV] at hS c0 c1
  simp only [mp, scV, unV, ot.1, ot.2, ob.1, ob.2, ol.1, ol.2, oc.1, oc.2, op1, op2, get_new, get_new0, List.getElem?_cons_zero, ↓zP,zV,Nat.reduceAdd,Nat.reduceMul,Nat.reduceLT,Nat.reduceEqDiff,Nat.reduceLeDiff,Int.reduceLE,Int.reduceLT,Int.reduceBNe,Int.reduceBEq,Int.reduceNeg,Int.reduceEq,Int.reduceAdd,Int.reduceGT,Int.reduceGE,reduceCtorEq]
  rw [← hS]
  refine l6_Both (n := n + 4) ht hb ot ob (by omega) hTm hTb hT hL (fun s1 j1 => ?_) (fun wd rd s1 hw j1 => ?_)
  · simp only [↓zP,zV,Nat.reduceAdd,Nat.reduceMul,Nat.reduceLT,Nat.reduceEqDiff,Nat.reduceLeDiff,Int.reduceLE,Int.reduceLT,Int.reduceBNe,Int.reduceBEq,Int.reduceNeg,Int.reduceEq,Int.reduceAdd,Int.reduceGT,Int.reduceGE,reduceCtorEq]
    refine awake23 (n := n) hm fun s2 j2 => ?_
    simp only [↓zP,zV,Nat.reduceAdd,Nat.reduceMul,Nat.reduceLT,Nat.reduceEqDiff,Nat.reduceLeDiff,Int.reduceLE,Int.reduceLT,Int.reduceBNe,Int.reduceBEq,Int.reduceNeg,Int.reduceEq,Int.reduceAdd,Int.reduceGT,Int.reduceGE,reduceCtorEq]
    exact hK _
  have a1 := j1 _ _ c1
  simp only [a1, ol.1, ol.2, ↓zP,zV,Nat.reduceAdd,Nat.reduceMul,Nat.reduceLT,Nat.reduceEqDiff,Nat.reduceLeDiff,Int.reduceLE,Int.reduceLT,Int.reduceBNe,Int.reduceBEq,Int.reduceNeg,Int.reduceEq,Int.reduceAdd,Int.reduceGT,Int.reduceGE,reduceCtorEq]
  refine o.l22_MadeG (n := n + 6) (E := E) (fun s _ => he s) hid hEm hEl (by omega) fun s2 ix a b tb v c z iy us os L2 sv hL2 hab huc hd hx hr gd hT2 hz hy g2 _ _ => ?_
  have b1 := g2 _ _ a1
  simp only [b1, ↓zP,zV,Nat.reduceAdd,Nat.reduceMul,Nat.reduceLT,Nat.reduceEqDiff,Nat.reduceLeDiff,Int.reduceLE,Int.reduceLT,Int.reduceBNe,Int.reduceBEq,Int.reduceNeg,Int.reduceEq,Int.reduceAdd,Int.reduceGT,Int.reduceGE,reduceCtorEq]
  refine g_Of (n := n + 7) (c := u.c) (z := u.z) (hw.grw g2) (by omega) fun s3 iv g3 gnd => ?_
  have d1 := g3 _ _ b1
  obtain ⟨o3, o4⟩ := gnd.one
  have gs3 := fun X => Grw.push s3 X
  have e1 := fun X => gs3 X _ _ d1
  have e11 := fun X => get_new0 s3 (Ob.cells [V.sc (.int .i64 WW), V.sc (.int .i64 HH), iv] :: X)
  have ht3 : Pt s2 tb L2 [] := ⟨_, _, _, _, _, _, _, _, _, _, hr, hx, hT2, .nil _⟩
  simp only [e1, o3, o4, op1, op2, get_new, get_new0, M.set_new, M.set_new0, List.getElem?_cons_zero, ↓zP,zV,Nat.reduceAdd,Nat.reduceMul,Nat.reduceLT,Nat.reduceEqDiff,Nat.reduceLeDiff,Int.reduceLE,Int.reduceLT,Int.reduceBNe,Int.reduceBEq,Int.reduceNeg,Int.reduceEq,Int.reduceAdd,Int.reduceGT,Int.reduceGE,reduceCtorEq]
  refine c_Choose (n := n + 1) (u := u) (pv := pv) (L2 := L2) (Q := []) ((hw.grw g2).grw (g3.trans (gs3 _))) ((ht3.grw g3).grw (gs3 _)) (hp _) hm fun s4 j4 => ?_
  have f1 := j4 _ _ (e1 _)
  have f11 := j4 _ _ (e11 _)
  have gd4 := (gnd.grw (gs3 _)).grw j4
  have G24 := (g3.trans (gs3 _)).trans j4
  have w1 := fun X => Grw.push s4 X _ _ f1
  have w11 := fun X => Grw.push s4 X _ _ f11
  rcases ch_cases (standB WW HH (bs T) L u.c u.z) (o.mayC L2 [] u.id) u with ⟨k, x, y, d, hch, hk, hdir, hleg, hmay⟩ | ⟨p, P, hP, hch, hmay⟩ | hch | hch
  · rw [hch]
    subst hdir
    have l1 : st.length + 1 < s4.length := (List.getElem?_eq_some_iff.1 f1).1
    have l11 : s3.length < s4.length := (List.getElem?_eq_some_iff.1 f11).1
    have wt := fun X => get_new0 s4 (Ob.cells (chV (k, x, y)) :: X)
    simp only [chV] at wt
    rcases hk with rfl | rfl
    all_goals
      simp only [chV, w1, w11, o3, o4, get_new, get_new0, M.set_new, M.set_new0, List.getElem?_cons_zero, ↓zP,zV,Nat.reduceAdd,Nat.reduceMul,Nat.reduceLT,Nat.reduceEqDiff,Nat.reduceLeDiff,Int.reduceLE,Int.reduceLT,Int.reduceBNe,Int.reduceBEq,Int.reduceNeg,Int.reduceEq,Int.reduceAdd,Int.reduceGT,Int.reduceGE,reduceCtorEq]
      refine r_Dir (n := n + 10) (by omega) fun s5 j5 => ?_
      have k1 := j5 _ _ (w1 _)
      have k11 := j5 _ _ (w11 _)
      have k12 := j5 _ _ (wt _)
      have ng5 : s5[s4.length + 1]? = some .gone := j5 _ _ (get_new s4 _ 1)
      simp only [w1, w11, wt, k1, k11, k12, ng5, o3, o4, ↓zP,zV,Nat.reduceAdd,Nat.reduceMul,Nat.reduceLT,Nat.reduceEqDiff,Nat.reduceLeDiff,Int.reduceLE,Int.reduceLT,Int.reduceBNe,Int.reduceBEq,Int.reduceNeg,Int.reduceEq,Int.reduceAdd,Int.reduceGT,Int.reduceGE,reduceCtorEq]
      refine g_Steps (n := n + 9) ((gd4.grw (Grw.push s4 _)).grw j5) (fun q1 s6 j6 => ?_) (fun q1 => absurd hleg (by rw [q1]; decide))
      have ng6 := j6 _ _ ng5
      have z6 := fun o => get_set ng6 o
      have ne : ∀ q, q < s4.length + 1 → ∀ o o', s6[q]? = some o → (s6.set (s4.length + 1) o')[q]? = some o := fun q hq o o' h => by rw [List.getElem?_set_ne (by omega)]; exact h
      have n1 := fun o => ne _ (by omega) _ o (j6 _ _ k1)
      have n11 := fun o => ne _ (by omega) _ o (j6 _ _ k11)
      have n12 := fun o => ne _ (by omega) _ o (j6 _ _ k12)
      have GX : ∀ o, Grw s2 (s6.set (s4.length + 1) o) := fun o => (((G24.trans (Grw.push s4 _)).trans j5).trans j6).set (by have := G24.le; omega) o
      simp only [cl, w1, w11, wt, k1, k11, k12, j6 _ _ k1, j6 _ _ k11, j6 _ _ k12, ng5, ng6, z6, n1, n11, n12, o3, o4, List.set_set, ↓zP,zV,Nat.reduceAdd,Nat.reduceMul,Nat.reduceLT,Nat.reduceEqDiff,Nat.reduceLeDiff,Int.reduceLE,Int.reduceLT,Int.reduceBNe,Int.reduceBEq,Int.reduceNeg,Int.reduceEq,Int.reduceAdd,Int.reduceGT,Int.reduceGE,reduceCtorEq]
      refine o.do_Claim (n := n + 6) hr (hx.grw (GX _)) (hT2.grw (GX _)) (.nil _) huc (by omega) (fun hne => absurd hmay hne) (fun _ p gs cls cc s7 _ _ _ _ _ => ?_)
      simp only [↓zP,zV,Nat.reduceAdd,Nat.reduceMul,Nat.reduceLT,Nat.reduceEqDiff,Nat.reduceLeDiff,Int.reduceLE,Int.reduceLT,Int.reduceBNe,Int.reduceBEq,Int.reduceNeg,Int.reduceEq,Int.reduceAdd,Int.reduceGT,Int.reduceGE,reduceCtorEq]
      refine awake23 (n := n) hm fun s8 j8 => ?_
      simp only [↓zP,zV,Nat.reduceAdd,Nat.reduceMul,Nat.reduceLT,Nat.reduceEqDiff,Nat.reduceLeDiff,Int.reduceLE,Int.reduceLT,Int.reduceBNe,Int.reduceBEq,Int.reduceNeg,Int.reduceEq,Int.reduceAdd,Int.reduceGT,Int.reduceGE,reduceCtorEq]
      exact hK _
  · rw [hch]
    have i1 := fun X => ((hp (s4 ++ X)).ix (i := 0) (by rw [hP]; simp)).1
    have i2 := fun X => ((hp (s4 ++ X)).ix (i := 0) (by rw [hP]; simp)).2
    simp only [hP, List.getElem_cons_zero, Int.natCast_zero] at i1 i2
    simp only [chV, w1, w11, i1, i2, get_new, get_new0, M.set_new, M.set_new0, List.getElem?_cons_zero, List.getElem?_cons_succ, ↓zP,zV,Nat.reduceAdd,Nat.reduceMul,Nat.reduceLT,Nat.reduceEqDiff,Nat.reduceLeDiff,Int.reduceLE,Int.reduceLT,Int.reduceBNe,Int.reduceBEq,Int.reduceNeg,Int.reduceEq,Int.reduceAdd,Int.reduceGT,Int.reduceGE,reduceCtorEq]
    refine (((ht3.grw G24).grw (Grw.push s4 _))).may (n := n + 7) (by omega) fun s5 j5 => ?_
    have v12 := j5 _ _ (get_new0 s4 [Ob.cells (chV (2, 0, 0)), Ob.cells [V.sc (.int .i64 p.1), V.sc (.int .i64 p.2)]])
    simp only [chV] at v12
    have q2 : (o.mayC L2 [] u.id p.1 p.2 != 0) = true := by simpa using hmay
    simp only [v12, q2, cmp_cell, ↓zP,zV,Nat.reduceAdd,Nat.reduceMul,Nat.reduceLT,Nat.reduceEqDiff,Nat.reduceLeDiff,Int.reduceLE,Int.reduceLT,Int.reduceBNe,Int.reduceBEq,Int.reduceNeg,Int.reduceEq,Int.reduceAdd,Int.reduceGT,Int.reduceGE,reduceCtorEq]
    refine awake23 (n := n) hm fun s6 j6 => ?_
    simp only [↓zP,zV,Nat.reduceAdd,Nat.reduceMul,Nat.reduceLT,Nat.reduceEqDiff,Nat.reduceLeDiff,Int.reduceLE,Int.reduceLT,Int.reduceBNe,Int.reduceBEq,Int.reduceNeg,Int.reduceEq,Int.reduceAdd,Int.reduceGT,Int.reduceGE,reduceCtorEq]
    exact hK _
  · rw [hch]
    simp only [chV, w1, w11, cmp_cell, get_new, get_new0, M.set_new, M.set_new0, List.getElem?_cons_zero, ↓zP,zV,Nat.reduceAdd,Nat.reduceMul,Nat.reduceLT,Nat.reduceEqDiff,Nat.reduceLeDiff,Int.reduceLE,Int.reduceLT,Int.reduceBNe,Int.reduceBEq,Int.reduceNeg,Int.reduceEq,Int.reduceAdd,Int.reduceGT,Int.reduceGE,reduceCtorEq]
    refine awake23 (n := n) hm fun s6 j6 => ?_
    simp only [↓zP,zV,Nat.reduceAdd,Nat.reduceMul,Nat.reduceLT,Nat.reduceEqDiff,Nat.reduceLeDiff,Int.reduceLE,Int.reduceLT,Int.reduceBNe,Int.reduceBEq,Int.reduceNeg,Int.reduceEq,Int.reduceAdd,Int.reduceGT,Int.reduceGE,reduceCtorEq]
    exact hK _
  · rw [hch]
    simp only [chV, w1, w11, cmp_cell, get_new, get_new0, M.set_new, M.set_new0, List.getElem?_cons_zero, ↓zP,zV,Nat.reduceAdd,Nat.reduceMul,Nat.reduceLT,Nat.reduceEqDiff,Nat.reduceLeDiff,Int.reduceLE,Int.reduceLT,Int.reduceBNe,Int.reduceBEq,Int.reduceNeg,Int.reduceEq,Int.reduceAdd,Int.reduceGT,Int.reduceGE,reduceCtorEq]
    refine awake23 (n := n) hm fun s6 j6 => ?_
    simp only [↓zP,zV,Nat.reduceAdd,Nat.reduceMul,Nat.reduceLT,Nat.reduceEqDiff,Nat.reduceLeDiff,Int.reduceLE,Int.reduceLT,Int.reduceBNe,Int.reduceBEq,Int.reduceNeg,Int.reduceEq,Int.reduceAdd,Int.reduceGT,Int.reduceGE,reduceCtorEq]
    exact hK _
end
end Go.Proofs.Ytpecbeachfikmaa
