/- Chapter 23: what a unit does, by the reference. Chapter 23: a map's world both ways; an index and a table over it, both ways; the fixed question. Chapter 23: one legal step; no longer than it must: the law. A scene, as it is handed in. -/
import Derived.Test.YtpdhoicpaonggaaGreatX9
set_option linter.unusedVariables false
set_option linter.unusedSimpArgs false
set_option maxRecDepth 10000
namespace Go.Proofs.YtpdhoicpaonggaaGreat
open Go Go.M Go.RowKit
attribute [local congr] acallF_cong aloop_cong bcase_cong resK_cong valK_cong wantK_cong callK_cong xputK_cong qputK_cong resM_cong rfK_cong
attribute [local irreducible] seqK blockK loopK nextK bcase resK valK wantK funK putK dputK xputK qputK callK aops aop acode adraw aloop acallF acall invK resM rfK rfEnd rdEnd rdMid around
def Rq (s : List Ob) (z : Nat) (L Q : List o.U) : Prop := ∃ iy sv cv us os gs cls cc, o.Ri s iy sv L ∧ o.Rel us os L ∧ o.Rt s z iy cv (Q.map o.cOf) ∧ o.Cr L Q gs cls cc ∧ L.length ≤ 256 ∧ Q.length ≤ 256
section
variable {n m : Nat} {st s S0 : List Ob} {K : V → List Ob → Prop} {z : Nat} {WW HH : Int} {L2 Q : List o.U} {x y a b id : Int} {iv pv : V} {u : Un} {S : Int → Int → Bool}
theorem Rq.grw (h : Rq st z L2 Q) (k : Grw st s) : Rq s z L2 Q := by
  obtain ⟨iy, sv, cv, us, os, gs, cls, cc, h1, h2, h3, h4, h5, h6⟩ := h
  exact ⟨iy, sv, cv, us, os, gs, cls, cc, h1.grw k, h2, h3.grw k, h4, h5, h6⟩
theorem Rq.may (h : Rq st z L2 Q) (hm : 300 < m) (hK : ∀ s, Grw st s → K (.sc (.int .i64 (o.mayC L2 Q id x y))) s) : acallF Tryz.prog pl (n + 7) m 24 [.ref z 0, .sc (.int .i64 id), .agg (cl x y)] st K := by
  obtain ⟨iy, sv, cv, us, os, gs, cls, cc, h1, h2, h3, h4, h5, h6⟩ := h
  exact o.r_MayClaim h1 h2 h3 h4 hm h5 h6 hK
set_option maxHeartbeats 8000000 in
theorem r_Choose (hg : Gnd st iv WW HH S) (ht : Rq st z L2 Q) (hp : Pth st pv u.P) (hm : 20000 < m) (hK : ∀ s, Grw st s → K (.agg (chV (chS S (o.mayC L2 Q u.id) u))) s) :
    acallF Tryz.prog pl (n + 8) m 29 [.agg [.sc (.int .i64 WW), .sc (.int .i64 HH), iv], .ref z 0, .agg (unV u pv)] st K := by
  refine acallF_inF Tryz.func29 rfl rfl Tryz.ntmps29 (by simp) ?_
  obtain ⟨o1, o2⟩ := hp.2
  obtain ⟨o3, o4⟩ := hg.one
  obtain ⟨S1, hS⟩ : ∃ S1, S1 = st ++ [Ob.cells [.sc (.int .i64 WW), .sc (.int .i64 HH), iv], .cells (unV u pv), .cells [.sc (.int .i64 0), .sc (.int .i64 0), .sc (.int .i64 0)]] := ⟨_, rfl⟩
  have g0 : Grw st S1 := by rw [hS]; exact .push _ _
  have c3 : S1[st.length]? = some (.cells [.sc (.int .i64 WW), .sc (.int .i64 HH), iv]) := by rw [hS]; exact get_new _ _ 0
  have c5 : S1[st.length + 1]? = some (.cells (unV u pv)) := by rw [hS]; exact get_new _ _ 1
  have c6 : S1[st.length + 2]? = some (.cells [.sc (.int .i64 0), .sc (.int .i64 0), .sc (.int .i64 0)]) := by rw [hS]; exact get_new _ _ 2
  simp only [unV] at hS c5
  simp only [unV, o1, o2, o3, o4, get_new, get_new0, List.getElem?_cons_succ, List.getElem?_cons_zero, ↓zP,zV,Nat.reduceAdd,Nat.reduceMul,Nat.reduceLT,Nat.reduceEqDiff,Nat.reduceLeDiff,Int.reduceLE,Int.reduceLT,Int.reduceToNat,Int.reduceBNe,Int.reduceBEq,Int.reduceNeg,Int.reduceEq,Int.reduceAdd,Int.reduceGT,Int.reduceGE,reduceCtorEq]
  rw [← hS]
  have stn : ∀ (s : List Ob) (o : Ob), Grw st s → Grw st (s.set (st.length + 2) o) := fun s o h => h.set (by omega) o
  refine r_Next (n := n + 6) (u := u) (pv := pv) (hp.grw g0) (fun hh s1 j1 => ?_) (fun h1 c P hP s1 j1 => ?_)
  · rw [ch_stay hh] at hK
    have a5 := fun X => Grw.push s1 X _ _ (j1 _ _ c5)
    have a6 := fun X => Grw.push s1 X _ _ (j1 _ _ c6)
    have G1 := fun X => (g0.trans j1).push' X
    simp only [chV] at hK
    simp only [cl, a5, o1, o2, ↓zP,zV,Nat.reduceAdd,Nat.reduceMul,Nat.reduceLT,Nat.reduceEqDiff,Nat.reduceLeDiff,Int.reduceLE,Int.reduceLT,Int.reduceToNat,Int.reduceBNe,Int.reduceBEq,Int.reduceNeg,Int.reduceEq,Int.reduceAdd,Int.reduceGT,Int.reduceGE,reduceCtorEq]
    refine r_UMay (n := n + 2) (u := u) (pv := pv) (hp.grw (G1 _)) hm fun b s2 _ j2 => ?_
    have b6 := j2 _ _ (a6 _)
    have q6 := fun o => get_set b6 o
    cases b with
    | false =>
      simp only [b6, q6, ↓zP,zV,Nat.reduceAdd,Nat.reduceMul,Nat.reduceLT,Nat.reduceEqDiff,Nat.reduceLeDiff,Int.reduceLE,Int.reduceLT,Int.reduceToNat,Int.reduceBNe,Int.reduceBEq,Int.reduceNeg,Int.reduceEq,Int.reduceAdd,Int.reduceGT,Int.reduceGE,reduceCtorEq]
      exact hK _ (stn _ _ ((G1 _).trans j2))
    | true =>
      simp only [b6, q6, ↓zP,zV,Nat.reduceAdd,Nat.reduceMul,Nat.reduceLT,Nat.reduceEqDiff,Nat.reduceLeDiff,Int.reduceLE,Int.reduceLT,Int.reduceToNat,Int.reduceBNe,Int.reduceBEq,Int.reduceNeg,Int.reduceEq,Int.reduceAdd,Int.reduceGT,Int.reduceGE,reduceCtorEq]
      exact hK _ (stn _ _ ((G1 _).trans j2))
  have a3 := fun X => Grw.push s1 X _ _ (j1 _ _ c3)
  have a5 := fun X => Grw.push s1 X _ _ (j1 _ _ c5)
  have a6 := fun X => Grw.push s1 X _ _ (j1 _ _ c6)
  have G1 := fun X => (g0.trans j1).push' X
  simp only [cl, a5, o1, o2, ↓zP,zV,Nat.reduceAdd,Nat.reduceMul,Nat.reduceLT,Nat.reduceEqDiff,Nat.reduceLeDiff,Int.reduceLE,Int.reduceLT,Int.reduceToNat,Int.reduceBNe,Int.reduceBEq,Int.reduceNeg,Int.reduceEq,Int.reduceAdd,Int.reduceGT,Int.reduceGE,reduceCtorEq]
  refine r_UMay (n := n + 2) (u := u) (pv := pv) (hp.grw (G1 _)) hm fun b s2 hb j2 => ?_
  have hb := hb h1 (by rw [hP]; simp)
  have b3 := j2 _ _ (a3 _)
  have b5 := j2 _ _ (a5 _)
  have b6 := j2 _ _ (a6 _)
  have b7 : s2[s1.length]? = some (.cells [V.sc (.int .i64 c.1), V.sc (.int .i64 c.2)]) := j2 _ _ (get_new0 s1 [Ob.cells [V.sc (.int .i64 c.1), V.sc (.int .i64 c.2)]])
  have G2 := (G1 _).trans j2
  have q6 := fun o => get_set b6 o
  cases b with
  | false =>
    rw [ch_bad hb.symm] at hK
    simp only [chV] at hK
    simp only [b6, q6, ↓zP,zV,Nat.reduceAdd,Nat.reduceMul,Nat.reduceLT,Nat.reduceEqDiff,Nat.reduceLeDiff,Int.reduceLE,Int.reduceLT,Int.reduceToNat,Int.reduceBNe,Int.reduceBEq,Int.reduceNeg,Int.reduceEq,Int.reduceAdd,Int.reduceGT,Int.reduceGE,reduceCtorEq]
    exact hK _ (stn _ _ G2)
  | true =>
  rw [ch_go hP h1 hb.symm] at hK
  have x3 := fun X => Grw.push s2 X _ _ b3
  have x5 := fun X => Grw.push s2 X _ _ b5
  have x6 := fun X => Grw.push s2 X _ _ b6
  have x7 := fun X => Grw.push s2 X _ _ b7
  simp only [b3, b5, b6, b7, x3, x5, x6, x7, o1, o2, o3, o4, ↓zP,zV,Nat.reduceAdd,Nat.reduceMul,Nat.reduceLT,Nat.reduceEqDiff,Nat.reduceLeDiff,Int.reduceLE,Int.reduceLT,Int.reduceToNat,Int.reduceBNe,Int.reduceBEq,Int.reduceNeg,Int.reduceEq,Int.reduceAdd,Int.reduceGT,Int.reduceGE,reduceCtorEq]
  have hm8 : 8 < m := by omega
  refine r_Dir (n := n + 3) hm8 fun s3 j3 => ?_
  have d3 := j3 _ _ (x3 _)
  have d5 := j3 _ _ (x5 _)
  have d6 := j3 _ _ (x6 _)
  have d7 := j3 _ _ (x7 _)
  have ng3 : s3[s2.length]? = some .gone := j3 _ _ (get_new0 s2 [Ob.gone])
  have G3 := (G2.push' _).trans j3
  simp only [b3, b5, b6, b7, x3, x5, x6, x7, d3, d5, d6, d7, ng3, o1, o2, o3, o4, ↓zP,zV,Nat.reduceAdd,Nat.reduceMul,Nat.reduceLT,Nat.reduceEqDiff,Nat.reduceLeDiff,Int.reduceLE,Int.reduceLT,Int.reduceToNat,Int.reduceBNe,Int.reduceBEq,Int.reduceNeg,Int.reduceEq,Int.reduceAdd,Int.reduceGT,Int.reduceGE,reduceCtorEq]
  have l6 : st.length + 2 < s2.length := (List.getElem?_eq_some_iff.1 b6).1
  have l7 : s1.length < s2.length := (List.getElem?_eq_some_iff.1 b7).1
  refine g_Steps (n := n + 2) (hg.grw G3) (fun q1 s4 j4 => ?_) (fun q1 s4 j4 => ?_)
  rotate_left
  · have ng4 := j4 _ _ ng3
    have z4 := fun o => get_set ng4 o
    have e3 : ∀ o, (s4.set s2.length o)[st.length]? = _ := fun o => (List.getElem?_set_ne (by omega)).trans (j4 _ _ d3)
    have e5 : ∀ o, (s4.set s2.length o)[st.length + 1]? = _ := fun o => (List.getElem?_set_ne (by omega)).trans (j4 _ _ d5)
    have e6 : ∀ o, (s4.set s2.length o)[st.length + 2]? = _ := fun o => (List.getElem?_set_ne (by omega)).trans (j4 _ _ d6)
    have e7 : ∀ o, (s4.set s2.length o)[s1.length]? = _ := fun o => (List.getElem?_set_ne (by omega)).trans (j4 _ _ d7)
    have r4 := fun o o' => get_set (e6 o) o'
    rw [chT_lose q1] at hK
    simp only [chV] at hK
    simp only [cl, b3, b5, b6, b7, x3, x5, x6, x7, d3, d5, d6, d7, j4 _ _ d3, j4 _ _ d5, j4 _ _ d6, j4 _ _ d7, ng3, ng4, z4, e3, e5, e6, e7, r4, o1, o2, o3, o4, List.set_set, ↓zP,zV,Nat.reduceAdd,Nat.reduceMul,Nat.reduceLT,Nat.reduceEqDiff,Nat.reduceLeDiff,Int.reduceLE,Int.reduceLT,Int.reduceToNat,Int.reduceBNe,Int.reduceBEq,Int.reduceNeg,Int.reduceEq,Int.reduceAdd,Int.reduceGT,Int.reduceGE,reduceCtorEq]
    exact hK _ (stn _ _ ((G3.trans j4).set (by omega) _))
  have ng4 := j4 _ _ ng3
  have z4 := fun o => get_set ng4 o
  have e3 : ∀ o, (s4.set s2.length o)[st.length]? = _ := fun o => (List.getElem?_set_ne (by omega)).trans (j4 _ _ d3)
  have e5 : ∀ o, (s4.set s2.length o)[st.length + 1]? = _ := fun o => (List.getElem?_set_ne (by omega)).trans (j4 _ _ d5)
  have e6 : ∀ o, (s4.set s2.length o)[st.length + 2]? = _ := fun o => (List.getElem?_set_ne (by omega)).trans (j4 _ _ d6)
  have e7 : ∀ o, (s4.set s2.length o)[s1.length]? = _ := fun o => (List.getElem?_set_ne (by omega)).trans (j4 _ _ d7)
  have G4 := fun o => (G3.trans j4).set (show st.length ≤ s2.length by omega) o
  simp only [cl, b3, b5, b6, b7, x3, x5, x6, x7, d3, d5, d6, d7, j4 _ _ d3, j4 _ _ d5, j4 _ _ d6, j4 _ _ d7, ng3, ng4, z4, e3, e5, e6, e7, o1, o2, o3, o4, List.set_set, ↓zP,zV,Nat.reduceAdd,Nat.reduceMul,Nat.reduceLT,Nat.reduceEqDiff,Nat.reduceLeDiff,Int.reduceLE,Int.reduceLT,Int.reduceToNat,Int.reduceBNe,Int.reduceBEq,Int.reduceNeg,Int.reduceEq,Int.reduceAdd,Int.reduceGT,Int.reduceGE,reduceCtorEq]
  refine (ht.grw (G4 _)).may (n := n) (by omega) fun s5 j5 => ?_
  have f3 := j5 _ _ (e3 _)
  have f5 := j5 _ _ (e5 _)
  have f6 := j5 _ _ (e6 _)
  have f7 := j5 _ _ (e7 _)
  have G5 := (G4 _).trans j5
  have r5 := fun o => get_set f6 o
  cases q2 : (o.mayC L2 Q u.id c.1 c.2 == 0) with
  | true =>
    rw [chT_go q1 (by simpa using q2)] at hK
    simp only [chV] at hK
    simp only [f3, f5, f6, f7, r5, q2, ↓zP,zV,Nat.reduceAdd,Nat.reduceMul,Nat.reduceLT,Nat.reduceEqDiff,Nat.reduceLeDiff,Int.reduceLE,Int.reduceLT,Int.reduceToNat,Int.reduceBNe,Int.reduceBEq,Int.reduceNeg,Int.reduceEq,Int.reduceAdd,Int.reduceGT,Int.reduceGE,reduceCtorEq]
    exact hK _ (stn _ _ G5)
  | false =>
  have q2' : o.mayC L2 Q u.id c.1 c.2 ≠ 0 := by simpa using q2
  simp only [f3, f5, f6, f7, q2, ↓zP,zV,Nat.reduceAdd,Nat.reduceMul,Nat.reduceLT,Nat.reduceEqDiff,Nat.reduceLeDiff,Int.reduceLE,Int.reduceLT,Int.reduceToNat,Int.reduceBNe,Int.reduceBEq,Int.reduceNeg,Int.reduceEq,Int.reduceAdd,Int.reduceGT,Int.reduceGE,reduceCtorEq]
  refine aloop_forF (fun k f s => ∃ j : Nat, k + j = m ∧ j ≤ 8 ∧ (u.wt < 3 → j = 0) ∧ (∀ i : Nat, i < j → asideB S (o.mayC L2 Q u.id) u.x u.y c.1 c.2 i = false) ∧ Grw s5 s ∧ f 1 = .ref z 0 ∧ f 3 = .ref st.length 0 ∧ f 5 = .ref (st.length + 1) 0 ∧ f 6 = .ref (st.length + 2) 0 ∧ f 7 = .ref s1.length 0 ∧ f 11 = .sc (.int .i64 j))
    ⟨0, by omega, by omega, fun _ => rfl, fun i hi => absurd hi (by omega), Grw.refl _, by simp only [zF,Nat.reduceEqDiff,Nat.reduceLT], by simp only [zF,Nat.reduceEqDiff,Nat.reduceLT], by simp only [zF,Nat.reduceEqDiff,Nat.reduceLT], by simp only [zF,Nat.reduceEqDiff,Nat.reduceLT], by simp only [zF,Nat.reduceEqDiff,Nat.reduceLT], by simp only [zF,Nat.reduceEqDiff,Nat.reduceLT]; rfl⟩ ?_
  rintro I' hI' k f s ⟨j, hk, hj, hw0, h0, hs, y1, y3, y5, y6, y7, y11⟩
  refine ⟨k - 1, by omega, ?_⟩
  have p3 := hs _ _ f3
  have p5 := hs _ _ f5
  have p6 := hs _ _ f6
  have p7 := hs _ _ f7
  have r6 := fun o => get_set p6 o
  have Gs := G5.trans hs
  cases w1 : decide (u.wt ≥ 3) with
  | false =>
    rw [chT_wait q1 q2' (by have := of_decide_eq_false w1; omega)] at hK
    simp only [chV] at hK
    simp only [y1, y3, y5, y6, y7, y11, p3, p5, p6, p7, r6, w1, ↓zP,zV,Nat.reduceAdd,Nat.reduceMul,Nat.reduceLT,Nat.reduceEqDiff,Nat.reduceLeDiff,Int.reduceLE,Int.reduceLT,Int.reduceToNat,Int.reduceBNe,Int.reduceBEq,Int.reduceNeg,Int.reduceEq,Int.reduceAdd,Int.reduceGT,Int.reduceGE,reduceCtorEq]
    exact hK _ (stn _ _ Gs)
  | true =>
  have w1' : ¬ u.wt < 3 := by have := of_decide_eq_true w1; omega
  by_cases hjl : j < 8
  · have dj : decide ((j : Int) < 8) = true := decide_eq_true (by omega)
    have e9 : IntKind.i64.wrap ((j : Int) + 1) = ((j + 1 : Nat) : Int) := by rw [IntWalk.i64_in _ (by omega)]; rfl
    have more : asideB S (o.mayC L2 Q u.id) u.x u.y c.1 c.2 j = false → ∀ i : Nat, i < j + 1 → asideB S (o.mayC L2 Q u.id) u.x u.y c.1 c.2 i = false := fun hh i hi => by
      by_cases hij : i = j
      · rw [hij]; exact hh
      · exact h0 i (by omega)
    simp only [y1, y3, y5, y6, y7, y11, p3, p5, p6, p7, w1, dj, o1, o2, o3, o4, ↓zP,zV,Nat.reduceAdd,Nat.reduceMul,Nat.reduceLT,Nat.reduceEqDiff,Nat.reduceLeDiff,Int.reduceLE,Int.reduceLT,Int.reduceToNat,Int.reduceBNe,Int.reduceBEq,Int.reduceNeg,Int.reduceEq,Int.reduceAdd,Int.reduceGT,Int.reduceGE,reduceCtorEq]
    refine g_Steps (n := n + 2) (hg.grw Gs) (fun l1 s6 j6 => ?_) (fun l1 s6 j6 => ?_)
    · have v5 := fun X => Grw.push s6 X _ _ (j6 _ _ p5)
      have v6 := fun X => Grw.push s6 X _ _ (j6 _ _ p6)
      have v7 := fun X => Grw.push s6 X _ _ (j6 _ _ p7)
      have G6 := fun X => (Gs.trans j6).push' X
      have hasd : asideB S (o.mayC L2 Q u.id) u.x u.y c.1 c.2 j = (!(u.x + tX j == c.1 && u.y + tY j == c.2) && o.mayC L2 Q u.id (u.x + tX j) (u.y + tY j) == 0) := by simp only [asideB, l1, Bool.true_and]
      cases k1 : (u.x + tX j == c.1 && u.y + tY j == c.2) with
      | true =>
        simp only [y1, y3, y5, y6, y7, y11, cl, v5, v6, v7, k1, e9, cmp_cellN, ↓zP,zV,Nat.reduceAdd,Nat.reduceMul,Nat.reduceLT,Nat.reduceEqDiff,Nat.reduceLeDiff,Int.reduceLE,Int.reduceLT,Int.reduceToNat,Int.reduceBNe,Int.reduceBEq,Int.reduceNeg,Int.reduceEq,Int.reduceAdd,Int.reduceGT,Int.reduceGE,reduceCtorEq]
        exact hI' _ _ _ ⟨j + 1, by omega, hjl, fun h => absurd h w1', more (by rw [hasd, k1]; rfl), (hs.trans j6).push' _, by simp only [y1, zF,Nat.reduceEqDiff,Nat.reduceLT], by simp only [y3, zF,Nat.reduceEqDiff,Nat.reduceLT], by simp only [y5, zF,Nat.reduceEqDiff,Nat.reduceLT], by simp only [y6, zF,Nat.reduceEqDiff,Nat.reduceLT], by simp only [y7, zF,Nat.reduceEqDiff,Nat.reduceLT], by simp only [zF,Nat.reduceEqDiff,Nat.reduceLT]⟩
      | false =>
        simp only [y1, y3, y5, y6, y7, y11, cl, v5, v6, v7, k1, cmp_cellN, ↓zP,zV,Nat.reduceAdd,Nat.reduceMul,Nat.reduceLT,Nat.reduceEqDiff,Nat.reduceLeDiff,Int.reduceLE,Int.reduceLT,Int.reduceToNat,Int.reduceBNe,Int.reduceBEq,Int.reduceNeg,Int.reduceEq,Int.reduceAdd,Int.reduceGT,Int.reduceGE,reduceCtorEq]
        refine (ht.grw (G6 _)).may (n := n) (by omega) fun s7 j7 => ?_
        have u6 := j7 _ _ (v6 _)
        have r7 := fun o => get_set u6 o
        have u12 : s7[s6.length]? = some (.cells [V.sc (.int .i64 (u.x + tX j)), V.sc (.int .i64 (u.y + tY j))]) := j7 _ _ (get_new0 s6 [Ob.cells [V.sc (.int .i64 (u.x + tX j)), V.sc (.int .i64 (u.y + tY j))]])
        cases k2 : (o.mayC L2 Q u.id (u.x + tX j) (u.y + tY j) == 0) with
        | false =>
          simp only [y1, y3, y5, y6, y7, y11, k2, e9, ↓zP,zV,Nat.reduceAdd,Nat.reduceMul,Nat.reduceLT,Nat.reduceEqDiff,Nat.reduceLeDiff,Int.reduceLE,Int.reduceLT,Int.reduceToNat,Int.reduceBNe,Int.reduceBEq,Int.reduceNeg,Int.reduceEq,Int.reduceAdd,Int.reduceGT,Int.reduceGE,reduceCtorEq]
          exact hI' _ _ _ ⟨j + 1, by omega, hjl, fun h => absurd h w1', more (by rw [hasd, k2, Bool.and_false]), ((hs.trans j6).push' _).trans j7, by simp only [y1, zF,Nat.reduceEqDiff,Nat.reduceLT], by simp only [y3, zF,Nat.reduceEqDiff,Nat.reduceLT], by simp only [y5, zF,Nat.reduceEqDiff,Nat.reduceLT], by simp only [y6, zF,Nat.reduceEqDiff,Nat.reduceLT], by simp only [y7, zF,Nat.reduceEqDiff,Nat.reduceLT], by simp only [zF,Nat.reduceEqDiff,Nat.reduceLT]⟩
        | true =>
          rw [chT_aside q1 q2' w1' hjl h0 (by rw [hasd, k1, k2]; rfl)] at hK
          simp only [chV] at hK
          simp only [y1, y3, y5, y6, y7, y11, u6, u12, r7, k2, ↓zP,zV,Nat.reduceAdd,Nat.reduceMul,Nat.reduceLT,Nat.reduceEqDiff,Nat.reduceLeDiff,Int.reduceLE,Int.reduceLT,Int.reduceToNat,Int.reduceBNe,Int.reduceBEq,Int.reduceNeg,Int.reduceEq,Int.reduceAdd,Int.reduceGT,Int.reduceGE,reduceCtorEq]
          exact hK _ (stn _ _ ((G6 _).trans j7))
    · simp only [y1, y3, y5, y6, y7, y11, cl, e9, ↓zP,zV,Nat.reduceAdd,Nat.reduceMul,Nat.reduceLT,Nat.reduceEqDiff,Nat.reduceLeDiff,Int.reduceLE,Int.reduceLT,Int.reduceToNat,Int.reduceBNe,Int.reduceBEq,Int.reduceNeg,Int.reduceEq,Int.reduceAdd,Int.reduceGT,Int.reduceGE,reduceCtorEq]
      exact hI' _ _ _ ⟨j + 1, by omega, hjl, fun h => absurd h w1', more (by rw [asideB, l1]; rfl), (hs.trans j6).push' _, by simp only [y1, zF,Nat.reduceEqDiff,Nat.reduceLT], by simp only [y3, zF,Nat.reduceEqDiff,Nat.reduceLT], by simp only [y5, zF,Nat.reduceEqDiff,Nat.reduceLT], by simp only [y6, zF,Nat.reduceEqDiff,Nat.reduceLT], by simp only [y7, zF,Nat.reduceEqDiff,Nat.reduceLT], by simp only [zF,Nat.reduceEqDiff,Nat.reduceLT]⟩
  · have dj : decide ((j : Int) < 8) = false := decide_eq_false (by omega)
    obtain rfl : j = 8 := by omega
    rw [chT_none q1 q2' w1' h0] at hK
    simp only [chV] at hK
    simp only [y1, y3, y5, y6, y7, y11, p3, p5, p6, p7, r6, w1, dj, ↓zP,zV,Nat.reduceAdd,Nat.reduceMul,Nat.reduceLT,Nat.reduceEqDiff,Nat.reduceLeDiff,Int.reduceLE,Int.reduceLT,Int.reduceToNat,Int.reduceBNe,Int.reduceBEq,Int.reduceNeg,Int.reduceEq,Int.reduceAdd,Int.reduceGT,Int.reduceGE,reduceCtorEq]
    exact hK _ (stn _ _ Gs)
end
namespace o
def mkL (E : List U) : List U := E.foldl (fun L e => if putR L e.id e.x e.y e.w e.h = 0 then insU e L else L) []
theorem mkL_take {E : List U} {i : Nat} (hi : i < E.length) : mkL (E.take (i + 1)) = if putR (mkL (E.take i)) E[i].id E[i].x E[i].y E[i].w E[i].h = 0 then insU E[i] (mkL (E.take i)) else mkL (E.take i) := by
  unfold mkL
  rw [List.take_add_one, List.getElem?_eq_getElem hi, Option.toList_some, List.foldl_append]
  rfl
section
variable {n m : Nat} {st s : List Ob} {K : V → List Ob → Prop} {L E : List U} {x y w h id : Int} {sv lv : V} {iy : Nat}
set_option maxHeartbeats 4000000 in
theorem l22_MadeG (he : ∀ s, Grw st s → Rd Tryz.prog s 77 lv (E.flatMap U.v) E.length) (hid : ∀ e ∈ E, inR e.id) (hEm : E.length < m) (hEl : E.length ≤ 3518437208883) (hm : 300 < m)
    (hK : ∀ s ix a b tb u c z iy us os L sv, L = mkL E → a ≠ b → u ≠ c → (a ≠ u ∧ a ≠ c ∧ b ≠ u ∧ b ≠ c) → Ix s ix a b us os → Rel us os L → Gd L → Tb s tb ix u c [] [] → s[z]? = some (.cells [.ref iy 0, .tsl [] 0 true true]) → Ri s iy sv L → Grw st s → (st.length ≤ u ∧ st.length ≤ c ∧ st.length ≤ z) → z ≠ iy → K (.tup [.ref ix 0, .ref tb 0, .ref z 0]) s) :
    acallF Tryz.prog pl (n + 8) m 6 [lv] st K := by
  refine acallF_inF Tryz.func6 rfl rfl Tryz.ntmps6 (by simp) ?_
  simp only [↓zP,zV,Nat.reduceAdd,Nat.reduceMul,Nat.reduceLT,Nat.reduceEqDiff,Nat.reduceLeDiff,Int.reduceLE,Int.reduceLT,Int.reduceToNat,Int.reduceBNe,Int.reduceBEq,Int.reduceNeg,Int.reduceEq,Int.reduceAdd,Int.reduceGT,Int.reduceGE,reduceCtorEq]
  refine o_New (n := n + 6) fun s1 i1 g1 => ?_
  have y1 : (s1 ++ [Ob.cells [V.tsl [] 0 true true]])[s1.length]? = some (.cells [V.tsl [] 0 true true]) := get_new0 _ _
  have h1 := i1.grw (Grw.push s1 [Ob.cells [V.tsl [] 0 true true]])
  have g2 := g1.push' [Ob.cells [V.tsl [] 0 true true]]
  have ny : st.length + 2 < s1.length := (List.getElem?_eq_some_iff.1 i1.ix).1
  simp only [↓zP,zV,Nat.reduceAdd,Nat.reduceMul,Nat.reduceLT,Nat.reduceEqDiff,Nat.reduceLeDiff,Int.reduceLE,Int.reduceLT,Int.reduceToNat,Int.reduceBNe,Int.reduceBEq,Int.reduceNeg,Int.reduceEq,Int.reduceAdd,Int.reduceGT,Int.reduceGE,reduceCtorEq]
  generalize (s1 ++ [Ob.cells [V.tsl [] 0 true true]]) = s2 at y1 h1 g2
  have r2 : Ri s2 s1.length (V.tsl [] 0 true true) [] := ⟨y1, ⟨rfl, ⟨fun b hb => (by cases hb), fun _ => rfl⟩, fun _ _ => by simp⟩, .inl ⟨_, _, _, _, rfl⟩, fun _ => rfl⟩
  refine aloop_forF (fun k f s => ∃ (i : Nat) (us : List (Int × V)) (os : List ((Int × Int) × V)) (L : List U) (sv : V), k + i = m ∧ i ≤ E.length ∧ L = mkL (E.take i) ∧ Grw st s ∧ Ix s (st.length + 2) st.length (st.length + 1) us os ∧ Rel us os L ∧ Gd L ∧ Ri s s1.length sv L ∧
    f 0 = lv ∧ f 5 = .ref (st.length + 2) 0 ∧ f 6 = .ref s1.length 0 ∧ f 7 = .sc (.int .i64 i)) ⟨0, [], [], [], _, by omega, by omega, rfl, g2, h1, Rel.nil, Gd.nil, r2, by simp only [zF,Nat.reduceEqDiff,Nat.reduceLT], by simp only [zF,Nat.reduceEqDiff,Nat.reduceLT], by simp only [zF,Nat.reduceEqDiff,Nat.reduceLT], by simp only [zF,Nat.reduceEqDiff,Nat.reduceLT]; rfl⟩ ?_
  rintro I' hI' k f s ⟨i, us, os, L, sv, hk, hi, hL, hg, hx, rel, gd, hy, f0, f5, f6, f7⟩
  refine ⟨k - 1, by omega, ?_⟩
  have hab : st.length ≠ st.length + 1 := by omega
  have al := alen_rd (he s hg) Tryz.underlying26
  have e3 : IntKind.i64.wrap ((i : Int) + 1) = ((i + 1 : Nat) : Int) := by rw [IntWalk.i64_in _ (by omega)]; rfl
  by_cases hil : i < E.length
  · have d : decide ((i : Int) < E.length) = true := decide_eq_true (by omega)
    have hmk := mkL_take hil
    rw [← hL] at hmk
    obtain ⟨p1, p2⟩ := ix_flat (f := U.v) (fun a => rfl) (he s hg) Tryz.underlying26 sz77 ag77 (by omega) hil
    obtain ⟨p3, p4⟩ := m_id (he s hg) hil
    obtain ⟨p5, p6⟩ := m_r (he s hg) hil
    have hidi := hid _ (List.getElem_mem hil)
    have hgl := gd.len
    simp only [f0, f5, f6, f7, al, d, p1, p3, p4, p5, p6, ↓zP,zV,Nat.reduceAdd,Nat.reduceMul,Nat.reduceLT,Nat.reduceEqDiff,Nat.reduceLeDiff,Int.reduceLE,Int.reduceLT,Int.reduceToNat,Int.reduceBNe,Int.reduceBEq,Int.reduceNeg,Int.reduceEq,Int.reduceAdd,Int.reduceGT,Int.reduceGE,reduceCtorEq]
    refine o_Put (n := n + 1) rel hx hab (by omega) ?no ?ok
    case' no =>
      intro e0 s3 g3
      rw [if_neg e0] at hmk
      have h3 := he s3 (hg.trans g3)
      obtain ⟨p1, p2⟩ := ix_flat (f := U.v) (fun a => rfl) h3 Tryz.underlying26 sz77 ag77 (by omega) hil
      obtain ⟨p3, p4⟩ := m_id h3 hil
      obtain ⟨p5, p6⟩ := m_r h3 hil
      simp only [f0, f5, f6, f7, p1, p3, p4, p5, p6, ↓zP,zV,Nat.reduceAdd,Nat.reduceMul,Nat.reduceLT,Nat.reduceEqDiff,Nat.reduceLeDiff,Int.reduceLE,Int.reduceLT,Int.reduceToNat,Int.reduceBNe,Int.reduceBEq,Int.reduceNeg,Int.reduceEq,Int.reduceAdd,Int.reduceGT,Int.reduceGE,reduceCtorEq]
      refine r_PutR (n := n) (hy.grw g3) hm hgl (fun _ s4 g4 => ?_) fun e => absurd e e0
      simp only [f0, f5, f6, f7, p1, p3, p4, p5, p6, e3, ↓zP,zV,Nat.reduceAdd,Nat.reduceMul,Nat.reduceLT,Nat.reduceEqDiff,Nat.reduceLeDiff,Int.reduceLE,Int.reduceLT,Int.reduceToNat,Int.reduceBNe,Int.reduceBEq,Int.reduceNeg,Int.reduceEq,Int.reduceAdd,Int.reduceGT,Int.reduceGE,reduceCtorEq]
      exact hI' _ _ _ ⟨i + 1, us, os, L, sv, by omega, hil, hmk.symm, (hg.trans g3).trans g4, (hx.grw g3).grw g4, rel, gd, (hy.grw g3).grw g4, by simp only [f0, zF,Nat.reduceEqDiff,Nat.reduceLT], by simp only [f5, zF,Nat.reduceEqDiff,Nat.reduceLT], by simp only [f6, zF,Nat.reduceEqDiff,Nat.reduceLT], by simp only [zF,Nat.reduceEqDiff,Nat.reduceLT]⟩
    case' ok =>
      intro e0 hv hgn hno hlt s3 h3 k3
      rw [if_pos e0] at hmk
      have km := kp_km k3 hx.us hx.os
      have fr1 : Grw st s3 := fun j o hj => by
        have lj : j < st.length := (List.getElem?_eq_some_iff.1 hj).1
        exact k3 _ _ (by omega) (by omega) (hg _ _ hj)
      have rel3 := rel.place ⟨E[i].id, E[i].x, E[i].y, E[i].w, E[i].h⟩ hv hgn hno
      have gd3 := gd.place (u := ⟨E[i].id, E[i].x, E[i].y, E[i].w, E[i].h⟩) hlt (rel.new hgn) hidi
      have hr3 := he s3 fr1
      obtain ⟨p1, p2⟩ := ix_flat (f := U.v) (fun a => rfl) hr3 Tryz.underlying26 sz77 ag77 (by omega) hil
      obtain ⟨p3, p4⟩ := m_id hr3 hil
      obtain ⟨p5, p6⟩ := m_r hr3 hil
      simp only [f0, f5, f6, f7, p1, p3, p4, p5, p6, ↓zP,zV,Nat.reduceAdd,Nat.reduceMul,Nat.reduceLT,Nat.reduceEqDiff,Nat.reduceLeDiff,Int.reduceLE,Int.reduceLT,Int.reduceToNat,Int.reduceBNe,Int.reduceBEq,Int.reduceNeg,Int.reduceEq,Int.reduceAdd,Int.reduceGT,Int.reduceGE,reduceCtorEq]
      refine r_PutR (n := n) (hy.km km) hm hgl (fun e => absurd e0 e) fun _ sv' s4 h4 k4 => ?_
      simp only [f0, f5, f6, f7, p1, p3, p4, p5, p6, e3, ↓zP,zV,Nat.reduceAdd,Nat.reduceMul,Nat.reduceLT,Nat.reduceEqDiff,Nat.reduceLeDiff,Int.reduceLE,Int.reduceLT,Int.reduceToNat,Int.reduceBNe,Int.reduceBEq,Int.reduceNeg,Int.reduceEq,Int.reduceAdd,Int.reduceGT,Int.reduceGE,reduceCtorEq]
      refine hI' _ _ _ ⟨i + 1, _, _, _, sv', by omega, hil, hmk.symm, fun j o hj => ?_, h3.fr (hy.km km).at_ k4, rel3, gd3, h4, by simp only [f0, zF,Nat.reduceEqDiff,Nat.reduceLT], by simp only [f5, zF,Nat.reduceEqDiff,Nat.reduceLT], by simp only [f6, zF,Nat.reduceEqDiff,Nat.reduceLT], by simp only [zF,Nat.reduceEqDiff,Nat.reduceLT]⟩
      have lj : j < st.length := (List.getElem?_eq_some_iff.1 hj).1
      exact k4 _ _ (by omega) (fr1 _ _ hj)
  · have d : decide ((i : Int) < E.length) = false := decide_eq_false (by omega)
    obtain rfl : i = E.length := by omega
    rw [List.take_length] at hL
    simp only [f0, f5, f6, f7, al, d, ↓zP,zV,Nat.reduceAdd,Nat.reduceMul,Nat.reduceLT,Nat.reduceEqDiff,Nat.reduceLeDiff,Int.reduceLE,Int.reduceLT,Int.reduceToNat,Int.reduceBNe,Int.reduceBEq,Int.reduceNeg,Int.reduceEq,Int.reduceAdd,Int.reduceGT,Int.reduceGE,reduceCtorEq]
    refine t_New (n := n + 6) fun s3 h3 g3 => ?_
    simp only [f0, f5, f6, f7, ↓zP,zV,Nat.reduceAdd,Nat.reduceMul,Nat.reduceLT,Nat.reduceEqDiff,Nat.reduceLeDiff,Int.reduceLE,Int.reduceLT,Int.reduceToNat,Int.reduceBNe,Int.reduceBEq,Int.reduceNeg,Int.reduceEq,Int.reduceAdd,Int.reduceGT,Int.reduceGE,reduceCtorEq]
    have hle := hg.le
    have hix := (List.getElem?_eq_some_iff.1 hx.ix).1
    have hiy := (List.getElem?_eq_some_iff.1 hy.at_).1
    have hle3 := g3.le
    have hz : ∀ o : Ob, (s3 ++ [o])[s3.length]? = some o := fun o => get_new0 _ _
    exact hK _ _ _ _ _ _ _ _ _ _ _ _ _ hL hab (by omega) ⟨by omega, by omega, by omega, by omega⟩ ((hx.grw g3).grw (.push _ _)) rel gd (h3.grw (.push _ _)) (hz _) ((hy.grw g3).grw (.push _ _)) ((hg.trans g3).push' _) ⟨by omega, by omega, by omega⟩ (by omega)
end
end o
section
variable {n m : Nat} {st s : List Ob} {K : V → List Ob → Prop} {WW HH : Int} {T : List Int} {L : List B4} {tv bv : V}
set_option maxHeartbeats 4000000 in
theorem l6_Both (ht : ∀ s, Rd Tryz.prog s 5 tv (bs T) T.length) (hb : ∀ s, Rd Tryz.prog s 115 bv (L.flatMap B4.v) L.length) (ot : one tv = true ∧ cellsV tv = [tv]) (ob : one bv = true ∧ cellsV bv = [bv])
    (hm : 300 < m) (hTm : T.length < m) (hTb : ∀ t ∈ T, 0 ≤ t ∧ t < 256) (hT : T.length ≤ 140737488355328) (hL : L.length ≤ 3518437208883)
    (hE : ∀ s, Grw st s → K (.tup [.sc (.pointer none), .sc (.pointer none), .sc (.bool false)]) s)
    (hO : ∀ wd rd s, Wo s wd (some rd) WW HH T L → Grw st s → K (.tup [.ref wd 0, .ref rd 0, .sc (.bool true)]) s) :
    acallF Tryz.prog pl (n + 10) m 5 [.agg (mp WW HH tv bv)] st K := by
  refine acallF_inF Tryz.func5 rfl rfl Tryz.ntmps5 (by simp) ?_
  have g1 := Grw.push st [Ob.cells (mp WW HH tv bv)]
  have c1 : (st ++ [Ob.cells (mp WW HH tv bv)])[st.length]? = some (.cells (mp WW HH tv bv)) := get_new0 _ _
  simp only [mp] at g1 c1
  simp only [mp, ot.1, ot.2, ob.1, ob.2, c1, get_new, get_new0, List.getElem?_cons_zero, ↓zP,zV,Nat.reduceAdd,Nat.reduceMul,Nat.reduceLT,Nat.reduceEqDiff,Nat.reduceLeDiff,Int.reduceLE,Int.reduceLT,Int.reduceToNat,Int.reduceBNe,Int.reduceBEq,Int.reduceNeg,Int.reduceEq,Int.reduceAdd,Int.reduceGT,Int.reduceGE,reduceCtorEq]
  cases eOK : refOK WW HH T L with
  | false =>
    have eN := (newOK_ref (WW := WW) (HH := HH) T L).trans eOK
    refine w_New (n := n) (ht _) (hb _) ot ob hm hTm hTb (fun _ s3 g3 => ?_) fun h => by rw [eN] at h; cases h
    have c3 := g3 _ _ c1
    simp only [c3, ot.1, ot.2, ob.1, ob.2, ↓zP,zV,Nat.reduceAdd,Nat.reduceMul,Nat.reduceLT,Nat.reduceEqDiff,Nat.reduceLeDiff,Int.reduceLE,Int.reduceLT,Int.reduceToNat,Int.reduceBNe,Int.reduceBEq,Int.reduceNeg,Int.reduceEq,Int.reduceAdd,Int.reduceGT,Int.reduceGE,reduceCtorEq]
    refine q_New (n := n + 1) (ht _) (hb _) ot ob hm hTm hTb hT hL (fun _ s4 g4 => ?_) fun h => by rw [eOK] at h; cases h
    simp only [↓zP,zV,Nat.reduceAdd,Nat.reduceMul,Nat.reduceLT,Nat.reduceEqDiff,Nat.reduceLeDiff,Int.reduceLE,Int.reduceLT,Int.reduceToNat,Int.reduceBNe,Int.reduceBEq,Int.reduceNeg,Int.reduceEq,Int.reduceAdd,Int.reduceGT,Int.reduceGE,reduceCtorEq]
    exact hE _ ((g1.trans g3).trans g4)
  | true =>
    have eN := (newOK_ref (WW := WW) (HH := HH) T L).trans eOK
    refine w_New (n := n) (ht _) (hb _) ot ob hm hTm hTb (fun h => by rw [eN] at h; cases h) fun _ wd a b tv' us os s3 hgo hw g3 _ _ _ _ => ?_
    have c3 := g3 _ _ c1
    simp only [c3, ot.1, ot.2, ob.1, ob.2, ↓zP,zV,Nat.reduceAdd,Nat.reduceMul,Nat.reduceLT,Nat.reduceEqDiff,Nat.reduceLeDiff,Int.reduceLE,Int.reduceLT,Int.reduceToNat,Int.reduceBNe,Int.reduceBEq,Int.reduceNeg,Int.reduceEq,Int.reduceAdd,Int.reduceGT,Int.reduceGE,reduceCtorEq]
    refine q_New (n := n + 1) (ht _) (hb _) ot ob hm hTm hTb hT hL (fun h => by rw [eOK] at h; cases h) fun _ rd tv2 bv2 s4 hr g4 _ _ _ => ?_
    simp only [↓zP,zV,Nat.reduceAdd,Nat.reduceMul,Nat.reduceLT,Nat.reduceEqDiff,Nat.reduceLeDiff,Int.reduceLE,Int.reduceLT,Int.reduceToNat,Int.reduceBNe,Int.reduceBEq,Int.reduceNeg,Int.reduceEq,Int.reduceAdd,Int.reduceGT,Int.reduceGE,reduceCtorEq]
    exact hO _ _ _ ⟨eOK, hTb, a, b, tv', _, us, os, [], hw.grw g4, fun r hr' => by cases hr'; exact ⟨tv2, bv2, _, [], hr⟩, new_rel hgo⟩ ((g1.trans g3).trans g4)
theorem cmp_choice (p q : Operand) (i x y i' x' y' : Int) : pureRun Tryz.prog (do eqGuard .eql 53 p q (.agg #[.int .i64 i, .int .i64 x, .int .i64 y]) (.agg #[.int .i64 i', .int .i64 x', .int .i64 y']); binOp .eql 53 (.agg #[.int .i64 i, .int .i64 x, .int .i64 y]) (.agg #[.int .i64 i', .int .i64 x', .int .i64 y'])) = some (.bool (i == i' && (x == x' && y == y'))) := by
  refine pr_eqlStruct p q (by kernel_rfl) ?_
  rw [pr_eqStruct _ _ Tryz.underlying53 (by kernel_rfl)]
  rw [pr_eqCons (d := 9998) (a := i) (b := i') (k := .i64) (by decide) Tryz.underlying3 (by rfl) (by rfl), pr_eqConsS (d := 9999) (r := (x == x' && y == y')) (by decide) Tryz.underlying31 sz31 (eq_cell 9997 x y x' y')]
  cases (x == x' && y == y') <;> cases (i == i') <;> simp [Op.eqFields, pureRun_pure]
def awU : Un := ⟨1, 0, 0, 1, 0, 0, 1, 1, 0, 0, [(1, 0)]⟩
theorem aw_ch : chS (standB 3 1 (bs (List.replicate 3 0)) [] 0 1) (o.mayC [⟨1, 0, 0, 1, 1⟩] [] 1) awU = (1, 1, 0) := by decide +kernel
theorem aw_mk : o.mkL [⟨1, 0, 0, 1, 1⟩] = [⟨1, 0, 0, 1, 1⟩] := by kernel_rfl
set_option maxHeartbeats 4000000 in
theorem awake23 (hm : 20000 < m) (hK : ∀ s, Grw st s → K (.sc (.bool true)) s) : acallF Tryz.prog pl (n + 14) m 4 [] st K := by
  refine acallF_inF Tryz.func4 rfl rfl Tryz.ntmps4 (by simp) ?_
  simp only [↓zP,zV,Nat.reduceAdd,Nat.reduceMul,Nat.reduceLT,Nat.reduceEqDiff,Nat.reduceLeDiff,Int.reduceLE,Int.reduceLT,Int.reduceToNat,Int.reduceBNe,Int.reduceBEq,Int.reduceNeg,Int.reduceEq,Int.reduceAdd,Int.reduceGT,Int.reduceGE,reduceCtorEq]
  obtain ⟨S, hS⟩ : ∃ S, S = st ++ [Ob.row 5 (bs (List.replicate 3 0)) 3 0 false] := ⟨_, rfl⟩
  have g0 : Grw st S := by rw [hS]; exact .push _ _
  have gl : Gl S 5 (.sl st.length 0 3 false 3) (bs (List.replicate 3 0)) 3 := .inr ⟨_, 0, rfl, by rw [hS]; exact get_new0 _ _, Nat.zero_le _⟩
  have rd := gl.rd sz5 (by rfl)
  have nl : Gl S 115 (.tsl [] 0 true true) (([] : List B4).flatMap B4.v) 0 := .inl ⟨rfl, rfl, rfl⟩
  have rdb := nl.rd sz115 (by rfl)
  simp only [bs, List.replicate, List.map_cons, List.map_nil] at hS
  simp only [List.flatten_cons, List.flatten_nil, List.cons_append, List.nil_append]
  rw [← hS]
  refine w_New (n := n + 4) (WW := 3) (HH := 1) (T := List.replicate 3 0) (L := []) rd rdb ⟨rfl, rfl⟩ ⟨rfl, rfl⟩ (by omega) (by simp; omega) (fun t ht => by have := List.eq_of_mem_replicate ht; omega) (fun h => absurd h (by decide)) fun _ wd a b tv us os s1 hgo w1 g1 lwd la lb ltv => ?_
  have hw : Wo s1 wd none 3 1 (List.replicate 3 0) [] := ⟨by decide, fun t ht => by have := List.eq_of_mem_replicate ht; omega, a, b, tv, _, us, os, [], w1, fun r hr => (by cases hr), new_rel hgo⟩
  simp only [↓zP,zV,Nat.reduceAdd,Nat.reduceMul,Nat.reduceLT,Nat.reduceEqDiff,Nat.reduceLeDiff,Int.reduceLE,Int.reduceLT,Int.reduceToNat,Int.reduceBNe,Int.reduceBEq,Int.reduceNeg,Int.reduceEq,Int.reduceAdd,Int.reduceGT,Int.reduceGE,reduceCtorEq]
  have glE : Gl (s1 ++ [.row 77 (([⟨1, 0, 0, 1, 1⟩] : List o.U).flatMap o.U.v) 1 0 false]) 77 (.sl s1.length 0 1 false 1) (([⟨1, 0, 0, 1, 1⟩] : List o.U).flatMap o.U.v) 1 := .inr ⟨_, 0, rfl, get_new0 _ _, Nat.zero_le _⟩
  refine o.l22_MadeG (n := n + 5) (E := [⟨1, 0, 0, 1, 1⟩]) (fun s g => (glE.grw g).rd sz77 (by rfl)) (fun e he => by
    rw [List.mem_singleton] at he
    subst he
    exact ⟨by decide, by decide⟩) (by simp; omega) (by simp) (by omega) fun s2 ix a' b' tb u c z iy us' os' L sv hL hab huc hd hx hr gd hT hz hy g2 _ _ => ?_
  rw [aw_mk] at hL
  subst hL
  have ht : Pt s2 tb [⟨1, 0, 0, 1, 1⟩] [] := ⟨_, _, _, _, _, _, _, _, _, _, hr, hx, hT, .nil _⟩
  have gg := (g0.trans g1).trans ((Grw.push s1 _).trans g2)
  have gw := (Grw.push s1 _).trans g2
  simp only [get_new, get_new0, M.set_new, M.set_new0, List.getElem?_cons_succ, List.getElem?_cons_zero, ↓zP,zV,Nat.reduceAdd,Nat.reduceMul,Nat.reduceLT,Nat.reduceEqDiff,Nat.reduceLeDiff,Int.reduceLE,Int.reduceLT,Int.reduceToNat,Int.reduceBNe,Int.reduceBEq,Int.reduceNeg,Int.reduceEq,Int.reduceAdd,Int.reduceGT,Int.reduceGE,reduceCtorEq]
  have gp : ∀ X, Gl (s2 ++ .row 31 (([(1, 0)] : List (Int × Int)).flatMap cpV) 1 0 false :: X) 31 (.sl s2.length 0 1 false 1) (([(1, 0)] : List (Int × Int)).flatMap cpV) 1 := fun X => .inr ⟨_, 0, rfl, get_new0 _ _, Nat.zero_le _⟩
  refine c_Choose (n := n) (u := awU) (pv := .sl s2.length 0 1 false 1) (L2 := [⟨1, 0, 0, 1, 1⟩]) (Q := []) (hw.grw (gw.trans (Grw.push _ _))) (ht.grw (Grw.push _ _)) ⟨(gp _).rd sz31 (by rfl), ⟨rfl, rfl⟩⟩ hm fun s3 j3 => ?_
  rw [show chS (standB 3 1 (bs (List.replicate 3 0)) [] awU.c awU.z) (o.mayC [⟨1, 0, 0, 1, 1⟩] [] awU.id) awU = (1, 1, 0) from aw_ch]
  simp only [chV, cmp_choice, ↓zP,zV,Nat.reduceAdd,Nat.reduceMul,Nat.reduceLT,Nat.reduceEqDiff,Nat.reduceLeDiff,Int.reduceLE,Int.reduceLT,Int.reduceToNat,Int.reduceBNe,Int.reduceBEq,Int.reduceNeg,Int.reduceEq,Int.reduceAdd,Int.reduceGT,Int.reduceGE,reduceCtorEq]
  exact hK _ (gg.trans ((Grw.push _ _).trans j3))
end
def scV (lv cv pv : V) (u : Un) : List V := lv :: cv :: unV u pv
set_option maxRecDepth 100000 in
theorem tv_scene {k : Nat} {ys : List V} (h : TV Tryz.prog (k + 6) 36 ys) : ∃ (lv cv pv : V) (E : List o.U) (C : List o.K4) (u : Un), ys = scV lv cv pv u ∧ (∀ s, Rd Tryz.prog s 77 lv (E.flatMap o.U.v) E.length) ∧ (∀ e ∈ E, o.inR e.id) ∧ E.length ≤ 3518437208883 ∧ (M.one lv = true ∧ cellsV lv = [lv]) ∧
    (∀ s, Rd Tryz.prog s 50 cv (C.flatMap o.K4.v) C.length) ∧ C.length ≤ 4398046511104 ∧ (M.one cv = true ∧ cellsV cv = [cv]) ∧ (∀ s, Pth s pv u.P) ∧ u.P.length ≤ 8796093022208 ∧ (∀ s, Cut Tryz.prog s 31 pv (u.P.flatMap cpV) u.P.length) := by
  have h := tv_struct h Tryz.underlying36
  obtain ⟨y1, z1, rfl, h1, h⟩ := h
  obtain ⟨y2, z2, rfl, h2, h⟩ := h
  obtain ⟨y3, z3, rfl, h3, h⟩ := h
  obtain rfl : z3 = [] := h
  obtain ⟨lv, E, rfl, he, hid, hEl⟩ := o.tv_units h1
  obtain ⟨cv, C, rfl, hc, hCl⟩ := o.tv_claims h2
  have o1 : M.one lv = true ∧ cellsV lv = [lv] := by
    obtain ⟨us, n, nil, full, hq, _⟩ := tv_slice h1 Tryz.underlying26
    cases hq
    exact ⟨rfl, rfl⟩
  have o2 : M.one cv = true ∧ cellsV cv = [cv] := by
    obtain ⟨us, n, nil, full, hq, _⟩ := tv_slice h2 Tryz.underlying27
    cases hq
    exact ⟨rfl, rfl⟩
  have h := tv_struct h3 Tryz.underlying34
  obtain ⟨a1, b1, rfl, i1, h⟩ := h
  obtain ⟨a2, b2, rfl, i2, h⟩ := h
  obtain ⟨a3, b3, rfl, i3, h⟩ := h
  obtain ⟨a4, b4, rfl, i4, h⟩ := h
  obtain ⟨a5, b5, rfl, i5, h⟩ := h
  obtain ⟨a6, b6, rfl, i6, h⟩ := h
  obtain ⟨a7, b7, rfl, i7, h⟩ := h
  obtain ⟨a8, b8, rfl, i8, h⟩ := h
  obtain rfl : b8 = [] := h
  obtain ⟨id, rfl, _⟩ := tv_int i1 Tryz.underlying3
  obtain ⟨pl', rfl, _⟩ := tv_int i2 Tryz.underlying3
  have h := tv_struct i3 Tryz.underlying29
  obtain ⟨c1, d1, rfl, j1, h⟩ := h
  obtain ⟨c2, d2, rfl, j2, h⟩ := h
  obtain rfl : d2 = [] := h
  obtain ⟨c, rfl, _⟩ := tv_int j1 Tryz.underlying3
  obtain ⟨z, rfl, _⟩ := tv_int j2 Tryz.underlying3
  have h := tv_struct i4 Tryz.underlying31
  obtain ⟨c3, d3, rfl, j3, h⟩ := h
  obtain ⟨c4, d4, rfl, j4, h⟩ := h
  obtain rfl : d4 = [] := h
  obtain ⟨x, rfl, _⟩ := tv_int j3 Tryz.underlying3
  obtain ⟨y, rfl, _⟩ := tv_int j4 Tryz.underlying3
  obtain ⟨ph, rfl, _⟩ := tv_int i5 Tryz.underlying3
  have h := tv_struct i6 Tryz.underlying31
  obtain ⟨c5, d5, rfl, j5, h⟩ := h
  obtain ⟨c6, d6, rfl, j6, h⟩ := h
  obtain rfl : d6 = [] := h
  obtain ⟨gx, rfl, _⟩ := tv_int j5 Tryz.underlying3
  obtain ⟨gy, rfl, _⟩ := tv_int j6 Tryz.underlying3
  obtain ⟨wt, rfl, _⟩ := tv_int i8 Tryz.underlying3
  obtain ⟨ps, n, nil, full, rfl, hu, hn, hnil⟩ := tv_slice i7 Tryz.underlying32
  obtain ⟨P, rfl, rfl, _⟩ := TVn.list (f := cpV) (Q := fun _ => True) (fun ys hy => by
    have h := tv_struct hy Tryz.underlying31
    obtain ⟨c5, d5, rfl, j5, h⟩ := h
    obtain ⟨c6, d6, rfl, j6, h⟩ := h
    obtain rfl : d6 = [] := h
    obtain ⟨gx, rfl, _⟩ := tv_int j5 Tryz.underlying3
    obtain ⟨gy, rfl, _⟩ := tv_int j6 Tryz.underlying3
    exact ⟨(gx, gy), rfl, trivial⟩) hu
  rw [bytes_of by31] at hn
  have er : reachBytes = 140737488351232 := rfl
  rw [er] at hn
  have hR : ∀ s, Rd Tryz.prog s 31 (.tsl (P.flatMap cpV) P.length nil full) (P.flatMap cpV) P.length := fun s => tsl_rd sz31 (flatMap_len (f := cpV) (s := 2) (fun _ => rfl) _) (fun h => (hnil h).1)
  exact ⟨lv, cv, .tsl (P.flatMap cpV) P.length nil full, E, C, ⟨id, pl', c, z, x, y, ph, gx, gy, wt, P⟩, rfl, he, hid, hEl, o1, hc, hCl, o2, fun s => ⟨hR s, ⟨rfl, rfl⟩⟩, by show P.length ≤ _; omega, fun s => ⟨hR s, .inl ⟨_, _, _, _, rfl⟩, fun h => (hnil h).1⟩⟩
end Go.Proofs.YtpdhoicpaonggaaGreat
