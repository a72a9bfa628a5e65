/- Chapter 6: where a shape stands, by the reference; which steps are legal, by the program. Chapter 8: where a shape stands, cell by cell: the reference's ground. Chapters 8 and 21: steps on a ground; the next cell of a unit. Chapter 21: may a unit be? By the program. -/
import Derived.Test.YtpdhoicpaonggaaGreatX7
set_option linter.unusedVariables false
set_option linter.unusedSimpArgs false
set_option maxRecDepth 10000
namespace Go.Proofs.YtpdhoicpaonggaaGreat
open Go Go.M Go.RowKit
attribute [local congr] acallF_cong aloop_cong bcase_cong resK_cong valK_cong wantK_cong callK_cong xputK_cong qputK_cong resM_cong rfK_cong
attribute [local irreducible] seqK blockK loopK nextK bcase resK valK wantK funK putK dputK xputK qputK callK aops aop acode adraw aloop acallF acall invK resM rfK rfEnd rdEnd rdMid around
section
variable {n m : Nat} {st s S0 : List Ob} {K : V → List Ob → Prop} {wd rd : Nat} {ro : Option Nat} {WW HH : Int} {T : List Int} {L : List B4} {x y c z d : Int}
set_option maxHeartbeats 4000000 in
theorem r_Stands (hw : Wo st wd (some rd) WW HH T L) (hm : 300 < m) (hK : ∀ s, Grw st s → K (.sc (.bool (standB WW HH (bs T) L c z x y))) s) : acallF Tryz.prog pl (n + 6) m 35 [.ref rd 0, .agg (cl c z), .agg (cl x y)] st K := by
  refine acallF_inF Tryz.func35 rfl rfl Tryz.ntmps35 (by simp) ?_
  have g0 := Grw.push st [.cells (cl c z), .cells (cl x y)]
  have c0 : (st ++ [Ob.cells (cl c z), .cells (cl x y)])[st.length]? = some (.cells (cl c z)) := get_new _ _ 0
  simp only [cl] at g0 c0
  simp only [cl, ↓zP,zV,Nat.reduceAdd,Nat.reduceMul,Nat.reduceLT,Nat.reduceEqDiff,Nat.reduceLeDiff,Int.reduceLE,Int.reduceLT,Int.reduceToNat,Int.reduceBNe,Int.reduceBEq,Int.reduceNeg,Int.reduceEq,Int.reduceAdd,Int.reduceGT,Int.reduceGE,reduceCtorEq]
  refine r_Foot (n := n + 1) (fun ef s1 j1 => ?_) (fun ef s1 j1 => ?_)
  · obtain ⟨e1, e2⟩ : shB c z = true ∧ mayB x y z z = true := by simpa using ef
    obtain ⟨z1, z2, _, _⟩ := sh_facts e1
    have a0 := fun X => Grw.push s1 X _ _ (j1 _ _ c0)
    have G1 := fun X => (g0.trans j1).push' X
    have cr : (s1 ++ [Ob.cells (rc x y z z)])[s1.length]? = some (.cells (rc x y z z)) := get_new0 _ _
    simp only [rc] at cr
    simp only [rc, a0, cr, ↓zP,zV,Nat.reduceAdd,Nat.reduceMul,Nat.reduceLT,Nat.reduceEqDiff,Nat.reduceLeDiff,Int.reduceLE,Int.reduceLT,Int.reduceToNat,Int.reduceBNe,Int.reduceBEq,Int.reduceNeg,Int.reduceEq,Int.reduceAdd,Int.reduceGT,Int.reduceGE,reduceCtorEq]
    refine (hw.grw (G1 _)).rall (n := n + 4) fun s2 j2 => ?_
    have b0 := j2 _ _ (a0 _)
    have br := j2 _ _ cr
    have G2 := (G1 _).trans j2
    simp only [rc, b0, br, cr, ↓zP,zV,Nat.reduceAdd,Nat.reduceMul,Nat.reduceLT,Nat.reduceEqDiff,Nat.reduceLeDiff,Int.reduceLE,Int.reduceLT,Int.reduceToNat,Int.reduceBNe,Int.reduceBEq,Int.reduceNeg,Int.reduceEq,Int.reduceAdd,Int.reduceGT,Int.reduceGE,reduceCtorEq]
    refine r_Within (n := n) fun s3 j3 => ?_
    have d0 := j3 _ _ b0
    have dr := j3 _ _ br
    have G3 := G2.trans j3
    cases e3 : withinB x y z z 0 0 WW HH with
    | false =>
      simp only [standB, fitB, e3, Bool.and_false, Bool.false_and] at hK
      simp only [d0, dr, e3, ↓zP,zV,Nat.reduceAdd,Nat.reduceMul,Nat.reduceLT,Nat.reduceEqDiff,Nat.reduceLeDiff,Int.reduceLE,Int.reduceLT,Int.reduceToNat,Int.reduceBNe,Int.reduceBEq,Int.reduceNeg,Int.reduceEq,Int.reduceAdd,Int.reduceGT,Int.reduceGE,reduceCtorEq]
      exact hK _ G3
    | true =>
      obtain ⟨W, rfl⟩ := Int.eq_ofNat_of_zero_le (show 0 ≤ z by omega)
      simp only [standB, fitB, e1, e3, Int.toNat_natCast, Bool.and_self, Bool.true_and] at hK
      have hK : ∀ s, Grw st s → K (.sc (.bool (footB WW HH (bs T) L c x y W (W * W)))) s := hK
      obtain ⟨fx, fy, _, _, fx2, fy2⟩ := may_facts e2
      have hwd := fun s (h : Grw s3 s) => hw.grw (G3.trans h)
      simp only [d0, dr, e3, ↓zP,zV,Nat.reduceAdd,Nat.reduceMul,Nat.reduceLT,Nat.reduceEqDiff,Nat.reduceLeDiff,Int.reduceLE,Int.reduceLT,Int.reduceToNat,Int.reduceBNe,Int.reduceBEq,Int.reduceNeg,Int.reduceEq,Int.reduceAdd,Int.reduceGT,Int.reduceGE,reduceCtorEq]
      have hb : ∀ {j i : Nat}, j < W → i < W → footB WW HH (bs T) L c x y W (j * W + i) = true → tileB WW HH (bs T) L c (x + i) (y + j) = false → footB WW HH (bs T) L c x y W (W * W) = false := fun {j i} hj hi h1 h2 => by
        have hmod : (j * W + i) % W = i := by rw [Nat.mul_comm, Nat.mul_add_mod, Nat.mod_eq_of_lt hi]
        have hdiv : (j * W + i) / W = j := by rw [Nat.mul_comm, Nat.mul_add_div (by omega), Nat.div_eq_of_lt hi, Nat.add_zero]
        refine footB_le (k := j * W + i + 1) ?_ (by rw [footB_succ, hmod, hdiv, h2, Bool.and_false])
        have := Nat.mul_le_mul_right W (show j + 1 ≤ W from hj)
        rw [Nat.add_mul, Nat.one_mul] at this
        omega
      have hg1 : ∀ {j i : Nat}, i < W → footB WW HH (bs T) L c x y W (j * W + i) = true → tileB WW HH (bs T) L c (x + i) (y + j) = true → footB WW HH (bs T) L c x y W (j * W + i + 1) = true := fun {j i} hi h1 h2 => by
        have hmod : (j * W + i) % W = i := by rw [Nat.mul_comm, Nat.mul_add_mod, Nat.mod_eq_of_lt hi]
        have hdiv : (j * W + i) / W = j := by rw [Nat.mul_comm, Nat.mul_add_div (by omega), Nat.div_eq_of_lt hi, Nat.add_zero]
        rw [footB_succ, hmod, hdiv, h1, h2]
        rfl
      refine aloop_forF (fun k f s => ∃ j : Nat, k + j = m ∧ j ≤ W ∧ footB WW HH (bs T) L c x y W (j * W) = true ∧ Grw s3 s ∧ f 0 = .ref rd 0 ∧ f 4 = .ref st.length 0 ∧ f 7 = .ref s1.length 0 ∧ f 8 = .sc (.int .i64 (y + j))) ⟨0, by omega, by omega, by simp [footB], Grw.refl _, by simp only [zF,Nat.reduceEqDiff,Nat.reduceLT], by simp only [zF,Nat.reduceEqDiff,Nat.reduceLT], by simp only [zF,Nat.reduceEqDiff,Nat.reduceLT], by simp only [zF,Nat.reduceEqDiff,Nat.reduceLT, Int.natCast_zero, Int.add_zero]⟩ ?_
      rintro I' hI' k f s ⟨j, hk, hj, hI, hg, f0, f4, f7, f8⟩
      refine ⟨k - 1, by omega, ?_⟩
      have e4 : IntKind.i64.wrap (y + W) = y + W := wi64 (by omega) (by omega)
      have e5 : IntKind.i64.wrap (x + W) = x + W := wi64 (by omega) (by omega)
      have p0 := hg _ _ d0
      have pr := hg _ _ dr
      by_cases hjl : j < W
      · have dj : decide (y + (j : Int) < y + W) = true := decide_eq_true (by omega)
        simp only [f0, f4, f7, f8, p0, pr, dj, e4, ↓zP,zV,Nat.reduceAdd,Nat.reduceMul,Nat.reduceLT,Nat.reduceEqDiff,Nat.reduceLeDiff,Int.reduceLE,Int.reduceLT,Int.reduceToNat,Int.reduceBNe,Int.reduceBEq,Int.reduceNeg,Int.reduceEq,Int.reduceAdd,Int.reduceGT,Int.reduceGE,reduceCtorEq]
        refine aloop_forF (fun k f s => ∃ i : Nat, k + i = m ∧ i ≤ W ∧ footB WW HH (bs T) L c x y W (j * W + i) = true ∧ Grw s3 s ∧ f 0 = .ref rd 0 ∧ f 4 = .ref st.length 0 ∧ f 7 = .ref s1.length 0 ∧ f 8 = .sc (.int .i64 (y + j)) ∧ f 9 = .sc (.int .i64 (x + i))) ⟨0, by omega, by omega, by simpa using hI, hg, by simp only [f0, zF,Nat.reduceEqDiff,Nat.reduceLT], by simp only [f4, zF,Nat.reduceEqDiff,Nat.reduceLT], by simp only [f7, zF,Nat.reduceEqDiff,Nat.reduceLT], by simp only [f8, zF,Nat.reduceEqDiff,Nat.reduceLT], by simp only [zF,Nat.reduceEqDiff,Nat.reduceLT, Int.natCast_zero, Int.add_zero]⟩ ?_
        rintro I2 hI2 k2 f s ⟨i, hk2, hi, hIi, hg, f0, f4, f7, f8, f9⟩
        refine ⟨k2 - 1, by omega, ?_⟩
        have p0 := hg _ _ d0
        have pr := hg _ _ dr
        by_cases hil : i < W
        · have di : decide (x + (i : Int) < x + W) = true := decide_eq_true (by omega)
          have e6 : IntKind.i64.wrap (x + i + 1) = x + (i + 1 : Nat) := by rw [wi64 (by omega) (by omega)]; omega
          simp only [f0, f4, f7, f8, f9, p0, pr, di, e5, ↓zP,zV,Nat.reduceAdd,Nat.reduceMul,Nat.reduceLT,Nat.reduceEqDiff,Nat.reduceLeDiff,Int.reduceLE,Int.reduceLT,Int.reduceToNat,Int.reduceBNe,Int.reduceBEq,Int.reduceNeg,Int.reduceEq,Int.reduceAdd,Int.reduceGT,Int.reduceGE,reduceCtorEq]
          refine (hwd _ hg).rterr (n := n) fun s4 j4 => ?_
          simp only [f0, f4, f7, f8, f9, ↓zP,zV,Nat.reduceAdd,Nat.reduceMul,Nat.reduceLT,Nat.reduceEqDiff,Nat.reduceLeDiff,Int.reduceLE,Int.reduceLT,Int.reduceToNat,Int.reduceBNe,Int.reduceBEq,Int.reduceNeg,Int.reduceEq,Int.reduceAdd,Int.reduceGT,Int.reduceGE,reduceCtorEq]
          refine (hwd _ (hg.trans j4)).rat (n := n) hm fun s5 j5 => ?_
          have g5 := (hg.trans j4).trans j5
          have p5 := g5 _ _ d0
          cases eb : (L.find? (hasU (x + i) (y + j))).isSome with
          | true =>
            rw [hb hjl hil hIi (by simp only [tileB, eb, Bool.not_true, Bool.false_and])] at hK
            simp only [f0, f4, f7, f8, f9, p5, eb, ↓zP,zV,Nat.reduceAdd,Nat.reduceMul,Nat.reduceLT,Nat.reduceEqDiff,Nat.reduceLeDiff,Int.reduceLE,Int.reduceLT,Int.reduceToNat,Int.reduceBNe,Int.reduceBEq,Int.reduceNeg,Int.reduceEq,Int.reduceAdd,Int.reduceGT,Int.reduceGE,reduceCtorEq]
            exact hK _ (G3.trans g5)
          | false =>
            simp only [f0, f4, f7, f8, f9, p5, eb, ↓zP,zV,Nat.reduceAdd,Nat.reduceMul,Nat.reduceLT,Nat.reduceEqDiff,Nat.reduceLeDiff,Int.reduceLE,Int.reduceLT,Int.reduceToNat,Int.reduceBNe,Int.reduceBEq,Int.reduceNeg,Int.reduceEq,Int.reduceAdd,Int.reduceGT,Int.reduceGE,reduceCtorEq]
            refine r_On (n := n + 4) ?_
            cases eo : onB c (terK WW HH (bs T) (x + i) (y + j)) with
            | false =>
              rw [hb hjl hil hIi (by simp only [tileB, eo, Bool.and_false])] at hK
              simp only [f0, f4, f7, f8, f9, p5, eo, ↓zP,zV,Nat.reduceAdd,Nat.reduceMul,Nat.reduceLT,Nat.reduceEqDiff,Nat.reduceLeDiff,Int.reduceLE,Int.reduceLT,Int.reduceToNat,Int.reduceBNe,Int.reduceBEq,Int.reduceNeg,Int.reduceEq,Int.reduceAdd,Int.reduceGT,Int.reduceGE,reduceCtorEq]
              exact hK _ (G3.trans g5)
            | true =>
              simp only [f0, f4, f7, f8, f9, p5, eo, e6, ↓zP,zV,Nat.reduceAdd,Nat.reduceMul,Nat.reduceLT,Nat.reduceEqDiff,Nat.reduceLeDiff,Int.reduceLE,Int.reduceLT,Int.reduceToNat,Int.reduceBNe,Int.reduceBEq,Int.reduceNeg,Int.reduceEq,Int.reduceAdd,Int.reduceGT,Int.reduceGE,reduceCtorEq]
              exact hI2 _ _ _ ⟨i + 1, by omega, hil, hg1 hil hIi (by simp only [tileB, eb, eo, Bool.not_false, Bool.and_self]), g5, by simp only [f0, zF,Nat.reduceEqDiff,Nat.reduceLT], by simp only [f4, zF,Nat.reduceEqDiff,Nat.reduceLT], by simp only [f7, zF,Nat.reduceEqDiff,Nat.reduceLT], by simp only [f8, zF,Nat.reduceEqDiff,Nat.reduceLT], by simp only [zF,Nat.reduceEqDiff,Nat.reduceLT]⟩
        · have di : decide (x + (i : Int) < x + W) = false := decide_eq_false (by omega)
          obtain rfl : i = W := by omega
          have e6 : IntKind.i64.wrap (y + j + 1) = y + (j + 1 : Nat) := by rw [wi64 (by omega) (by omega)]; omega
          simp only [f0, f4, f7, f8, f9, p0, pr, di, e5, e6, ↓zP,zV,Nat.reduceAdd,Nat.reduceMul,Nat.reduceLT,Nat.reduceEqDiff,Nat.reduceLeDiff,Int.reduceLE,Int.reduceLT,Int.reduceToNat,Int.reduceBNe,Int.reduceBEq,Int.reduceNeg,Int.reduceEq,Int.reduceAdd,Int.reduceGT,Int.reduceGE,reduceCtorEq]
          exact hI' _ _ _ ⟨j + 1, by omega, hjl, by rw [Nat.succ_mul]; exact hIi, hg, by simp only [f0, zF,Nat.reduceEqDiff,Nat.reduceLT], by simp only [f4, zF,Nat.reduceEqDiff,Nat.reduceLT], by simp only [f7, zF,Nat.reduceEqDiff,Nat.reduceLT], by simp only [zF,Nat.reduceEqDiff,Nat.reduceLT]⟩
      · have dj : decide (y + (j : Int) < y + W) = false := decide_eq_false (by omega)
        obtain rfl : j = W := by omega
        rw [hI] at hK
        simp only [f0, f4, f7, f8, p0, pr, dj, e4, ↓zP,zV,Nat.reduceAdd,Nat.reduceMul,Nat.reduceLT,Nat.reduceEqDiff,Nat.reduceLeDiff,Int.reduceLE,Int.reduceLT,Int.reduceToNat,Int.reduceBNe,Int.reduceBEq,Int.reduceNeg,Int.reduceEq,Int.reduceAdd,Int.reduceGT,Int.reduceGE,reduceCtorEq]
        exact hK _ (G3.trans hg)
  · have a0 := fun X => Grw.push s1 X _ _ (j1 _ _ c0)
    have G1 := fun X => (g0.trans j1).push' X
    have cr : (s1 ++ [Ob.cells (rc 0 0 0 0)])[s1.length]? = some (.cells (rc 0 0 0 0)) := get_new0 _ _
    simp only [rc] at cr
    simp only [rc, a0, cr, ↓zP,zV,Nat.reduceAdd,Nat.reduceMul,Nat.reduceLT,Nat.reduceEqDiff,Nat.reduceLeDiff,Int.reduceLE,Int.reduceLT,Int.reduceToNat,Int.reduceBNe,Int.reduceBEq,Int.reduceNeg,Int.reduceEq,Int.reduceAdd,Int.reduceGT,Int.reduceGE,reduceCtorEq]
    refine (hw.grw (G1 _)).rall (n := n + 4) fun s2 j2 => ?_
    have br := j2 _ _ cr
    have G2 := (G1 _).trans j2
    simp only [rc, br, cr, ↓zP,zV,Nat.reduceAdd,Nat.reduceMul,Nat.reduceLT,Nat.reduceEqDiff,Nat.reduceLeDiff,Int.reduceLE,Int.reduceLT,Int.reduceToNat,Int.reduceBNe,Int.reduceBEq,Int.reduceNeg,Int.reduceEq,Int.reduceAdd,Int.reduceGT,Int.reduceGE,reduceCtorEq]
    refine r_Within (n := n) fun s3 j3 => ?_
    have hf : standB WW HH (bs T) L c z x y = false := by
      simp only [standB, fitB, withinB, Bool.and_eq_false_iff] at ef ⊢
      rcases ef with h | h
      · exact .inl (.inl h)
      · exact .inl (.inr (.inl (.inl h)))
    rw [hf] at hK
    simp only [within0, ↓zP,zV,Nat.reduceAdd,Nat.reduceMul,Nat.reduceLT,Nat.reduceEqDiff,Nat.reduceLeDiff,Int.reduceLE,Int.reduceLT,Int.reduceToNat,Int.reduceBNe,Int.reduceBEq,Int.reduceNeg,Int.reduceEq,Int.reduceAdd,Int.reduceGT,Int.reduceGE,reduceCtorEq]
    exact hK _ (G2.trans j3)
set_option maxHeartbeats 4000000 in
theorem c_Steps (hw : Wo st wd ro WW HH T L) (hm : 300 < m) (hK : ∀ s, Grw st s → K (.sc (.bool (legB (standB WW HH (bs T) L c z) x y d))) s) : acallF Tryz.prog pl (n + 9) m 44 [.ref wd 0, .agg (cl c z), .agg (cl x y), .sc (.int .i64 d)] st K := by
  refine acallF_inF Tryz.func44 rfl rfl Tryz.ntmps44 (by simp) ?_
  have g0 := Grw.push st [.cells (cl c z), .cells (cl x y)]
  have c0 : (st ++ [Ob.cells (cl c z), .cells (cl x y)])[st.length]? = some (.cells (cl c z)) := get_new _ _ 0
  have c1 : (st ++ [Ob.cells (cl c z), .cells (cl x y)])[st.length + 1]? = some (.cells (cl x y)) := get_new _ _ 1
  simp only [cl] at g0 c0 c1
  simp only [cl, c1, ↓zP,zV,Nat.reduceAdd,Nat.reduceMul,Nat.reduceLT,Nat.reduceEqDiff,Nat.reduceLeDiff,Int.reduceLE,Int.reduceLT,Int.reduceToNat,Int.reduceBNe,Int.reduceBEq,Int.reduceNeg,Int.reduceEq,Int.reduceAdd,Int.reduceGT,Int.reduceGE,reduceCtorEq]
  refine c_Step (n := n + 5) fun s1 j1 => ?_
  have a0 := fun X => Grw.push s1 X _ _ (j1 _ _ c0)
  have a1 := fun X => Grw.push s1 X _ _ (j1 _ _ c1)
  have G1 := fun X => (g0.trans j1).push' X
  cases e : stepB x y d with
  | false =>
    simp only [legB, e, Bool.false_and] at hK
    simp only [cl, a0, a1, e, ↓zP,zV,Nat.reduceAdd,Nat.reduceMul,Nat.reduceLT,Nat.reduceEqDiff,Nat.reduceLeDiff,Int.reduceLE,Int.reduceLT,Int.reduceToNat,Int.reduceBNe,Int.reduceBEq,Int.reduceNeg,Int.reduceEq,Int.reduceAdd,Int.reduceGT,Int.reduceGE,reduceCtorEq]
    exact hK _ (G1 _)
  | true =>
    have ex : stX x y d = x + tX d := by unfold stX; rw [if_pos e]
    have ey : stY x y d = y + tY d := by unfold stY; rw [if_pos e]
    simp only [cl, a0, a1, e, ex, ey, ↓zP,zV,Nat.reduceAdd,Nat.reduceMul,Nat.reduceLT,Nat.reduceEqDiff,Nat.reduceLeDiff,Int.reduceLE,Int.reduceLT,Int.reduceToNat,Int.reduceBNe,Int.reduceBEq,Int.reduceNeg,Int.reduceEq,Int.reduceAdd,Int.reduceGT,Int.reduceGE,reduceCtorEq]
    refine c_Stands (n := n) (hw.grw (G1 _)) hm fun s2 j2 => ?_
    have b0 := j2 _ _ (a0 _)
    have b1 := j2 _ _ (a1 _)
    have b2 := j2 _ _ (get_new0 s1 [Ob.cells [V.sc (.int .i64 (x + tX d)), V.sc (.int .i64 (y + tY d))]])
    have G2 := (G1 _).trans j2
    cases e1 : standB WW HH (bs T) L c z x y with
    | false =>
      simp only [legB, e, e1, Bool.and_false, Bool.false_and] at hK
      simp only [b0, b1, b2, e1, ↓zP,zV,Nat.reduceAdd,Nat.reduceMul,Nat.reduceLT,Nat.reduceEqDiff,Nat.reduceLeDiff,Int.reduceLE,Int.reduceLT,Int.reduceToNat,Int.reduceBNe,Int.reduceBEq,Int.reduceNeg,Int.reduceEq,Int.reduceAdd,Int.reduceGT,Int.reduceGE,reduceCtorEq]
      exact hK _ G2
    | true =>
      simp only [b0, b1, b2, e1, get_new, get_new0, ↓zP,zV,Nat.reduceAdd,Nat.reduceMul,Nat.reduceLT,Nat.reduceEqDiff,Nat.reduceLeDiff,Int.reduceLE,Int.reduceLT,Int.reduceToNat,Int.reduceBNe,Int.reduceBEq,Int.reduceNeg,Int.reduceEq,Int.reduceAdd,Int.reduceGT,Int.reduceGE,reduceCtorEq]
      refine c_Stands (n := n) (hw.grw G2) hm fun s3 j3 => ?_
      have d0 := j3 _ _ b0
      have d1 := j3 _ _ b1
      have G3 := G2.trans j3
      cases e2 : standB WW HH (bs T) L c z (x + tX d) (y + tY d) with
      | false =>
        simp only [legB, e, e1, e2, Bool.and_false, Bool.false_and] at hK
        simp only [d0, d1, e2, ↓zP,zV,Nat.reduceAdd,Nat.reduceMul,Nat.reduceLT,Nat.reduceEqDiff,Nat.reduceLeDiff,Int.reduceLE,Int.reduceLT,Int.reduceToNat,Int.reduceBNe,Int.reduceBEq,Int.reduceNeg,Int.reduceEq,Int.reduceAdd,Int.reduceGT,Int.reduceGE,reduceCtorEq]
        exact hK _ G3
      | true =>
        simp only [d0, d1, e2, ↓zP,zV,Nat.reduceAdd,Nat.reduceMul,Nat.reduceLT,Nat.reduceEqDiff,Nat.reduceLeDiff,Int.reduceLE,Int.reduceLT,Int.reduceToNat,Int.reduceBNe,Int.reduceBEq,Int.reduceNeg,Int.reduceEq,Int.reduceAdd,Int.reduceGT,Int.reduceGE,reduceCtorEq]
        refine c_Sides (n := n + 4) (fun _ h4 s4 j4 => ?_) (fun hh s4 j4 => ?_)
        · have h4' : decide (d < 4) = false := decide_eq_false h4
          have w0 := fun X => Grw.push s4 X _ _ (j4 _ _ d0)
          have w1 := fun X => Grw.push s4 X _ _ (j4 _ _ d1)
          have G4 := fun X => (G3.trans j4).push' X
          simp only [cl, w0, w1, ↓zP,zV,Nat.reduceAdd,Nat.reduceMul,Nat.reduceLT,Nat.reduceEqDiff,Nat.reduceLeDiff,Int.reduceLE,Int.reduceLT,Int.reduceToNat,Int.reduceBNe,Int.reduceBEq,Int.reduceNeg,Int.reduceEq,Int.reduceAdd,Int.reduceGT,Int.reduceGE,reduceCtorEq]
          refine c_Stands (n := n) (hw.grw (G4 _)) hm fun s5 j5 => ?_
          have v0 := j5 _ _ (w0 _)
          have v1 := j5 _ _ (w1 _)
          have v2 := j5 _ _ (get_new s4 [Ob.cells [V.sc (.int .i64 (x + tX d)), V.sc (.int .i64 y)], Ob.cells [V.sc (.int .i64 x), V.sc (.int .i64 (y + tY d))]] 1)
          have G5 := (G4 _).trans j5
          cases e3 : standB WW HH (bs T) L c z (x + tX d) y with
          | false =>
            simp only [legB, e, e1, e2, e3, h4', Bool.and_false, Bool.false_and, Bool.or_self] at hK
            simp only [v0, v1, v2, e3, ↓zP,zV,Nat.reduceAdd,Nat.reduceMul,Nat.reduceLT,Nat.reduceEqDiff,Nat.reduceLeDiff,Int.reduceLE,Int.reduceLT,Int.reduceToNat,Int.reduceBNe,Int.reduceBEq,Int.reduceNeg,Int.reduceEq,Int.reduceAdd,Int.reduceGT,Int.reduceGE,reduceCtorEq]
            exact hK _ G5
          | true =>
            simp only [v0, v1, v2, e3, get_new, get_new0, List.getElem?_cons_succ, List.getElem?_cons_zero, ↓zP,zV,Nat.reduceAdd,Nat.reduceMul,Nat.reduceLT,Nat.reduceEqDiff,Nat.reduceLeDiff,Int.reduceLE,Int.reduceLT,Int.reduceToNat,Int.reduceBNe,Int.reduceBEq,Int.reduceNeg,Int.reduceEq,Int.reduceAdd,Int.reduceGT,Int.reduceGE,reduceCtorEq]
            refine c_Stands (n := n) (hw.grw G5) hm fun s6 j6 => ?_
            simp only [legB, e, e1, e2, e3, h4', Bool.true_and, Bool.and_true, Bool.false_or] at hK
            cases e4 : standB WW HH (bs T) L c z x (y + tY d) with
            | false =>
              rw [e4] at hK
              simp only [e4, ↓zP,zV,Nat.reduceAdd,Nat.reduceMul,Nat.reduceLT,Nat.reduceEqDiff,Nat.reduceLeDiff,Int.reduceLE,Int.reduceLT,Int.reduceToNat,Int.reduceBNe,Int.reduceBEq,Int.reduceNeg,Int.reduceEq,Int.reduceAdd,Int.reduceGT,Int.reduceGE,reduceCtorEq]
              exact hK _ (G5.trans j6)
            | true =>
              rw [e4] at hK
              simp only [e4, ↓zP,zV,Nat.reduceAdd,Nat.reduceMul,Nat.reduceLT,Nat.reduceEqDiff,Nat.reduceLeDiff,Int.reduceLE,Int.reduceLT,Int.reduceToNat,Int.reduceBNe,Int.reduceBEq,Int.reduceNeg,Int.reduceEq,Int.reduceAdd,Int.reduceGT,Int.reduceGE,reduceCtorEq]
              exact hK _ (G5.trans j6)
        · have h4 : decide (d < 4) = true := decide_eq_true (hh.resolve_left (by rw [e]; decide))
          have G4 := fun X => (G3.trans j4).push' X
          simp only [legB, e, e1, e2, h4, Bool.and_self, Bool.true_or] at hK
          simp only [cl, ↓zP,zV,Nat.reduceAdd,Nat.reduceMul,Nat.reduceLT,Nat.reduceEqDiff,Nat.reduceLeDiff,Int.reduceLE,Int.reduceLT,Int.reduceToNat,Int.reduceBNe,Int.reduceBEq,Int.reduceNeg,Int.reduceEq,Int.reduceAdd,Int.reduceGT,Int.reduceGE,reduceCtorEq]
          exact hK _ (G4 _)
end
def bv (b : Bool) : V := .sc (.bool b)
def grdL (S : Int → Int → Bool) (W k : Nat) : List V := (List.range k).map fun q => bv (S (q % W : Nat) (q / W : Nat))
theorem grdL_len (S : Int → Int → Bool) (W k : Nat) : (grdL S W k).length = k := by simp [grdL]
theorem grdL_succ (S : Int → Int → Bool) (W k : Nat) : grdL S W (k + 1) = grdL S W k ++ [bv (S (k % W : Nat) (k / W : Nat))] := by simp [grdL, List.range_succ]
theorem grdL_at (S : Int → Int → Bool) {W k i : Nat} (h : i < k) : (grdL S W k)[i]? = some (bv (S (i % W : Nat) (i / W : Nat))) := by simp [grdL, h]
theorem gl_lt {s : List Ob} {e : TypeId} {v : V} {xs : List V} {n : Nat} (h : Gl s e v xs n) : ∀ j, rowOf v = some j → j < s.length := by
  rcases h with ⟨rfl, rfl, rfl⟩ | ⟨id, lo, rfl, h1, h2⟩
  · intro j h; cases h
  · intro j h
    simp only [rowOf, Option.some.injEq] at h
    subst h
    exact (List.getElem?_eq_some_iff.1 h1).1
structure Gnd (s : List Ob) (iv : V) (WW HH : Int) (S : Int → Int → Bool) : Prop where
  rd : Rd Tryz.prog s 4 iv (grdL S WW.toNat (HH.toNat * WW.toNat)) (HH.toNat * WW.toNat)
  one : M.one iv = true ∧ cellsV iv = [iv]
  w : 1 ≤ WW ∧ WW ≤ 128
  h : 1 ≤ HH ∧ HH ≤ 128
  out : ∀ x y, S x y = true → 0 ≤ x ∧ x < WW ∧ 0 ≤ y ∧ y < HH
theorem stand_in {WW HH : Int} {ts : List V} {L : List B4} {c z x y : Int} (h : standB WW HH ts L c z x y = true) : 0 ≤ x ∧ x < WW ∧ 0 ≤ y ∧ y < HH := by
  simp only [standB, fitB, withinB, hasB, inB, Bool.and_eq_true, decide_eq_true_eq] at h
  omega
section
variable {n m : Nat} {st s S0 : List Ob} {K : V → List Ob → Prop} {wd rd : Nat} {ro : Option Nat} {WW HH : Int} {T : List Int} {L : List B4} {x y c z d : Int} {iv : V} {S : Int → Int → Bool}
theorem Gnd.grw (h : Gnd st iv WW HH S) (k : Grw st s) : Gnd s iv WW HH S := ⟨h.rd.grw k, h.one, h.w, h.h, h.out⟩
set_option maxHeartbeats 4000000 in
theorem g_Stands (hg : Gnd st iv WW HH S) (hK : ∀ s, Grw st s → K (.sc (.bool (S x y))) s) : acallF Tryz.prog pl (n + 1) m 104 [.agg [.sc (.int .i64 WW), .sc (.int .i64 HH), iv], .agg (cl x y)] st K := by
  refine acallF_inF Tryz.func104 rfl rfl Tryz.ntmps104 (by simp) ?_
  have fin : (¬ (0 ≤ x ∧ x < WW ∧ 0 ≤ y ∧ y < HH)) → S x y = false := fun h => by
    cases hh : S x y with
    | false => rfl
    | true => exact absurd (hg.out _ _ hh) h
  have o1 := hg.one.1
  have o2 := hg.one.2
  cases d1 : decide (x ≥ 0) with
  | false =>
    rw [fin fun h => of_decide_eq_false d1 h.1] at hK
    simp only [cl, o1, o2, d1, ↓zP,zV,Nat.reduceAdd,Nat.reduceMul,Nat.reduceLT,Nat.reduceEqDiff,Nat.reduceLeDiff,Int.reduceLE,Int.reduceLT,Int.reduceToNat,Int.reduceBNe,Int.reduceBEq,Int.reduceNeg,Int.reduceEq,Int.reduceAdd,Int.reduceGT,Int.reduceGE,reduceCtorEq]
    exact hK _ (Grw.push _ _)
  | true =>
  cases d2 : decide (x < WW) with
  | false =>
    rw [fin fun h => of_decide_eq_false d2 h.2.1] at hK
    simp only [cl, o1, o2, d1, d2, ↓zP,zV,Nat.reduceAdd,Nat.reduceMul,Nat.reduceLT,Nat.reduceEqDiff,Nat.reduceLeDiff,Int.reduceLE,Int.reduceLT,Int.reduceToNat,Int.reduceBNe,Int.reduceBEq,Int.reduceNeg,Int.reduceEq,Int.reduceAdd,Int.reduceGT,Int.reduceGE,reduceCtorEq]
    exact hK _ (Grw.push _ _)
  | true =>
  cases d3 : decide (y ≥ 0) with
  | false =>
    rw [fin fun h => of_decide_eq_false d3 h.2.2.1] at hK
    simp only [cl, o1, o2, d1, d2, d3, ↓zP,zV,Nat.reduceAdd,Nat.reduceMul,Nat.reduceLT,Nat.reduceEqDiff,Nat.reduceLeDiff,Int.reduceLE,Int.reduceLT,Int.reduceToNat,Int.reduceBNe,Int.reduceBEq,Int.reduceNeg,Int.reduceEq,Int.reduceAdd,Int.reduceGT,Int.reduceGE,reduceCtorEq]
    exact hK _ (Grw.push _ _)
  | true =>
  cases d4 : decide (y < HH) with
  | false =>
    rw [fin fun h => of_decide_eq_false d4 h.2.2.2] at hK
    simp only [cl, o1, o2, d1, d2, d3, d4, ↓zP,zV,Nat.reduceAdd,Nat.reduceMul,Nat.reduceLT,Nat.reduceEqDiff,Nat.reduceLeDiff,Int.reduceLE,Int.reduceLT,Int.reduceToNat,Int.reduceBNe,Int.reduceBEq,Int.reduceNeg,Int.reduceEq,Int.reduceAdd,Int.reduceGT,Int.reduceGE,reduceCtorEq]
    exact hK _ (Grw.push _ _)
  | true =>
    have q1 := of_decide_eq_true d1
    have q2 := of_decide_eq_true d2
    have q3 := of_decide_eq_true d3
    have q4 := of_decide_eq_true d4
    obtain ⟨w1, w2⟩ := hg.w
    obtain ⟨h1, h2⟩ := hg.h
    obtain ⟨W, rfl⟩ := Int.eq_ofNat_of_zero_le (show 0 ≤ WW by omega)
    obtain ⟨H, rfl⟩ := Int.eq_ofNat_of_zero_le (show 0 ≤ HH by omega)
    obtain ⟨i, rfl⟩ := Int.eq_ofNat_of_zero_le (show 0 ≤ x by omega)
    obtain ⟨j, rfl⟩ := Int.eq_ofNat_of_zero_le (show 0 ≤ y by omega)
    have hi : i < W := by omega
    have hj : j < H := by omega
    have hq : j * W + i < H * W := by
      have := Nat.mul_le_mul_right W (show j + 1 ≤ H from hj)
      rw [Nat.add_mul, Nat.one_mul] at this
      omega
    have hqb : H * W ≤ 128 * 128 := Nat.mul_le_mul (by omega) (by omega)
    have hmod : (j * W + i) % W = i := by rw [Nat.mul_comm, Nat.mul_add_mod, Nat.mod_eq_of_lt hi]
    have hdiv : (j * W + i) / W = j := by rw [Nat.mul_comm, Nat.mul_add_div (by omega), Nat.div_eq_of_lt hi, Nat.add_zero]
    have e1 : IntKind.i64.wrap ((j : Int) * (W : Int)) = ((j * W : Nat) : Int) := by rw [wi64 (by rw [← Int.natCast_mul]; omega) (by rw [← Int.natCast_mul]; omega), ← Int.natCast_mul]
    have e2 : IntKind.i64.wrap (((j * W : Nat) : Int) + (i : Int)) = ((j * W + i : Nat) : Int) := by rw [wi64 (by omega) (by omega)]; rfl
    have grd := fun X => hg.rd.grw (Grw.push st X)
    simp only [Int.toNat_natCast] at grd
    have p1 := fun X => aix_rd (grd X) Tryz.underlying57 sz4 .i64 (j := ((j * W + i : Nat) : Int)) (by omega) (by omega)
    have p2 := fun X => ald_ix (grd X) sz4 sz4 (by omega) hq (o := 0) (by omega)
    have p3 : aload Tryz.prog 4 ((grdL S W (H * W)).drop ((j * W + i) * 1 + 0)) = some (bv (S i j)) := by
      simp only [aload, ag4, Nat.mul_one, Nat.add_zero]
      rw [List.getElem?_drop, Nat.add_zero, grdL_at S hq, hmod, hdiv]
    simp only [p3, Option.map_some, bv] at p2
    simp only [Int.toNat_natCast] at p1
    cases eS : S i j with
    | false =>
      rw [eS] at p2 hK
      simp only [cl, o1, o2, d1, d2, d3, d4, e1, e2, p1, p2, ↓zP,zV,Nat.reduceAdd,Nat.reduceMul,Nat.reduceLT,Nat.reduceEqDiff,Nat.reduceLeDiff,Int.reduceLE,Int.reduceLT,Int.reduceToNat,Int.reduceBNe,Int.reduceBEq,Int.reduceNeg,Int.reduceEq,Int.reduceAdd,Int.reduceGT,Int.reduceGE,reduceCtorEq]
      exact hK _ (Grw.push _ _)
    | true =>
      rw [eS] at p2 hK
      simp only [cl, o1, o2, d1, d2, d3, d4, e1, e2, p1, p2, ↓zP,zV,Nat.reduceAdd,Nat.reduceMul,Nat.reduceLT,Nat.reduceEqDiff,Nat.reduceLeDiff,Int.reduceLE,Int.reduceLT,Int.reduceToNat,Int.reduceBNe,Int.reduceBEq,Int.reduceNeg,Int.reduceEq,Int.reduceAdd,Int.reduceGT,Int.reduceGE,reduceCtorEq]
      exact hK _ (Grw.push _ _)
set_option maxHeartbeats 4000000 in
theorem g_Of (hw : Wo st wd (some rd) WW HH T L) (hm : 300 < m) (hK : ∀ s iv, Grw st s → Gnd s iv WW HH (standB WW HH (bs T) L c z) → K (.agg [.sc (.int .i64 WW), .sc (.int .i64 HH), iv]) s) :
    acallF Tryz.prog pl (n + 7) m 11 [.ref rd 0, .agg (cl c z)] st K := by
  refine acallF_inF Tryz.func11 rfl rfl Tryz.ntmps11 (by simp) ?_
  obtain ⟨hW, hH, _, _⟩ := refOK_facts hw.ok
  have g0 := Grw.push st [.cells (cl c z), .cells [.sc (.int .i64 0), .sc (.int .i64 0), .tsl [] 0 true true]]
  have c0 : (st ++ [Ob.cells (cl c z), .cells [.sc (.int .i64 0), .sc (.int .i64 0), .tsl [] 0 true true]])[st.length]? = some (.cells (cl c z)) := get_new _ _ 0
  have c1 : (st ++ [Ob.cells (cl c z), .cells [.sc (.int .i64 0), .sc (.int .i64 0), .tsl [] 0 true true]])[st.length + 1]? = some (.cells [.sc (.int .i64 0), .sc (.int .i64 0), .tsl [] 0 true true]) := get_new _ _ 1
  simp only [cl] at g0 c0 c1
  simp only [cl, ↓zP,zV,Nat.reduceAdd,Nat.reduceMul,Nat.reduceLT,Nat.reduceEqDiff,Nat.reduceLeDiff,Int.reduceLE,Int.reduceLT,Int.reduceToNat,Int.reduceBNe,Int.reduceBEq,Int.reduceNeg,Int.reduceEq,Int.reduceAdd,Int.reduceGT,Int.reduceGE,reduceCtorEq]
  refine (hw.grw g0).rall (n := n + 5) fun s1 j1 => ?_
  have a0 := fun X => Grw.push s1 X _ _ (j1 _ _ c0)
  have a1 := fun X => Grw.push s1 X _ _ (j1 _ _ c1)
  have G1 := fun X => (g0.trans j1).push' X
  simp only [rc, get_new, get_new0, M.set_new, M.set_new0, List.getElem?_cons_succ, List.getElem?_cons_zero, ↓zP,zV,Nat.reduceAdd,Nat.reduceMul,Nat.reduceLT,Nat.reduceEqDiff,Nat.reduceLeDiff,Int.reduceLE,Int.reduceLT,Int.reduceToNat,Int.reduceBNe,Int.reduceBEq,Int.reduceNeg,Int.reduceEq,Int.reduceAdd,Int.reduceGT,Int.reduceGE,reduceCtorEq]
  generalize hS : s1 ++ _ = S1
  have b0 : S1[st.length]? = some (.cells (cl c z)) := by rw [← hS]; exact a0 _
  have b1 : S1[st.length + 1]? = some (.cells [.sc (.int .i64 0), .sc (.int .i64 0), .tsl [] 0 true true]) := by rw [← hS]; exact a1 _
  have b2 : S1[s1.length + 1]? = some (.cells [.sc (.int .i64 WW), .sc (.int .i64 HH), .tsl [] 0 true true]) := by rw [← hS]; exact get_new _ _ 1
  have gS : Grw st S1 := by rw [← hS]; exact G1 _
  have l1 : st.length + 2 ≤ s1.length := by have := (List.getElem?_eq_some_iff.1 (j1 _ _ c1)).1; omega
  have lS : s1.length + 1 < S1.length := (List.getElem?_eq_some_iff.1 b2).1
  have lSe : S1.length = s1.length + 2 := by rw [← hS]; simp
  clear hS
  simp only [cl] at b0
  obtain ⟨W, rfl⟩ := Int.eq_ofNat_of_zero_le (show 0 ≤ WW by omega)
  obtain ⟨H, rfl⟩ := Int.eq_ofNat_of_zero_le (show 0 ≤ HH by omega)
  have hqb : H * W ≤ 128 * 128 := Nat.mul_le_mul (by omega) (by omega)
  have grw : ∀ {s : List Ob}, (∀ q o, q ≠ s1.length + 1 → S1[q]? = some o → s[q]? = some o) → Grw st s := fun h q o hq => by
    have := (List.getElem?_eq_some_iff.1 hq).1
    exact h _ _ (by omega) (gS _ _ hq)
  generalize hSS : standB W H (bs T) L c z = SS at hK
  refine aloop_forF (fun k f s => ∃ (j : Nat) (iv : V), k + j = m ∧ j ≤ H ∧ Gl s 4 iv (grdL SS W (j * W)) (j * W) ∧ s[s1.length + 1]? = some (.cells [.sc (.int .i64 W), .sc (.int .i64 H), iv]) ∧ (∀ q o, q ≠ s1.length + 1 → S1[q]? = some o → s[q]? = some o) ∧ (∀ q, rowOf iv = some q → S1.length ≤ q) ∧
    f 0 = .ref rd 0 ∧ f 3 = .ref st.length 0 ∧ f 4 = .ref (st.length + 1) 0 ∧ f 6 = .ref (s1.length + 1) 0 ∧ f 7 = .sc (.int .i64 j)) ⟨0, _, by omega, by omega, .inl ⟨rfl, by simp [grdL], by simp⟩, b2, fun _ _ _ h => h, (fun _ h => by cases h), by simp only [zF,Nat.reduceEqDiff,Nat.reduceLT], by simp only [zF,Nat.reduceEqDiff,Nat.reduceLT], by simp only [zF,Nat.reduceEqDiff,Nat.reduceLT], by simp only [zF,Nat.reduceEqDiff,Nat.reduceLT], by simp only [zF,Nat.reduceEqDiff,Nat.reduceLT]; rfl⟩ ?_
  rintro I' hI' k f s ⟨j, iv, hk, hj, gl, e6, fr, nw, f0, f3, f4, f6, f7⟩
  refine ⟨k - 1, by omega, ?_⟩
  by_cases hjl : j < H
  · have dj : decide ((j : Int) < H) = true := decide_eq_true (by omega)
    simp only [f0, f3, f4, f6, f7, e6, dj, ↓zP,zV,Nat.reduceAdd,Nat.reduceMul,Nat.reduceLT,Nat.reduceEqDiff,Nat.reduceLeDiff,Int.reduceLE,Int.reduceLT,Int.reduceToNat,Int.reduceBNe,Int.reduceBEq,Int.reduceNeg,Int.reduceEq,Int.reduceAdd,Int.reduceGT,Int.reduceGE,reduceCtorEq]
    refine aloop_forF (fun k f s => ∃ (i : Nat) (iv : V), k + i = m ∧ i ≤ W ∧ Gl s 4 iv (grdL SS W (j * W + i)) (j * W + i) ∧ s[s1.length + 1]? = some (.cells [.sc (.int .i64 W), .sc (.int .i64 H), iv]) ∧ (∀ q o, q ≠ s1.length + 1 → S1[q]? = some o → s[q]? = some o) ∧ (∀ q, rowOf iv = some q → S1.length ≤ q) ∧
      f 0 = .ref rd 0 ∧ f 3 = .ref st.length 0 ∧ f 4 = .ref (st.length + 1) 0 ∧ f 6 = .ref (s1.length + 1) 0 ∧ f 7 = .sc (.int .i64 j) ∧ f 8 = .sc (.int .i64 i)) ⟨0, iv, by omega, by omega, gl, e6, fr, nw, by simp only [f0, zF,Nat.reduceEqDiff,Nat.reduceLT], by simp only [f3, zF,Nat.reduceEqDiff,Nat.reduceLT], by simp only [f4, zF,Nat.reduceEqDiff,Nat.reduceLT], by simp only [f6, zF,Nat.reduceEqDiff,Nat.reduceLT], by simp only [f7, zF,Nat.reduceEqDiff,Nat.reduceLT], by simp only [zF,Nat.reduceEqDiff,Nat.reduceLT]; rfl⟩ ?_
    rintro I2 hI2 k2 f s ⟨i, iv, hk2, hi, gl, e6, fr, nw, f0, f3, f4, f6, f7, f8⟩
    refine ⟨k2 - 1, by omega, ?_⟩
    obtain ⟨o1, o2⟩ := gl.one
    by_cases hil : i < W
    · have di : decide ((i : Int) < W) = true := decide_eq_true (by omega)
      have e3 : IntKind.i64.wrap ((i : Int) + 1) = ((i + 1 : Nat) : Int) := by rw [IntWalk.i64_in _ (by omega)]; rfl
      have e0 := fr _ _ (by omega) b0
      have gX := fun X => Grw.push s X
      have e6X := fun X => gX X _ _ e6
      have e0X := fun X => gX X _ _ e0
      simp only [f0, f3, f4, f6, f7, f8, e6, e6X, e0X, di, o1, o2, ↓zP,zV,Nat.reduceAdd,Nat.reduceMul,Nat.reduceLT,Nat.reduceEqDiff,Nat.reduceLeDiff,Int.reduceLE,Int.reduceLT,Int.reduceToNat,Int.reduceBNe,Int.reduceBEq,Int.reduceNeg,Int.reduceEq,Int.reduceAdd,Int.reduceGT,Int.reduceGE,reduceCtorEq]
      refine r_Stands (n := n) (hw.grw ((grw fr).push' _)) hm fun s2 j2 => ?_
      rw [hSS]
      have hq : j * W + i < H * W := by
        have := Nat.mul_le_mul_right W (show j + 1 ≤ H from hjl)
        rw [Nat.add_mul, Nat.one_mul] at this
        omega
      have hmod : (j * W + i) % W = i := by rw [Nat.mul_comm, Nat.mul_add_mod, Nat.mod_eq_of_lt hil]
      have hdiv : (j * W + i) / W = j := by rw [Nat.mul_comm, Nat.mul_add_div (by omega), Nat.div_eq_of_lt hil, Nat.add_zero]
      have ng : s2[s.length]? = some .gone := j2 _ _ (get_new0 s [Ob.gone])
      have e62 := j2 _ _ (e6X [Ob.gone])
      have l6 : s1.length + 1 < s.length := (List.getElem?_eq_some_iff.1 e6).1
      have n6s : s.length ≠ s1.length + 1 := by omega
      have e63 : ∀ o, (s2.set s.length o)[s1.length + 1]? = some (.cells [.sc (.int .i64 W), .sc (.int .i64 H), iv]) := fun o => by rw [List.getElem?_set_ne n6s]; exact e62
      have r3 : ∀ o, (s2.set s.length o)[s.length]? = some o := fun o => get_set ng o
      have keep3 : ∀ o q (z : Ob), s[q]? = some z → (s2.set s.length o)[q]? = some z := fun o q z hz => by
        have := (List.getElem?_eq_some_iff.1 hz).1
        rw [List.getElem?_set_ne (by omega)]
        exact j2 _ _ (gX _ _ _ hz)
      obtain ⟨iv2, s5, ap, gl5, tr5, nw5⟩ := gl_app (P := Tryz.prog) (t := 57) (s := s2.set s.length (.row 4 [bv (SS i j)] 1 0 false)) (x := .sl s.length 0 1 false 1) (zs := [bv (SS i j)]) (k := 1) (gl.of fun q o _ h => keep3 _ _ _ h) Tryz.underlying57 sz4 by4 ze4 (by omega) rfl (by rw [grdL_len]; omega) (by simp only [elems, r3, sz4]; rfl) rfl rfl (by omega) (by omega)
      have n6 : rowOf iv ≠ some (s1.length + 1) := gl.ncells e6
      have e65 := tr5.2 _ _ n6 (e63 _)
      have q65 := fun o => get_set e65 o
      have nys : rowOf iv ≠ some s.length := fun h => by have := gl_lt gl _ h; omega
      have b5 : ∀ o, (s5.set (s1.length + 1) o)[s.length]? = some (.row 4 [bv (SS i j)] 1 0 false) := fun o => by rw [List.getElem?_set_ne (Ne.symm n6s)]; exact tr5.2 _ _ nys (r3 _)
      obtain ⟨p1, p2⟩ := gl5.one
      simp only [bv] at ap b5
      simp only [f0, f3, f4, f6, f7, f8, ng, e62, e63, r3, b5, ap, e65, q65, e3, p1, p2, o1, o2, ↓zP,zV,Nat.reduceAdd,Nat.reduceMul,Nat.reduceLT,Nat.reduceEqDiff,Nat.reduceLeDiff,Int.reduceLE,Int.reduceLT,Int.reduceToNat,Int.reduceBNe,Int.reduceBEq,Int.reduceNeg,Int.reduceEq,Int.reduceAdd,Int.reduceGT,Int.reduceGE,reduceCtorEq]
      have fr5 : ∀ q o, q ≠ s1.length + 1 → S1[q]? = some o → s5[q]? = some o := fun q o hq ho => by
        have lq := (List.getElem?_eq_some_iff.1 ho).1
        exact tr5.2 _ _ (fun h => by have := nw _ h; omega) (keep3 _ _ _ (fr _ _ hq ho))
      have nw5' : ∀ q, rowOf iv2 = some q → S1.length ≤ q := fun q h => by
        rcases nw5 q h with h | h
        · exact nw _ h
        · have h2 := (List.getElem?_eq_some_iff.1 e62).1
          simp only [List.length_set] at h
          omega
      have hgl : Gl s5 4 iv2 (grdL SS W (j * W + (i + 1))) (j * W + (i + 1)) := by
        have := gl5
        rw [show j * W + (i + 1) = j * W + i + 1 from rfl, grdL_succ, hmod, hdiv]
        exact this
      have n62 : rowOf iv2 ≠ some (s1.length + 1) := fun h => by have := nw5' _ h; omega
      refine hI2 _ _ _ ⟨i + 1, iv2, by omega, hil, hgl.of fun q o h1 h2 => ?_, q65 _, fun q o h1 h2 => ?_, nw5', by simp only [f0, zF,Nat.reduceEqDiff,Nat.reduceLT], by simp only [f3, zF,Nat.reduceEqDiff,Nat.reduceLT], by simp only [f4, zF,Nat.reduceEqDiff,Nat.reduceLT], by simp only [f6, zF,Nat.reduceEqDiff,Nat.reduceLT], by simp only [f7, zF,Nat.reduceEqDiff,Nat.reduceLT], by simp only [zF,Nat.reduceEqDiff,Nat.reduceLT]⟩
      · rw [List.getElem?_set_ne (fun he => n62 (by rw [he]; exact h1))]
        exact h2
      · rw [List.getElem?_set_ne (Ne.symm h1)]
        exact fr5 _ _ h1 h2
    · have di : decide ((i : Int) < W) = false := decide_eq_false (by omega)
      obtain rfl : i = W := by omega
      have e3 : IntKind.i64.wrap ((j : Int) + 1) = ((j + 1 : Nat) : Int) := by rw [IntWalk.i64_in _ (by omega)]; rfl
      simp only [f0, f3, f4, f6, f7, f8, e6, di, e3, ↓zP,zV,Nat.reduceAdd,Nat.reduceMul,Nat.reduceLT,Nat.reduceEqDiff,Nat.reduceLeDiff,Int.reduceLE,Int.reduceLT,Int.reduceToNat,Int.reduceBNe,Int.reduceBEq,Int.reduceNeg,Int.reduceEq,Int.reduceAdd,Int.reduceGT,Int.reduceGE,reduceCtorEq]
      exact hI' _ _ _ ⟨j + 1, iv, by omega, hjl, by rw [Nat.succ_mul]; exact gl, e6, fr, nw, by simp only [f0, zF,Nat.reduceEqDiff,Nat.reduceLT], by simp only [f3, zF,Nat.reduceEqDiff,Nat.reduceLT], by simp only [f4, zF,Nat.reduceEqDiff,Nat.reduceLT], by simp only [f6, zF,Nat.reduceEqDiff,Nat.reduceLT], by simp only [zF,Nat.reduceEqDiff,Nat.reduceLT]⟩
  · have dj : decide ((j : Int) < H) = false := decide_eq_false (by omega)
    obtain rfl : j = H := by omega
    obtain ⟨o1, o2⟩ := gl.one
    have e4 := fr _ _ (by omega) b1
    have q4 := fun o => get_set e4 o
    have nr : ∀ q, rowOf iv = some q → q ≠ st.length + 1 := fun q h => by have := nw q h; omega
    simp only [f0, f3, f4, f6, f7, e6, e4, q4, dj, o1, o2, ↓zP,zV,Nat.reduceAdd,Nat.reduceMul,Nat.reduceLT,Nat.reduceEqDiff,Nat.reduceLeDiff,Int.reduceLE,Int.reduceLT,Int.reduceToNat,Int.reduceBNe,Int.reduceBEq,Int.reduceNeg,Int.reduceEq,Int.reduceAdd,Int.reduceGT,Int.reduceGE,reduceCtorEq]
    refine hK _ _ ((grw fr).set (by omega) _) ⟨?_, ⟨o1, o2⟩, hW, hH, fun x y h => stand_in (hSS ▸ h)⟩
    simp only [Int.toNat_natCast]
    refine (gl.of fun q o h1 h2 => ?_).rd sz4 (by rw [grdL_len]; omega)
    rw [List.getElem?_set_ne (Ne.symm (nr q h1))]
    exact h2
end
section
variable {n m : Nat} {st s S0 : List Ob} {K : V → List Ob → Prop} {WW HH : Int} {x y c z d : Int} {iv pv : V} {S : Int → Int → Bool} {u : Un}
set_option maxHeartbeats 4000000 in
theorem g_Steps (hg : Gnd st iv WW HH S) (hK1 : legB S x y d = true → ∀ s, Grw st s → K (.tup [.agg (cl (x + tX d) (y + tY d)), .sc (.bool true)]) s) (hK0 : legB S x y d = false → ∀ s, Grw st s → K (.tup [.agg (cl 0 0), .sc (.bool false)]) s) :
    acallF Tryz.prog pl (n + 5) m 67 [.agg [.sc (.int .i64 WW), .sc (.int .i64 HH), iv], .agg (cl x y), .sc (.int .i64 d)] st K := by
  refine acallF_inF Tryz.func67 rfl rfl Tryz.ntmps67 (by simp) ?_
  have o1 := hg.one.1
  have o2 := hg.one.2
  have g0 := Grw.push st [.cells [.sc (.int .i64 WW), .sc (.int .i64 HH), iv], .cells (cl x y), .cells (cl 0 0)]
  have c0 : (st ++ [Ob.cells [.sc (.int .i64 WW), .sc (.int .i64 HH), iv], .cells (cl x y), .cells (cl 0 0)])[st.length]? = some (.cells [.sc (.int .i64 WW), .sc (.int .i64 HH), iv]) := get_new _ _ 0
  have c1 : (st ++ [Ob.cells [.sc (.int .i64 WW), .sc (.int .i64 HH), iv], .cells (cl x y), .cells (cl 0 0)])[st.length + 1]? = some (.cells (cl x y)) := get_new _ _ 1
  have c2 : (st ++ [Ob.cells [.sc (.int .i64 WW), .sc (.int .i64 HH), iv], .cells (cl x y), .cells (cl 0 0)])[st.length + 2]? = some (.cells (cl 0 0)) := get_new _ _ 2
  simp only [cl] at g0 c0 c1 c2 hK0 hK1
  simp only [cl, o1, o2, c1, ↓zP,zV,Nat.reduceAdd,Nat.reduceMul,Nat.reduceLT,Nat.reduceEqDiff,Nat.reduceLeDiff,Int.reduceLE,Int.reduceLT,Int.reduceToNat,Int.reduceBNe,Int.reduceBEq,Int.reduceNeg,Int.reduceEq,Int.reduceAdd,Int.reduceGT,Int.reduceGE,reduceCtorEq]
  refine r_Step (n := n + 1) fun s1 j1 => ?_
  have a0 := fun X => Grw.push s1 X _ _ (j1 _ _ c0)
  have a1 := fun X => Grw.push s1 X _ _ (j1 _ _ c1)
  have a2 := fun X => Grw.push s1 X _ _ (j1 _ _ c2)
  have G1 := fun X => (g0.trans j1).push' X
  have stn : ∀ (s : List Ob) (o : Ob), Grw st s → Grw st (s.set (st.length + 2) o) := fun s o h => h.set (by omega) o
  cases e : stepB x y d with
  | false =>
    have q := fun X o => get_set (a2 X) o
    simp only [cl, a0, a1, a2, q, e, ↓zP,zV,Nat.reduceAdd,Nat.reduceMul,Nat.reduceLT,Nat.reduceEqDiff,Nat.reduceLeDiff,Int.reduceLE,Int.reduceLT,Int.reduceToNat,Int.reduceBNe,Int.reduceBEq,Int.reduceNeg,Int.reduceEq,Int.reduceAdd,Int.reduceGT,Int.reduceGE,reduceCtorEq]
    exact hK0 (by simp only [legB, e, Bool.false_and]) _ (stn _ _ (G1 _))
  | true =>
    have ex : stX x y d = x + tX d := by unfold stX; rw [if_pos e]
    have ey : stY x y d = y + tY d := by unfold stY; rw [if_pos e]
    simp only [cl, a0, a1, a2, e, ex, ey, o1, o2, ↓zP,zV,Nat.reduceAdd,Nat.reduceMul,Nat.reduceLT,Nat.reduceEqDiff,Nat.reduceLeDiff,Int.reduceLE,Int.reduceLT,Int.reduceToNat,Int.reduceBNe,Int.reduceBEq,Int.reduceNeg,Int.reduceEq,Int.reduceAdd,Int.reduceGT,Int.reduceGE,reduceCtorEq]
    refine g_Stands (n := n + 3) (hg.grw (G1 _)) fun s2 j2 => ?_
    have b0 := j2 _ _ (a0 _)
    have b1 := j2 _ _ (a1 _)
    have b2 := j2 _ _ (a2 _)
    have bt := j2 _ _ (get_new0 s1 [Ob.cells [V.sc (.int .i64 (x + tX d)), V.sc (.int .i64 (y + tY d))]])
    have G2 := (G1 _).trans j2
    cases e1 : S x y with
    | false =>
      have q := fun o => get_set b2 o
      simp only [b0, b1, b2, q, e1, ↓zP,zV,Nat.reduceAdd,Nat.reduceMul,Nat.reduceLT,Nat.reduceEqDiff,Nat.reduceLeDiff,Int.reduceLE,Int.reduceLT,Int.reduceToNat,Int.reduceBNe,Int.reduceBEq,Int.reduceNeg,Int.reduceEq,Int.reduceAdd,Int.reduceGT,Int.reduceGE,reduceCtorEq]
      exact hK0 (by simp only [legB, e1, Bool.and_false, Bool.false_and]) _ (stn _ _ G2)
    | true =>
      simp only [b0, b1, b2, bt, e1, o1, o2, ↓zP,zV,Nat.reduceAdd,Nat.reduceMul,Nat.reduceLT,Nat.reduceEqDiff,Nat.reduceLeDiff,Int.reduceLE,Int.reduceLT,Int.reduceToNat,Int.reduceBNe,Int.reduceBEq,Int.reduceNeg,Int.reduceEq,Int.reduceAdd,Int.reduceGT,Int.reduceGE,reduceCtorEq]
      refine g_Stands (n := n + 3) (hg.grw G2) fun s3 j3 => ?_
      have d0 := j3 _ _ b0
      have d1 := j3 _ _ b1
      have d2 := j3 _ _ b2
      have dt := j3 _ _ bt
      have G3 := G2.trans j3
      cases e2 : S (x + tX d) (y + tY d) with
      | false =>
        have q := fun o => get_set d2 o
        simp only [d0, d1, d2, q, e2, ↓zP,zV,Nat.reduceAdd,Nat.reduceMul,Nat.reduceLT,Nat.reduceEqDiff,Nat.reduceLeDiff,Int.reduceLE,Int.reduceLT,Int.reduceToNat,Int.reduceBNe,Int.reduceBEq,Int.reduceNeg,Int.reduceEq,Int.reduceAdd,Int.reduceGT,Int.reduceGE,reduceCtorEq]
        exact hK0 (by simp only [legB, e2, Bool.and_false, Bool.false_and]) _ (stn _ _ G3)
      | true =>
        simp only [d0, d1, d2, e2, ↓zP,zV,Nat.reduceAdd,Nat.reduceMul,Nat.reduceLT,Nat.reduceEqDiff,Nat.reduceLeDiff,Int.reduceLE,Int.reduceLT,Int.reduceToNat,Int.reduceBNe,Int.reduceBEq,Int.reduceNeg,Int.reduceEq,Int.reduceAdd,Int.reduceGT,Int.reduceGE,reduceCtorEq]
        refine r_Sides (n := n) (fun _ h4 s4 j4 => ?_) (fun hh s4 j4 => ?_)
        · have h4' : decide (d < 4) = false := decide_eq_false h4
          have w0 := fun X => Grw.push s4 X _ _ (j4 _ _ d0)
          have w1 := fun X => Grw.push s4 X _ _ (j4 _ _ d1)
          have w2 := fun X => Grw.push s4 X _ _ (j4 _ _ d2)
          have wt := fun X => Grw.push s4 X _ _ (j4 _ _ dt)
          have G4 := fun X => (G3.trans j4).push' X
          simp only [cl, w0, w1, o1, o2, ↓zP,zV,Nat.reduceAdd,Nat.reduceMul,Nat.reduceLT,Nat.reduceEqDiff,Nat.reduceLeDiff,Int.reduceLE,Int.reduceLT,Int.reduceToNat,Int.reduceBNe,Int.reduceBEq,Int.reduceNeg,Int.reduceEq,Int.reduceAdd,Int.reduceGT,Int.reduceGE,reduceCtorEq]
          refine g_Stands (n := n + 3) (hg.grw (G4 _)) fun s5 j5 => ?_
          have v0 := j5 _ _ (w0 _)
          have v2 := j5 _ _ (w2 _)
          have vt := j5 _ _ (wt _)
          have vb := j5 _ _ (get_new s4 [Ob.cells [V.sc (.int .i64 (x + tX d)), V.sc (.int .i64 y)], Ob.cells [V.sc (.int .i64 x), V.sc (.int .i64 (y + tY d))]] 1)
          have G5 := (G4 _).trans j5
          cases e3 : S (x + tX d) y with
          | false =>
            have q := fun o => get_set v2 o
            simp only [v0, v2, q, e3, ↓zP,zV,Nat.reduceAdd,Nat.reduceMul,Nat.reduceLT,Nat.reduceEqDiff,Nat.reduceLeDiff,Int.reduceLE,Int.reduceLT,Int.reduceToNat,Int.reduceBNe,Int.reduceBEq,Int.reduceNeg,Int.reduceEq,Int.reduceAdd,Int.reduceGT,Int.reduceGE,reduceCtorEq]
            exact hK0 (by simp only [legB, e3, h4', Bool.and_false, Bool.false_and, Bool.or_self]) _ (stn _ _ G5)
          | true =>
            simp only [v0, v2, vb, e3, o1, o2, ↓zP,zV,Nat.reduceAdd,Nat.reduceMul,Nat.reduceLT,Nat.reduceEqDiff,Nat.reduceLeDiff,Int.reduceLE,Int.reduceLT,Int.reduceToNat,Int.reduceBNe,Int.reduceBEq,Int.reduceNeg,Int.reduceEq,Int.reduceAdd,Int.reduceGT,Int.reduceGE,reduceCtorEq]
            refine g_Stands (n := n + 3) (hg.grw G5) fun s6 j6 => ?_
            have u2 := j6 _ _ v2
            have ut := j6 _ _ vt
            have q := fun o => get_set u2 o
            cases e4 : S x (y + tY d) with
            | false =>
              simp only [u2, q, e4, ↓zP,zV,Nat.reduceAdd,Nat.reduceMul,Nat.reduceLT,Nat.reduceEqDiff,Nat.reduceLeDiff,Int.reduceLE,Int.reduceLT,Int.reduceToNat,Int.reduceBNe,Int.reduceBEq,Int.reduceNeg,Int.reduceEq,Int.reduceAdd,Int.reduceGT,Int.reduceGE,reduceCtorEq]
              exact hK0 (by simp only [legB, e4, h4', Bool.and_false, Bool.false_or]) _ (stn _ _ (G5.trans j6))
            | true =>
              simp only [u2, ut, q, e4, ↓zP,zV,Nat.reduceAdd,Nat.reduceMul,Nat.reduceLT,Nat.reduceEqDiff,Nat.reduceLeDiff,Int.reduceLE,Int.reduceLT,Int.reduceToNat,Int.reduceBNe,Int.reduceBEq,Int.reduceNeg,Int.reduceEq,Int.reduceAdd,Int.reduceGT,Int.reduceGE,reduceCtorEq]
              exact hK1 (by simp only [legB, e, e1, e2, e3, e4, Bool.and_self, Bool.or_true]) _ (stn _ _ (G5.trans j6))
        · have h4 : decide (d < 4) = true := decide_eq_true (hh.resolve_left (by rw [e]; decide))
          have w2 := fun X => Grw.push s4 X _ _ (j4 _ _ d2)
          have wt := fun X => Grw.push s4 X _ _ (j4 _ _ dt)
          have q := fun X o => get_set (w2 X) o
          have G4 := fun X => (G3.trans j4).push' X
          simp only [cl, w2, wt, q, ↓zP,zV,Nat.reduceAdd,Nat.reduceMul,Nat.reduceLT,Nat.reduceEqDiff,Nat.reduceLeDiff,Int.reduceLE,Int.reduceLT,Int.reduceToNat,Int.reduceBNe,Int.reduceBEq,Int.reduceNeg,Int.reduceEq,Int.reduceAdd,Int.reduceGT,Int.reduceGE,reduceCtorEq]
          exact hK1 (by simp only [legB, e, e1, e2, h4, Bool.and_self, Bool.true_or]) _ (stn _ _ (G4 _))
def Pth (s : List Ob) (pv : V) (P : List (Int × Int)) : Prop := Rd Tryz.prog s 31 pv (P.flatMap cpV) P.length ∧ (M.one pv = true ∧ cellsV pv = [pv])
theorem Pth.grw {P : List (Int × Int)} (h : Pth st pv P) (k : Grw st s) : Pth s pv P := ⟨h.1.grw k, h.2⟩
theorem Pth.ix {P : List (Int × Int)} (h : Pth st pv P) {i : Nat} (hi : i < P.length) : aix Tryz.prog st 32 pv (.sc (.int .i64 i)) = some (ixp 2 pv i 0, st) ∧ ald Tryz.prog st 31 (ixp 2 pv i 0) = some (.agg [.sc (.int .i64 P[i].1), .sc (.int .i64 P[i].2)], st) :=
  ix_flat (f := cpV) (s := 2) (fun _ => rfl) h.1 Tryz.underlying32 sz31 ag31 (by omega) hi
theorem Pth.len {P : List (Int × Int)} (h : Pth st pv P) : alen Tryz.prog st 32 pv = some (.sc (.int .i64 P.length), st) := alen_rd h.1 Tryz.underlying32
set_option maxHeartbeats 4000000 in
theorem u_Next (hp : Pth st pv u.P) (hK0 : (u.ph ≠ 1 ∨ u.P = []) → ∀ s, Grw st s → K (.tup [.agg (cl 0 0), .sc (.bool false)]) s) (hK1 : u.ph = 1 → ∀ c P, u.P = c :: P → ∀ s, Grw st s → K (.tup [.agg (cl c.1 c.2), .sc (.bool true)]) s) :
    acallF Tryz.prog pl (n + 1) m 42 [.agg (unV u pv)] st K := by
  refine acallF_inF Tryz.func42 rfl rfl Tryz.ntmps42 (by simp) ?_
  obtain ⟨o1, o2⟩ := hp.2
  simp only [cl] at hK0 hK1
  cases e1 : (u.ph != 1) with
  | true =>
    simp only [unV, o1, o2, e1, ↓zP,zV,Nat.reduceAdd,Nat.reduceMul,Nat.reduceLT,Nat.reduceEqDiff,Nat.reduceLeDiff,Int.reduceLE,Int.reduceLT,Int.reduceToNat,Int.reduceBNe,Int.reduceBEq,Int.reduceNeg,Int.reduceEq,Int.reduceAdd,Int.reduceGT,Int.reduceGE,reduceCtorEq]
    exact hK0 (.inl (by simpa using e1)) _ (Grw.push _ _)
  | false =>
    have pX := fun X => (hp.grw (Grw.push st X)).len
    cases hP : u.P with
    | nil =>
      simp only [hP, List.length_nil] at pX
      simp only [unV, o1, o2, e1, pX, ↓zP,zV,Nat.reduceAdd,Nat.reduceMul,Nat.reduceLT,Nat.reduceEqDiff,Nat.reduceLeDiff,Int.reduceLE,Int.reduceLT,Int.reduceToNat,Int.reduceBNe,Int.reduceBEq,Int.reduceNeg,Int.reduceEq,Int.reduceAdd,Int.reduceGT,Int.reduceGE,reduceCtorEq]
      exact hK0 (.inr hP) _ (Grw.push _ _)
    | cons c P =>
      have i1 := fun X => ((hp.grw (Grw.push st X)).ix (i := 0) (by rw [hP]; simp)).1
      have i2 := fun X => ((hp.grw (Grw.push st X)).ix (i := 0) (by rw [hP]; simp)).2
      have hn : ((P.length + 1 : Nat) == 0) = false := by simp
      have hz : (((P.length + 1 : Nat) : Int) == 0) = false := by simp; omega
      simp only [hP, List.length_cons] at pX
      simp only [hP, List.getElem_cons_zero, Int.natCast_zero] at i1 i2
      simp only [unV, o1, o2, e1, pX, hz, i1, i2, ↓zP,zV,Nat.reduceAdd,Nat.reduceMul,Nat.reduceLT,Nat.reduceEqDiff,Nat.reduceLeDiff,Int.reduceLE,Int.reduceLT,Int.reduceToNat,Int.reduceBNe,Int.reduceBEq,Int.reduceNeg,Int.reduceEq,Int.reduceAdd,Int.reduceGT,Int.reduceGE,reduceCtorEq]
      exact hK1 (by simpa using e1) c P hP _ (Grw.push _ _)
set_option maxHeartbeats 4000000 in
theorem r_Next (hp : Pth st pv u.P) (hK0 : (u.ph ≠ 1 ∨ u.P = []) → ∀ s, Grw st s → K (.tup [.agg (cl 0 0), .sc (.bool false)]) s) (hK1 : u.ph = 1 → ∀ c P, u.P = c :: P → ∀ s, Grw st s → K (.tup [.agg (cl c.1 c.2), .sc (.bool true)]) s) :
    acallF Tryz.prog pl (n + 1) m 65 [.agg (unV u pv)] st K := by
  refine acallF_inF Tryz.func65 rfl rfl Tryz.ntmps65 (by simp) ?_
  obtain ⟨o1, o2⟩ := hp.2
  simp only [cl] at hK0 hK1
  cases e1 : (u.ph != 1) with
  | true =>
    simp only [unV, o1, o2, e1, ↓zP,zV,Nat.reduceAdd,Nat.reduceMul,Nat.reduceLT,Nat.reduceEqDiff,Nat.reduceLeDiff,Int.reduceLE,Int.reduceLT,Int.reduceToNat,Int.reduceBNe,Int.reduceBEq,Int.reduceNeg,Int.reduceEq,Int.reduceAdd,Int.reduceGT,Int.reduceGE,reduceCtorEq]
    exact hK0 (.inl (by simpa using e1)) _ (Grw.push _ _)
  | false =>
    have pX := fun X => (hp.grw (Grw.push st X)).len
    cases hP : u.P with
    | nil =>
      simp only [hP, List.length_nil] at pX
      simp only [unV, o1, o2, e1, pX, ↓zP,zV,Nat.reduceAdd,Nat.reduceMul,Nat.reduceLT,Nat.reduceEqDiff,Nat.reduceLeDiff,Int.reduceLE,Int.reduceLT,Int.reduceToNat,Int.reduceBNe,Int.reduceBEq,Int.reduceNeg,Int.reduceEq,Int.reduceAdd,Int.reduceGT,Int.reduceGE,reduceCtorEq]
      exact hK0 (.inr hP) _ (Grw.push _ _)
    | cons c P =>
      have i1 := fun X => ((hp.grw (Grw.push st X)).ix (i := 0) (by rw [hP]; simp)).1
      have i2 := fun X => ((hp.grw (Grw.push st X)).ix (i := 0) (by rw [hP]; simp)).2
      have hz : (((P.length + 1 : Nat) : Int) == 0) = false := by simp; omega
      simp only [hP, List.length_cons] at pX
      simp only [hP, List.getElem_cons_zero, Int.natCast_zero] at i1 i2
      simp only [unV, o1, o2, e1, pX, hz, i1, i2, ↓zP,zV,Nat.reduceAdd,Nat.reduceMul,Nat.reduceLT,Nat.reduceEqDiff,Nat.reduceLeDiff,Int.reduceLE,Int.reduceLT,Int.reduceToNat,Int.reduceBNe,Int.reduceBEq,Int.reduceNeg,Int.reduceEq,Int.reduceAdd,Int.reduceGT,Int.reduceGE,reduceCtorEq]
      exact hK1 (by simpa using e1) c P hP _ (Grw.push _ _)
end
section
variable {n m : Nat} {st s S0 : List Ob} {K : V → List Ob → Prop} {x y c z d : Int} {pv : V} {u : Un}
theorem cell_has (x y : Int) : hasB 0 0 128 128 x y = cellI x y := by
  have hm : mayB 0 0 128 128 = true := by decide +kernel
  simp only [hasB, hm, Bool.true_and, inB, cellI]
  have e1 : decide (x ≤ 0 + 128 - 1) = decide (x < 128) := by by_cases h : x < 128 <;> simp [h] <;> omega
  have e2 : decide (y ≤ 0 + 128 - 1) = decide (y < 128) := by by_cases h : y < 128 <;> simp [h] <;> omega
  rw [e1, e2]
theorem u_inside (hK : ∀ s, Grw st s → K (.sc (.bool (cellI x y))) s) : acallF Tryz.prog pl (n + 5) m 84 [.agg (cl x y)] st K := by
  refine acallF_inF Tryz.func84 rfl rfl Tryz.ntmps84 (by simp) ?_
  simp only [cl, get_new, get_new0, ↓zP,zV,Nat.reduceAdd,Nat.reduceMul,Nat.reduceLT,Nat.reduceEqDiff,Nat.reduceLeDiff,Int.reduceLE,Int.reduceLT,Int.reduceToNat,Int.reduceBNe,Int.reduceBEq,Int.reduceNeg,Int.reduceEq,Int.reduceAdd,Int.reduceGT,Int.reduceGE,reduceCtorEq]
  refine c_Has (n := n) (x := 0) (y := 0) (w := 128) (h := 128) (a := x) (b := y) fun s1 j1 => ?_
  rw [cell_has]
  simp only [↓zP,zV,Nat.reduceAdd,Nat.reduceMul,Nat.reduceLT,Nat.reduceEqDiff,Nat.reduceLeDiff,Int.reduceLE,Int.reduceLT,Int.reduceToNat,Int.reduceBNe,Int.reduceBEq,Int.reduceNeg,Int.reduceEq,Int.reduceAdd,Int.reduceGT,Int.reduceGE,reduceCtorEq]
  exact hK _ ((Grw.push _ _).trans j1)
theorem path_step {x y : Int} {P : List (Int × Int)} {j : Nat} (hj : j < P.length) : pathB x y (P.drop j) = (cellI P[j].1 P[j].2 && !decide (dirI x y P[j].1 P[j].2 < 0) && pathB P[j].1 P[j].2 (P.drop (j + 1))) := by
  rw [List.drop_eq_getElem_cons hj]
  rfl
theorem end_last {gx gy : Int} {P : List (Int × Int)} (h : 0 < P.length) : endB gx gy P = (P[P.length - 1].1 == gx && P[P.length - 1].2 == gy) := by
  unfold endB
  rw [List.getLast?_eq_getElem?, List.getElem?_eq_getElem (by omega)]
set_option maxHeartbeats 4000000 in
theorem u_moving (hp : Pth st pv u.P) (hm : 20000 < m) (hK : ∀ s, Grw st s → K (.sc (.bool (movB u))) s) : acallF Tryz.prog pl (n + 6) m 81 [.agg (unV u pv)] st K := by
  refine acallF_inF Tryz.func81 rfl rfl Tryz.ntmps81 (by simp) ?_
  obtain ⟨o1, o2⟩ := hp.2
  have pX := fun X => (hp.grw (Grw.push st X)).len
  by_cases h0 : u.P.length = 0
  · have hf : movB u = false := by
      have : u.P = [] := List.length_eq_zero_iff.1 h0
      simp [movB, this, endB]
    rw [hf] at hK
    simp only [h0] at pX
    simp only [unV, o1, o2, pX, ↓zP,zV,Nat.reduceAdd,Nat.reduceMul,Nat.reduceLT,Nat.reduceEqDiff,Nat.reduceLeDiff,Int.reduceLE,Int.reduceLT,Int.reduceToNat,Int.reduceBNe,Int.reduceBEq,Int.reduceNeg,Int.reduceEq,Int.reduceAdd,Int.reduceGT,Int.reduceGE,reduceCtorEq]
    exact hK _ (Grw.push _ _)
  have z0 : ((u.P.length : Int) == 0) = false := beq_eq_false_iff_ne.2 (by omega)
  by_cases h1 : u.P.length > 16384
  · have hq : decide (u.P.length ≤ 16384) = false := decide_eq_false (by omega)
    have hf : movB u = false := by simp only [movB, hq, Bool.false_and]
    rw [hf] at hK
    have z1 : decide ((u.P.length : Int) > 16384) = true := decide_eq_true (by omega)
    simp only [unV, o1, o2, pX, z0, z1, ↓zP,zV,Nat.reduceAdd,Nat.reduceMul,Nat.reduceLT,Nat.reduceEqDiff,Nat.reduceLeDiff,Int.reduceLE,Int.reduceLT,Int.reduceToNat,Int.reduceBNe,Int.reduceBEq,Int.reduceNeg,Int.reduceEq,Int.reduceAdd,Int.reduceGT,Int.reduceGE,reduceCtorEq]
    exact hK _ (Grw.push _ _)
  have z1 : decide ((u.P.length : Int) > 16384) = false := decide_eq_false (by omega)
  have e1 : IntKind.i64.wrap ((u.P.length : Int) - 1) = ((u.P.length - 1 : Nat) : Int) := by rw [wi64 (by omega) (by omega)]; omega
  have i1 := fun X => ((hp.grw (Grw.push st X)).ix (i := u.P.length - 1) (by omega)).1
  have i2 := fun X => ((hp.grw (Grw.push st X)).ix (i := u.P.length - 1) (by omega)).2
  have hel := end_last (gx := u.gx) (gy := u.gy) (P := u.P) (by omega)
  have hle : decide (u.P.length ≤ 16384) = true := decide_eq_true (by omega)
  cases e2 : ((u.P[u.P.length - 1]'(by omega)).1 == u.gx && (u.P[u.P.length - 1]'(by omega)).2 == u.gy) with
  | false =>
    have hf : movB u = false := by simp only [movB, hel, e2, Bool.and_false, Bool.false_and]
    rw [hf] at hK
    simp only [unV, o1, o2, pX, z0, z1, e1, e2, i1, i2, cmp_cellN, ↓zP,zV,Nat.reduceAdd,Nat.reduceMul,Nat.reduceLT,Nat.reduceEqDiff,Nat.reduceLeDiff,Int.reduceLE,Int.reduceLT,Int.reduceToNat,Int.reduceBNe,Int.reduceBEq,Int.reduceNeg,Int.reduceEq,Int.reduceAdd,Int.reduceGT,Int.reduceGE,reduceCtorEq]
    exact hK _ (Grw.push _ _)
  | true =>
    simp only [movB, hel, e2, hle, Bool.and_true, Bool.true_and] at hK
    simp only [unV, o1, o2, pX, z0, z1, e1, e2, i1, i2, cmp_cellN, ↓zP,zV,Nat.reduceAdd,Nat.reduceMul,Nat.reduceLT,Nat.reduceEqDiff,Nat.reduceLeDiff,Int.reduceLE,Int.reduceLT,Int.reduceToNat,Int.reduceBNe,Int.reduceBEq,Int.reduceNeg,Int.reduceEq,Int.reduceAdd,Int.reduceGT,Int.reduceGE,reduceCtorEq]
    generalize hS : st ++ _ = S
    have gS : Grw st S := by rw [← hS]; exact Grw.push _ _
    have c1 : S[st.length + 1]? = some (.cells (cl u.x u.y)) := by rw [← hS]; exact get_new _ _ 1
    clear hS
    have grw : ∀ {s : List Ob}, (∀ q o, q ≠ st.length + 1 → S[q]? = some o → s[q]? = some o) → Grw st s := fun h q o hq => by
      have := (List.getElem?_eq_some_iff.1 hq).1
      exact h _ _ (by omega) (gS _ _ hq)
    refine aloop_forF (fun k f s => ∃ (j : Nat) (cx cy : Int), k + j = m ∧ j ≤ u.P.length ∧ pathB u.x u.y u.P = pathB cx cy (u.P.drop j) ∧ s[st.length + 1]? = some (.cells (cl cx cy)) ∧ (∀ q o, q ≠ st.length + 1 → S[q]? = some o → s[q]? = some o) ∧ f 3 = .ref (st.length + 1) 0 ∧ f 32 = pv ∧ f 33 = .sc (.int .i64 u.P.length) ∧ f 34 = .sc (.int .i64 j)) ⟨0, u.x, u.y, by omega, by omega, rfl, c1, fun _ _ _ h => h, by simp only [zF,Nat.reduceEqDiff,Nat.reduceLT], by simp only [zF,Nat.reduceEqDiff,Nat.reduceLT], by simp only [zF,Nat.reduceEqDiff,Nat.reduceLT], by simp only [zF,Nat.reduceEqDiff,Nat.reduceLT]; rfl⟩ ?_
    rintro I' hI' k f s ⟨j, cx, cy, hk, hj, hI, hc, fr, f3, f32, f33, f34⟩
    refine ⟨k - 1, by omega, ?_⟩
    by_cases hjl : j < u.P.length
    · have dj : decide ((j : Int) < u.P.length) = true := decide_eq_true (by omega)
      have e3 : IntKind.i64.wrap ((j : Int) + 1) = ((j + 1 : Nat) : Int) := by rw [IntWalk.i64_in _ (by omega)]; rfl
      have hps := hp.grw (grw fr)
      have k1 := (hps.ix hjl).1
      have k2 := (hps.ix hjl).2
      have hst := path_step (x := cx) (y := cy) hjl
      simp only [cl] at hc
      generalize hP : u.P[j] = p at k2 hst
      simp only [f3, f32, f33, f34, dj, k1, k2, ↓zP,zV,Nat.reduceAdd,Nat.reduceMul,Nat.reduceLT,Nat.reduceEqDiff,Nat.reduceLeDiff,Int.reduceLE,Int.reduceLT,Int.reduceToNat,Int.reduceBNe,Int.reduceBEq,Int.reduceNeg,Int.reduceEq,Int.reduceAdd,Int.reduceGT,Int.reduceGE,reduceCtorEq]
      refine u_inside (n := n) fun s1 j1 => ?_
      have hc1 := j1 _ _ (Grw.push s _ _ _ hc)
      have t1 := j1 _ _ (get_new0 s [Ob.cells [V.sc (.int .i64 p.1), V.sc (.int .i64 p.2)]])
      cases e4 : cellI p.1 p.2 with
      | false =>
        rw [hI, hst, e4] at hK
        simp only [Bool.false_and] at hK
        simp only [f3, f32, f33, f34, hc1, t1, e4, ↓zP,zV,Nat.reduceAdd,Nat.reduceMul,Nat.reduceLT,Nat.reduceEqDiff,Nat.reduceLeDiff,Int.reduceLE,Int.reduceLT,Int.reduceToNat,Int.reduceBNe,Int.reduceBEq,Int.reduceNeg,Int.reduceEq,Int.reduceAdd,Int.reduceGT,Int.reduceGE,reduceCtorEq]
        exact hK _ (((grw fr).push' _).trans j1)
      | true =>
        simp only [f3, f32, f33, f34, hc1, t1, e4, ↓zP,zV,Nat.reduceAdd,Nat.reduceMul,Nat.reduceLT,Nat.reduceEqDiff,Nat.reduceLeDiff,Int.reduceLE,Int.reduceLT,Int.reduceToNat,Int.reduceBNe,Int.reduceBEq,Int.reduceNeg,Int.reduceEq,Int.reduceAdd,Int.reduceGT,Int.reduceGE,reduceCtorEq]
        refine c_Dir (n := n + 1) (by omega) fun s2 j2 => ?_
        have hc2 := j2 _ _ hc1
        have t2 := j2 _ _ t1
        cases e5 : decide (dirI cx cy p.1 p.2 < 0) with
        | true =>
          rw [hI, hst, e4, e5] at hK
          simp only [Bool.not_true, Bool.and_false, Bool.false_and] at hK
          simp only [f3, f32, f33, f34, hc2, t2, e5, ↓zP,zV,Nat.reduceAdd,Nat.reduceMul,Nat.reduceLT,Nat.reduceEqDiff,Nat.reduceLeDiff,Int.reduceLE,Int.reduceLT,Int.reduceToNat,Int.reduceBNe,Int.reduceBEq,Int.reduceNeg,Int.reduceEq,Int.reduceAdd,Int.reduceGT,Int.reduceGE,reduceCtorEq]
          exact hK _ ((((grw fr).push' _).trans j1).trans j2)
        | false =>
          rw [e4, e5] at hst
          simp only [Bool.not_false, Bool.true_and, Bool.and_true] at hst
          simp only [f3, f32, f33, f34, hc2, t2, e3, e5, ↓zP,zV,Nat.reduceAdd,Nat.reduceMul,Nat.reduceLT,Nat.reduceEqDiff,Nat.reduceLeDiff,Int.reduceLE,Int.reduceLT,Int.reduceToNat,Int.reduceBNe,Int.reduceBEq,Int.reduceNeg,Int.reduceEq,Int.reduceAdd,Int.reduceGT,Int.reduceGE,reduceCtorEq]
          refine hI' _ _ _ ⟨j + 1, p.1, p.2, by omega, hjl, hI.trans hst, get_set hc2 _, fun q o hq ho => ?_, by simp only [f3, zF,Nat.reduceEqDiff,Nat.reduceLT], by simp only [f32, zF,Nat.reduceEqDiff,Nat.reduceLT], by simp only [f33, zF,Nat.reduceEqDiff,Nat.reduceLT], by simp only [zF,Nat.reduceEqDiff,Nat.reduceLT]⟩
          rw [List.getElem?_set_ne (Ne.symm hq)]
          exact j2 _ _ (j1 _ _ (Grw.push s _ _ _ (fr _ _ hq ho)))
    · have dj : decide ((j : Int) < u.P.length) = false := decide_eq_false (by omega)
      obtain rfl : j = u.P.length := by omega
      rw [hI, List.drop_length] at hK
      simp only [f3, f32, f33, f34, dj, ↓zP,zV,Nat.reduceAdd,Nat.reduceMul,Nat.reduceLT,Nat.reduceEqDiff,Nat.reduceLeDiff,Int.reduceLE,Int.reduceLT,Int.reduceToNat,Int.reduceBNe,Int.reduceBEq,Int.reduceNeg,Int.reduceEq,Int.reduceAdd,Int.reduceGT,Int.reduceGE,reduceCtorEq]
      exact hK _ (grw fr)
set_option maxHeartbeats 8000000 in
theorem u_Check (hp : Pth st pv u.P) (hph : u.ph = 1) (hm : 20000 < m) (hK1 : (headB u && movB u) = true → ∀ s, Grw st s → K (.sc (.int .i64 0)) s) (hK0 : (headB u && movB u) = false → ∀ s, Grw st s → K (.sc (.int .i64 1)) s) :
    acallF Tryz.prog pl (n + 7) m 43 [.agg (unV u pv)] st K := by
  refine acallF_inF Tryz.func43 rfl rfl Tryz.ntmps43 (by simp) ?_
  obtain ⟨o1, o2⟩ := hp.2
  have bad : headB u = false → ∀ s, Grw st s → K (.sc (.int .i64 1)) s := fun h => hK0 (by rw [h]; rfl)
  obtain ⟨S, hS⟩ : ∃ S, S = st ++ [Ob.cells (unV u pv), Ob.cells [.fn (.func 80) [], .fn (.func 81) [], .fn (.func 82) []]] := ⟨_, rfl⟩
  have gS : Grw st S := by rw [hS]; exact Grw.push _ _
  have c0 : S[st.length]? = some (.cells (unV u pv)) := by rw [hS]; exact get_new _ _ 0
  have c1 : S[st.length + 1]? = some (.cells [.fn (.func 80) [], .fn (.func 81) [], .fn (.func 82) []]) := by rw [hS]; exact get_new _ _ 1
  simp only [unV, hph] at hS c0
  cases e1 : decide (u.id < 1) with
  | true =>
    simp only [unV, hph, o1, o2, e1, ↓zP,zV,Nat.reduceAdd,Nat.reduceMul,Nat.reduceLT,Nat.reduceEqDiff,Nat.reduceLeDiff,Int.reduceLE,Int.reduceLT,Int.reduceToNat,Int.reduceBNe,Int.reduceBEq,Int.reduceNeg,Int.reduceEq,Int.reduceAdd,Int.reduceGT,Int.reduceGE,reduceCtorEq]
    exact bad (by simp only [headB, e1, Bool.not_true, Bool.false_and]) _ (Grw.push _ _)
  | false =>
  cases e2 : decide (u.id > 2147483647) with
  | true =>
    simp only [unV, hph, o1, o2, e1, e2, ↓zP,zV,Nat.reduceAdd,Nat.reduceMul,Nat.reduceLT,Nat.reduceEqDiff,Nat.reduceLeDiff,Int.reduceLE,Int.reduceLT,Int.reduceToNat,Int.reduceBNe,Int.reduceBEq,Int.reduceNeg,Int.reduceEq,Int.reduceAdd,Int.reduceGT,Int.reduceGE,reduceCtorEq]
    exact bad (by simp only [headB, e2, Bool.not_true, Bool.and_false, Bool.false_and]) _ (Grw.push _ _)
  | false =>
  cases e3 : decide (u.pl < 0) with
  | true =>
    simp only [unV, hph, o1, o2, e1, e2, e3, ↓zP,zV,Nat.reduceAdd,Nat.reduceMul,Nat.reduceLT,Nat.reduceEqDiff,Nat.reduceLeDiff,Int.reduceLE,Int.reduceLT,Int.reduceToNat,Int.reduceBNe,Int.reduceBEq,Int.reduceNeg,Int.reduceEq,Int.reduceAdd,Int.reduceGT,Int.reduceGE,reduceCtorEq]
    exact bad (by simp only [headB, e3, Bool.not_true, Bool.and_false, Bool.false_and]) _ (Grw.push _ _)
  | false =>
  cases e4 : decide (u.pl ≥ 8) with
  | true =>
    simp only [unV, hph, o1, o2, e1, e2, e3, e4, ↓zP,zV,Nat.reduceAdd,Nat.reduceMul,Nat.reduceLT,Nat.reduceEqDiff,Nat.reduceLeDiff,Int.reduceLE,Int.reduceLT,Int.reduceToNat,Int.reduceBNe,Int.reduceBEq,Int.reduceNeg,Int.reduceEq,Int.reduceAdd,Int.reduceGT,Int.reduceGE,reduceCtorEq]
    exact bad (by simp only [headB, e4, Bool.not_true, Bool.and_false, Bool.false_and]) _ (Grw.push _ _)
  | false =>
  simp only [unV, hph, o1, o2, e1, e2, e3, e4, ↓zP,zV,Nat.reduceAdd,Nat.reduceMul,Nat.reduceLT,Nat.reduceEqDiff,Nat.reduceLeDiff,Int.reduceLE,Int.reduceLT,Int.reduceToNat,Int.reduceBNe,Int.reduceBEq,Int.reduceNeg,Int.reduceEq,Int.reduceAdd,Int.reduceGT,Int.reduceGE,reduceCtorEq]
  rw [← hS]
  refine c_CMay (n := n + 5) fun s1 j1 => ?_
  have a0 := j1 _ _ c0
  have g1 := gS.trans j1
  cases e5 : shB u.c u.z with
  | false =>
    simp only [a0, e5, ↓zP,zV,Nat.reduceAdd,Nat.reduceMul,Nat.reduceLT,Nat.reduceEqDiff,Nat.reduceLeDiff,Int.reduceLE,Int.reduceLT,Int.reduceToNat,Int.reduceBNe,Int.reduceBEq,Int.reduceNeg,Int.reduceEq,Int.reduceAdd,Int.reduceGT,Int.reduceGE,reduceCtorEq]
    exact bad (by simp only [headB, e5, Bool.and_false, Bool.false_and]) _ g1
  | true =>
  simp only [a0, e5, ↓zP,zV,Nat.reduceAdd,Nat.reduceMul,Nat.reduceLT,Nat.reduceEqDiff,Nat.reduceLeDiff,Int.reduceLE,Int.reduceLT,Int.reduceToNat,Int.reduceBNe,Int.reduceBEq,Int.reduceNeg,Int.reduceEq,Int.reduceAdd,Int.reduceGT,Int.reduceGE,reduceCtorEq]
  refine u_inside (n := n + 1) fun s2 j2 => ?_
  have a0 := j2 _ _ a0
  have g2 := g1.trans j2
  cases e6 : cellI u.x u.y with
  | false =>
    simp only [a0, e6, ↓zP,zV,Nat.reduceAdd,Nat.reduceMul,Nat.reduceLT,Nat.reduceEqDiff,Nat.reduceLeDiff,Int.reduceLE,Int.reduceLT,Int.reduceToNat,Int.reduceBNe,Int.reduceBEq,Int.reduceNeg,Int.reduceEq,Int.reduceAdd,Int.reduceGT,Int.reduceGE,reduceCtorEq]
    exact bad (by simp only [headB, e6, Bool.and_false, Bool.false_and]) _ g2
  | true =>
  simp only [a0, e6, ↓zP,zV,Nat.reduceAdd,Nat.reduceMul,Nat.reduceLT,Nat.reduceEqDiff,Nat.reduceLeDiff,Int.reduceLE,Int.reduceLT,Int.reduceToNat,Int.reduceBNe,Int.reduceBEq,Int.reduceNeg,Int.reduceEq,Int.reduceAdd,Int.reduceGT,Int.reduceGE,reduceCtorEq]
  refine u_inside (n := n + 1) fun s3 j3 => ?_
  have a0 := j3 _ _ a0
  have g3 := g2.trans j3
  have a1 := j3 _ _ (j2 _ _ (j1 _ _ c1))
  cases e7 : cellI u.gx u.gy with
  | false =>
    simp only [a0, e7, ↓zP,zV,Nat.reduceAdd,Nat.reduceMul,Nat.reduceLT,Nat.reduceEqDiff,Nat.reduceLeDiff,Int.reduceLE,Int.reduceLT,Int.reduceToNat,Int.reduceBNe,Int.reduceBEq,Int.reduceNeg,Int.reduceEq,Int.reduceAdd,Int.reduceGT,Int.reduceGE,reduceCtorEq]
    exact bad (by simp only [headB, e7, Bool.and_false, Bool.false_and]) _ g3
  | true =>
  cases e8 : decide (u.wt < 0) with
  | true =>
    simp only [a0, e7, e8, ↓zP,zV,Nat.reduceAdd,Nat.reduceMul,Nat.reduceLT,Nat.reduceEqDiff,Nat.reduceLeDiff,Int.reduceLE,Int.reduceLT,Int.reduceToNat,Int.reduceBNe,Int.reduceBEq,Int.reduceNeg,Int.reduceEq,Int.reduceAdd,Int.reduceGT,Int.reduceGE,reduceCtorEq]
    exact bad (by simp only [headB, e8, Bool.not_true, Bool.and_false, Bool.false_and]) _ g3
  | false =>
  cases e9 : decide (u.wt > 15) with
  | true =>
    simp only [a0, e7, e8, e9, ↓zP,zV,Nat.reduceAdd,Nat.reduceMul,Nat.reduceLT,Nat.reduceEqDiff,Nat.reduceLeDiff,Int.reduceLE,Int.reduceLT,Int.reduceToNat,Int.reduceBNe,Int.reduceBEq,Int.reduceNeg,Int.reduceEq,Int.reduceAdd,Int.reduceGT,Int.reduceGE,reduceCtorEq]
    exact bad (by simp only [headB, e9, Bool.not_true, Bool.and_false]) _ g3
  | false =>
  have hh : headB u = true := by simp only [headB, e1, e2, e3, e4, e5, e6, e7, e8, e9, Bool.not_false, Bool.and_self]
  rw [hh] at hK0 hK1
  simp only [Bool.true_and] at hK0 hK1
  simp only [a0, a1, e7, e8, e9, o1, o2, ↓zP,zV,Nat.reduceAdd,Nat.reduceMul,Nat.reduceLT,Nat.reduceEqDiff,Nat.reduceLeDiff,Int.reduceLE,Int.reduceLT,Int.reduceToNat,Int.reduceBNe,Int.reduceBEq,Int.reduceNeg,Int.reduceEq,Int.reduceAdd,Int.reduceGT,Int.reduceGE,reduceCtorEq]
  refine u_moving (n := n) (u := {u with ph := 1}) (pv := pv) (hp.grw g3) hm fun s4 j4 => ?_
  rw [show movB {u with ph := 1} = movB u from rfl]
  cases e10 : movB u with
  | false =>
    simp only [e10, ↓zP,zV,Nat.reduceAdd,Nat.reduceMul,Nat.reduceLT,Nat.reduceEqDiff,Nat.reduceLeDiff,Int.reduceLE,Int.reduceLT,Int.reduceToNat,Int.reduceBNe,Int.reduceBEq,Int.reduceNeg,Int.reduceEq,Int.reduceAdd,Int.reduceGT,Int.reduceGE,reduceCtorEq]
    exact hK0 e10 _ (g3.trans j4)
  | true =>
    simp only [e10, ↓zP,zV,Nat.reduceAdd,Nat.reduceMul,Nat.reduceLT,Nat.reduceEqDiff,Nat.reduceLeDiff,Int.reduceLE,Int.reduceLT,Int.reduceToNat,Int.reduceBNe,Int.reduceBEq,Int.reduceNeg,Int.reduceEq,Int.reduceAdd,Int.reduceGT,Int.reduceGE,reduceCtorEq]
    exact hK1 e10 _ (g3.trans j4)
end
end Go.Proofs.YtpdhoicpaonggaaGreat
