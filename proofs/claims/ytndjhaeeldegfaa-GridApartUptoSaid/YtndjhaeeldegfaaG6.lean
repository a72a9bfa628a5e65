/- Chapter 4: why a building may not be placed: whole. -/
import Derived.Test.YtndjhaeeldegfaaG5
set_option linter.unusedVariables false
set_option linter.unusedSimpArgs false
set_option maxRecDepth 10000
namespace Go.Proofs.Ytndjhaeeldegfaa
open Go Go.M Go.RowKit
attribute [local congr] acallF_cong aloop_cong bcase_cong resK_cong valK_cong wantK_cong callK_cong xputK_cong qputK_cong resM_cong rfK_cong
attribute [local irreducible] seqK blockK loopK nextK bcase resK valK wantK funK putK dputK xputK qputK callK aops aop acode adraw aloop acallF acall invK resM rfK rfEnd rdEnd rdMid around
/-- Why may a building not be placed? -/
def mayE (us : List (Int × V)) (os : List ((Int × Int) × V)) (WW HH id x y w h : Int) : Int :=
  if bmayB id x y w h WW HH = false then 1 else if (getI id us).isSome = true then 8 else if 256 ≤ us.length then 2 else if hitsB os x y w.toNat (h.toNat * w.toNat) = true then 6 else 0
theorem bmay_may {id x y w h WW HH : Int} (e : bmayB id x y w h WW HH = true) : mayB x y w h = true ∧ w ≤ 8 ∧ h ≤ 8 ∧ 1 ≤ id ∧ id ≤ 2147483647 := by
  simp only [bmayB, withinB, Bool.and_eq_true, decide_eq_true_eq] at e
  exact ⟨e.2.1.1, e.1.1.2, e.1.2, e.1.1.1.1, e.1.1.1.2⟩
section
variable {n m : Nat} {st s : List Ob} {K : V → List Ob → Prop} {wd a b : Nat} {WW HH : Int} {tv dv : V} {us : List (Int × V)} {os : List ((Int × Int) × V)} {x y w h id : Int}
theorem frame_new {st s' : List Ob} {j lid : Nat} {o : Ob} (h : s'[j]? = some o) (hj : j ≠ lid) (z : Ob) : (s'.set lid z)[j]? = some o := by
  rw [List.getElem?_set_ne (Ne.symm hj)]; exact h
set_option maxHeartbeats 2000000 in
theorem w_May1 (hi : Wd st wd a b WW HH tv dv us os) (hrc : ∀ i v, getI i us = some v → ∃ x y w h, v = .agg (rc x y w h)) (hul : us.length < 1000000) (hm : 8 < m)
    (hK : ∀ s, Grw st s → K (.sc (.int .i64 (mayE us os WW HH id x y w h))) s) : acallF Try.prog pl (n + 7) m 48 [.ref wd 0, .agg (bd id x y w h)] st K := by
  refine acallF_inF Try.func48 rfl rfl Try.ntmps48 (by simp) ?_
  obtain ⟨S, hS⟩ : ∃ S, S = st ++ [Ob.cells [V.ref wd 0], Ob.cells (bd id x y w h), Ob.cells [.sc (.int .i64 0)]] := ⟨_, rfl⟩
  have g0 : Grw st S := by rw [hS]; exact .push _ _
  have c0 : S[st.length]? = some (.cells [V.ref wd 0]) := by rw [hS]; exact get_new _ _ 0
  have c1 : S[st.length + 1]? = some (.cells (bd id x y w h)) := by rw [hS]; exact get_new _ _ 1
  have c2 : S[st.length + 2]? = some (.cells [.sc (.int .i64 0)]) := by rw [hS]; exact get_new _ _ 2
  have lS : S.length = st.length + 3 := by rw [hS]; simp
  simp only [bd, rc] at hS c1
  simp only [bd, rc, evf,↓evp,evq,evr,fxa0,fxa1,fxa2,fxa3,fxa4,fxu,fxn,fxl,↓fxp,lgc,absL,fitL,flatL,ares,ares1,ofVal,unSc,aload,afill,splice,abound,asI,elems,IntKind.bits,sortT,eqNil,closedL,allByte,patch,pendOK,numA,Value.cells,Value.oneCell',ibin,List.replicate,Option.elim,Nat.reduceAdd,Nat.reduceSub,Nat.reduceMul,Nat.reduceLT,Nat.reduceEqDiff,Nat.reduceLeDiff,Nat.reduceBEq,Int.reduceLE,Int.reduceLT,Int.reduceToNat,Int.reduceBNe,Int.reduceBEq,Int.reduceNeg,Int.reduceEq,Int.reduceNe,Nat.reduceBNe,Int.reduceAdd,Int.reduceSub,Int.reduceMul,Int.reducePow,Nat.reducePow,Int.reduceGT,Int.reduceGE,if_true,if_false,ite_true,ite_false,beq_self_eq_true,BEq.rfl,reduceCtorEq,eq_self,ne_eq,Function.comp_def,beq_iff_eq]
  rw [← hS]
  have hi0 := hi.grw g0
  refine w_is1 (n := n + 5) hi0 ?_
  simp only [c0, c1, c2, evf,↓evp,evq,evr,fxa0,fxa1,fxa2,fxa3,fxa4,fxu,fxn,fxl,↓fxp,lgc,absL,fitL,flatL,ares,ares1,ofVal,unSc,aload,afill,splice,abound,asI,elems,IntKind.bits,sortT,eqNil,closedL,allByte,patch,pendOK,numA,Value.cells,Value.oneCell',ibin,List.replicate,Option.elim,Nat.reduceAdd,Nat.reduceSub,Nat.reduceMul,Nat.reduceLT,Nat.reduceEqDiff,Nat.reduceLeDiff,Nat.reduceBEq,Int.reduceLE,Int.reduceLT,Int.reduceToNat,Int.reduceBNe,Int.reduceBEq,Int.reduceNeg,Int.reduceEq,Int.reduceNe,Nat.reduceBNe,Int.reduceAdd,Int.reduceSub,Int.reduceMul,Int.reducePow,Nat.reducePow,Int.reduceGT,Int.reduceGE,if_true,if_false,ite_true,ite_false,beq_self_eq_true,BEq.rfl,reduceCtorEq,eq_self,ne_eq,Function.comp_def,beq_iff_eq]
  refine w_All1 (n := n + 4) hi0 fun s1 j1 => ?_
  have c0_1 := j1 _ _ c0
  have c1_1 := j1 _ _ c1
  have c2_1 := j1 _ _ c2
  have hi1 := hi0.grw j1
  have g1 := g0.trans j1
  simp only [c0, c1, c2, c0_1, c1_1, c2_1, j1, evf,↓evp,evq,evr,fxa0,fxa1,fxa2,fxa3,fxa4,fxu,fxn,fxl,↓fxp,lgc,absL,fitL,flatL,ares,ares1,ofVal,unSc,aload,afill,splice,abound,asI,elems,IntKind.bits,sortT,eqNil,closedL,allByte,patch,pendOK,numA,Value.cells,Value.oneCell',ibin,List.replicate,Option.elim,Nat.reduceAdd,Nat.reduceSub,Nat.reduceMul,Nat.reduceLT,Nat.reduceEqDiff,Nat.reduceLeDiff,Nat.reduceBEq,Int.reduceLE,Int.reduceLT,Int.reduceToNat,Int.reduceBNe,Int.reduceBEq,Int.reduceNeg,Int.reduceEq,Int.reduceNe,Nat.reduceBNe,Int.reduceAdd,Int.reduceSub,Int.reduceMul,Int.reducePow,Nat.reducePow,Int.reduceGT,Int.reduceGE,if_true,if_false,ite_true,ite_false,beq_self_eq_true,BEq.rfl,reduceCtorEq,eq_self,ne_eq,Function.comp_def,beq_iff_eq]
  refine g_may (n := n) fun s2 j2 => ?_
  have c0_2 := j2 _ _ c0_1
  have c1_2 := j2 _ _ c1_1
  have c2_2 := j2 _ _ c2_1
  have hi2 := hi1.grw j2
  have g2 := g1.trans j2
  have setg : ∀ (s : List Ob) (o : Ob), Grw st s → Grw st (s.set (st.length + 2) o) := fun s o h => h.set (by omega) o
  have c2s : ∀ (s : List Ob) (o o' : Ob), s[st.length + 2]? = some o → (s.set (st.length + 2) o')[st.length + 2]? = some o' := fun s o o' h => get_set h o'
  unfold mayE at hK
  cases e1 : bmayB id x y w h WW HH
  · simp only [e1, if_true] at hK
    simp only [c0, c1, c2, c0_1, c1_1, c2_1, c0_2, c1_2, c2_2, c2s _ _ _ c2_2, j1, j2, e1, evf,↓evp,evq,evr,fxa0,fxa1,fxa2,fxa3,fxa4,fxu,fxn,fxl,↓fxp,lgc,absL,fitL,flatL,ares,ares1,ofVal,unSc,aload,afill,splice,abound,asI,elems,IntKind.bits,sortT,eqNil,closedL,allByte,patch,pendOK,numA,Value.cells,Value.oneCell',ibin,List.replicate,Option.elim,Nat.reduceAdd,Nat.reduceSub,Nat.reduceMul,Nat.reduceLT,Nat.reduceEqDiff,Nat.reduceLeDiff,Nat.reduceBEq,Int.reduceLE,Int.reduceLT,Int.reduceToNat,Int.reduceBNe,Int.reduceBEq,Int.reduceNeg,Int.reduceEq,Int.reduceNe,Nat.reduceBNe,Int.reduceAdd,Int.reduceSub,Int.reduceMul,Int.reducePow,Nat.reducePow,Int.reduceGT,Int.reduceGE,if_true,if_false,ite_true,ite_false,beq_self_eq_true,BEq.rfl,reduceCtorEq,eq_self,ne_eq,Function.comp_def,beq_iff_eq]
    exact hK _ (setg _ _ g2)
  simp only [e1, Bool.true_eq_false, if_false] at hK
  have w2 := hi2.w
  have look := lk_int (e := 78) (z := .agg [.sc (.int .i64 0), .sc (.int .i64 0), .sc (.int .i64 0), .sc (.int .i64 0)]) Try.underlying104 (by kernel_rfl) hi2.us id
  have gX := fun X => Grw.push s2 X
  have c0X := fun X => gX X _ _ c0_2
  have c1X := fun X => gX X _ _ c1_2
  have c2X := fun X => gX X _ _ c2_2
  have wX := fun X => gX X _ _ w2
  have uX := fun X => (hi2.grw (gX X)).us
  have lookX := fun X => lk_int (e := 78) (z := .agg [.sc (.int .i64 0), .sc (.int .i64 0), .sc (.int .i64 0), .sc (.int .i64 0)]) Try.underlying104 (by kernel_rfl) (uX X) id
  cases e2 : getI id us
  case some vv =>
    obtain ⟨x', y', w', h', rfl⟩ := hrc _ _ e2
    rw [e2] at look
    simp only [e2] at lookX
    simp only [e2, Option.isSome_some, if_true] at hK
    simp only [rc] at look lookX
    simp only [c0, c1, c2, c0_1, c1_1, c2_1, c0_2, c1_2, c2_2, j1, j2, w2, look, c0X, c1X, c2X, wX, lookX, c2s _ _ _ (c2X _), get_new, get_new0, M.set_new, M.set_new0, e1, evf,↓evp,evq,evr,fxa0,fxa1,fxa2,fxa3,fxa4,fxu,fxn,fxl,↓fxp,lgc,absL,fitL,flatL,ares,ares1,ofVal,unSc,aload,afill,splice,abound,asI,elems,IntKind.bits,sortT,eqNil,closedL,allByte,patch,pendOK,numA,Value.cells,Value.oneCell',ibin,List.replicate,Option.elim,Nat.reduceAdd,Nat.reduceSub,Nat.reduceMul,Nat.reduceLT,Nat.reduceEqDiff,Nat.reduceLeDiff,Nat.reduceBEq,Int.reduceLE,Int.reduceLT,Int.reduceToNat,Int.reduceBNe,Int.reduceBEq,Int.reduceNeg,Int.reduceEq,Int.reduceNe,Nat.reduceBNe,Int.reduceAdd,Int.reduceSub,Int.reduceMul,Int.reducePow,Nat.reducePow,Int.reduceGT,Int.reduceGE,if_true,if_false,ite_true,ite_false,beq_self_eq_true,BEq.rfl,reduceCtorEq,eq_self,ne_eq,Function.comp_def,beq_iff_eq]
    exact hK _ (setg _ _ (g2.trans (gX _)))
  rw [e2] at look
  simp only [e2] at lookX
  simp only [e2, Option.isSome_none, Bool.false_eq_true, if_false] at hK
  have nX := fun X => mlen_at Try.underlying104 (uX X)
  simp only [esI, List.length_map] at nX
  cases e3 : decide ((us.length : Int) ≥ 256)
  case true =>
    have e3' := of_decide_eq_true e3
    rw [if_pos (by omega)] at hK
    simp only [c0, c1, c2, c0_1, c1_1, c2_1, c0_2, c1_2, c2_2, j1, j2, w2, look, c0X, c1X, c2X, wX, lookX, nX, e3, c2s _ _ _ (c2X _), get_new, get_new0, M.set_new, M.set_new0, e1, evf,↓evp,evq,evr,fxa0,fxa1,fxa2,fxa3,fxa4,fxu,fxn,fxl,↓fxp,lgc,absL,fitL,flatL,ares,ares1,ofVal,unSc,aload,afill,splice,abound,asI,elems,IntKind.bits,sortT,eqNil,closedL,allByte,patch,pendOK,numA,Value.cells,Value.oneCell',ibin,List.replicate,Option.elim,Nat.reduceAdd,Nat.reduceSub,Nat.reduceMul,Nat.reduceLT,Nat.reduceEqDiff,Nat.reduceLeDiff,Nat.reduceBEq,Int.reduceLE,Int.reduceLT,Int.reduceToNat,Int.reduceBNe,Int.reduceBEq,Int.reduceNeg,Int.reduceEq,Int.reduceNe,Nat.reduceBNe,Int.reduceAdd,Int.reduceSub,Int.reduceMul,Int.reducePow,Nat.reducePow,Int.reduceGT,Int.reduceGE,if_true,if_false,ite_true,ite_false,beq_self_eq_true,BEq.rfl,reduceCtorEq,eq_self,ne_eq,Function.comp_def,beq_iff_eq]
    exact hK _ (setg _ _ (g2.trans (gX _)))
  have e3' := of_decide_eq_false e3
  rw [if_neg (by omega)] at hK
  simp only [c0, c1, c2, c0_1, c1_1, c2_1, c0_2, c1_2, c2_2, j1, j2, w2, look, c0X, c1X, c2X, wX, lookX, nX, e3, get_new, get_new0, M.set_new, M.set_new0, e1, evf,↓evp,evq,evr,fxa0,fxa1,fxa2,fxa3,fxa4,fxu,fxn,fxl,↓fxp,lgc,absL,fitL,flatL,ares,ares1,ofVal,unSc,aload,afill,splice,abound,asI,elems,IntKind.bits,sortT,eqNil,closedL,allByte,patch,pendOK,numA,Value.cells,Value.oneCell',ibin,List.replicate,Option.elim,Nat.reduceAdd,Nat.reduceSub,Nat.reduceMul,Nat.reduceLT,Nat.reduceEqDiff,Nat.reduceLeDiff,Nat.reduceBEq,Int.reduceLE,Int.reduceLT,Int.reduceToNat,Int.reduceBNe,Int.reduceBEq,Int.reduceNeg,Int.reduceEq,Int.reduceNe,Nat.reduceBNe,Int.reduceAdd,Int.reduceSub,Int.reduceMul,Int.reducePow,Nat.reducePow,Int.reduceGT,Int.reduceGE,if_true,if_false,ite_true,ite_false,beq_self_eq_true,BEq.rfl,reduceCtorEq,eq_self,ne_eq,Function.comp_def,beq_iff_eq]
  refine c_Cells ?_
  obtain ⟨em, ew, eh, _, _⟩ := bmay_may e1
  obtain ⟨fx, fy, fw, fh, fx2, fy2⟩ := may_facts em
  obtain ⟨W, rfl⟩ := Int.eq_ofNat_of_zero_le (show 0 ≤ w by omega)
  obtain ⟨H, rfl⟩ := Int.eq_ofNat_of_zero_le (show 0 ≤ h by omega)
  simp only [Int.toNat_natCast] at hK
  generalize hs3 : s2 ++ [Ob.cells _] = s3
  simp only [evf,↓evp,evq,evr,fxa0,fxa1,fxa2,fxa3,fxa4,fxu,fxn,fxl,↓fxp,lgc,absL,fitL,flatL,ares,ares1,ofVal,unSc,aload,afill,splice,abound,asI,elems,IntKind.bits,sortT,eqNil,closedL,allByte,patch,pendOK,numA,Value.cells,Value.oneCell',ibin,List.replicate,Option.elim,Nat.reduceAdd,Nat.reduceSub,Nat.reduceMul,Nat.reduceLT,Nat.reduceEqDiff,Nat.reduceLeDiff,Nat.reduceBEq,Int.reduceLE,Int.reduceLT,Int.reduceToNat,Int.reduceBNe,Int.reduceBEq,Int.reduceNeg,Int.reduceEq,Int.reduceNe,Nat.reduceBNe,Int.reduceAdd,Int.reduceSub,Int.reduceMul,Int.reducePow,Nat.reducePow,Int.reduceGT,Int.reduceGE,if_true,if_false,ite_true,ite_false,beq_self_eq_true,BEq.rfl,reduceCtorEq,eq_self,ne_eq,Function.comp_def,beq_iff_eq]
  have g3 : Grw s2 s3 := by rw [← hs3]; exact .push _ _
  have hi3 := hi2.grw g3
  have c0_3 := g3 _ _ c0_2
  have c2_3 := g3 _ _ c2_2
  have g5 := fun X => Grw.push s3 X
  have l3 : st.length + 3 ≤ s3.length := by have := (List.getElem?_eq_some_iff.1 c2_3).1; omega
  refine may_loop (n := n + 2) rfl (t2 := st.length) (t4 := st.length + 2) (wd := wd) (a := a) (b := b) (WW := WW) (HH := HH) (tv := tv) (dv := dv) (os := os) (by simp only [evf, ne_eq, Nat.reduceEqDiff, Nat.reduceLT, not_false_eq_true]) (by simp only [evf, ne_eq, Nat.reduceEqDiff, Nat.reduceLT, not_false_eq_true]) em (by omega) (by omega) (g5 _ _ _ c0_3) (g5 _ _ _ c2_3) (g5 _ _ _ hi3.w) (g5 _ _ _ hi3.os) (get_new0 _ _) (get_new _ _ 1) ?_ ?_
  · intro eh s' k1 k2
    simp only [eh, Bool.false_eq_true, if_false] at hK
    refine rfEnd_normal k1 (by decide) ?_
    generalize hs6 : s'.set (s3.length + 1) _ = s6
    have c6 : s6[st.length + 2]? = some (.cells [.sc (.int .i64 0)]) := by rw [← hs6]; exact frame_new (st := st) (k2 _ _ (by omega) (g5 _ _ _ c2_3)) (by omega) _
    simp only [c6, c2s _ _ _ c6, evf,↓evp,evq,evr,fxa0,fxa1,fxa2,fxa3,fxa4,fxu,fxn,fxl,↓fxp,lgc,absL,fitL,flatL,ares,ares1,ofVal,unSc,aload,afill,splice,abound,asI,elems,IntKind.bits,sortT,eqNil,closedL,allByte,patch,pendOK,numA,Value.cells,Value.oneCell',ibin,List.replicate,Option.elim,Nat.reduceAdd,Nat.reduceSub,Nat.reduceMul,Nat.reduceLT,Nat.reduceEqDiff,Nat.reduceLeDiff,Nat.reduceBEq,Int.reduceLE,Int.reduceLT,Int.reduceToNat,Int.reduceBNe,Int.reduceBEq,Int.reduceNeg,Int.reduceEq,Int.reduceNe,Nat.reduceBNe,Int.reduceAdd,Int.reduceSub,Int.reduceMul,Int.reducePow,Nat.reducePow,Int.reduceGT,Int.reduceGE,if_true,if_false,ite_true,ite_false,beq_self_eq_true,BEq.rfl,reduceCtorEq,eq_self,ne_eq,Function.comp_def,beq_iff_eq]
    refine hK _ fun j o hj => ?_
    have lj : j < st.length := (List.getElem?_eq_some_iff.1 hj).1
    rw [List.getElem?_set_ne (by omega), ← hs6]
    exact frame_new (st := st) (k2 _ _ (by omega) (g5 _ _ _ (g3 _ _ (g2 _ _ hj)))) (by omega) _
  · intro eh s' k1 k4 k2
    simp only [eh, if_true] at hK
    refine rfEnd_ret k1 (by decide) ?_
    generalize hs6 : s'.set (s3.length + 1) _ = s6
    have c6 : s6[st.length + 2]? = some (.cells [.sc (.int .i64 6)]) := by rw [← hs6]; exact frame_new (st := st) k4 (by omega) _
    simp only [c6, evf,↓evp,evq,evr,fxa0,fxa1,fxa2,fxa3,fxa4,fxu,fxn,fxl,↓fxp,lgc,absL,fitL,flatL,ares,ares1,ofVal,unSc,aload,afill,splice,abound,asI,elems,IntKind.bits,sortT,eqNil,closedL,allByte,patch,pendOK,numA,Value.cells,Value.oneCell',ibin,List.replicate,Option.elim,Nat.reduceAdd,Nat.reduceSub,Nat.reduceMul,Nat.reduceLT,Nat.reduceEqDiff,Nat.reduceLeDiff,Nat.reduceBEq,Int.reduceLE,Int.reduceLT,Int.reduceToNat,Int.reduceBNe,Int.reduceBEq,Int.reduceNeg,Int.reduceEq,Int.reduceNe,Nat.reduceBNe,Int.reduceAdd,Int.reduceSub,Int.reduceMul,Int.reducePow,Nat.reducePow,Int.reduceGT,Int.reduceGE,if_true,if_false,ite_true,ite_false,beq_self_eq_true,BEq.rfl,reduceCtorEq,eq_self,ne_eq,Function.comp_def,beq_iff_eq]
    refine hK _ fun j o hj => ?_
    have lj : j < st.length := (List.getElem?_eq_some_iff.1 hj).1
    rw [← hs6]
    exact frame_new (st := st) (k2 _ _ (by omega) (by omega) (g5 _ _ _ (g3 _ _ (g2 _ _ hj)))) (by omega) _
end
end Go.Proofs.Ytndjhaeeldegfaa
