/- Chapter 4: the law GridUndoes. -/
import Derived.Test.YtndjhaeeldegfaaG29
import Derived.Test.YtndjhaeeldegfaaG32
import Derived.Test.YtndjhaeeldegfaaG11
set_option linter.unusedVariables false
set_option linter.unusedSimpArgs false
set_option maxRecDepth 10000
namespace Go.Proofs.Ytndjhaeeldegfaa
open Go Go.M Go.RowKit
attribute [local congr] acallF_cong aloop_cong bcase_cong resK_cong valK_cong wantK_cong callK_cong xputK_cong qputK_cong resM_cong rfK_cong
attribute [local irreducible] seqK blockK loopK nextK bcase resK valK wantK funK putK dputK xputK qputK callK aops aop acode adraw aloop acallF acall invK resM rfK rfEnd rdEnd rdMid around
section
variable {n m : Nat} {st s : List Ob} {K : V → List Ob → Prop} {WW HH : Int} {T : List Int} {L : List B4} {E : List E4} {tv bv lv : V} {u : B4}
set_option maxHeartbeats 8000000 in
theorem l_Undoes (ht : ∀ s, Rd Try.prog s 5 tv (bs T) T.length) (hb : ∀ s, Rd Try.prog s 90 bv (L.flatMap B4.v) L.length) (he : ∀ s, Rd Try.prog s 101 lv (E.flatMap E4.v) E.length) (ot : M.one tv = true ∧ cellsV tv = [tv]) (ob : M.one bv = true ∧ cellsV bv = [bv])
    (hm : 300 < m) (hTm : T.length < m) (hEm : E.length < m) (hTb : ∀ t ∈ T, 0 ≤ t ∧ t < 256) (hT : T.length ≤ 140737488355328) (hL : L.length ≤ 3518437208883) (hEl : E.length ≤ 2932031007402) (hK : ∀ s, K (.sc (.bool true)) s) :
    acallF Try.prog pl (n + 12) m 10 [.agg (mp WW HH tv bv), lv, .agg (B4.v u)] st K := by
  refine acallF_inF Try.func10 rfl rfl Try.ntmps10 (by simp) ?_
  obtain ⟨s1, hs1⟩ : ∃ s1, s1 = st ++ [Ob.cells (mp WW HH tv bv), Ob.cells (B4.v u)] := ⟨_, rfl⟩
  have c1 : s1[st.length]? = some (.cells (mp WW HH tv bv)) := by rw [hs1]; exact get_new _ _ 0
  have x1 : s1[st.length + 1]? = some (.cells (B4.v u)) := by rw [hs1]; exact get_new _ _ 1
  simp only [mp, B4.v, bd, rc] at hs1 c1 x1
  simp only [mp, B4.v, bd, rc, ot.1, ot.2, ob.1, ob.2, evf,↓evp,evq,evr,fxa0,fxa1,fxa2,fxa3,fxa4,fxu,fxn,fxl,↓fxp,lgc,absL,fitL,flatL,ares,ares1,ofVal,unSc,aload,afill,splice,abound,asI,elems,IntKind.bits,sortT,eqNil,closedL,allByte,patch,pendOK,numA,Value.cells,Value.oneCell',ibin,List.replicate,Option.elim,Nat.reduceAdd,Nat.reduceSub,Nat.reduceMul,Nat.reduceLT,Nat.reduceEqDiff,Nat.reduceLeDiff,Nat.reduceBEq,Int.reduceLE,Int.reduceLT,Int.reduceToNat,Int.reduceBNe,Int.reduceBEq,Int.reduceNeg,Int.reduceEq,Int.reduceNe,Nat.reduceBNe,Int.reduceAdd,Int.reduceSub,Int.reduceMul,Int.reducePow,Nat.reducePow,Int.reduceGT,Int.reduceGE,if_true,if_false,ite_true,ite_false,beq_self_eq_true,BEq.rfl,reduceCtorEq,eq_self,ne_eq,Function.comp_def,beq_iff_eq]
  rw [← hs1]
  refine l_Made (n := n) ht hb he ot ob hm hTm hEm hTb hT hL hEl (fun _ s2 g2 => ?_) fun eOK wd a b rd tv1 tv2 dv bv' ev us os L' ds s2 bo hL' hds fs => ?_
  · simp only [get_new, get_new0, M.set_new, M.set_new0, evf,↓evp,evq,evr,fxa0,fxa1,fxa2,fxa3,fxa4,fxu,fxn,fxl,↓fxp,lgc,absL,fitL,flatL,ares,ares1,ofVal,unSc,aload,afill,splice,abound,asI,elems,IntKind.bits,sortT,eqNil,closedL,allByte,patch,pendOK,numA,Value.cells,Value.oneCell',ibin,List.replicate,Option.elim,Nat.reduceAdd,Nat.reduceSub,Nat.reduceMul,Nat.reduceLT,Nat.reduceEqDiff,Nat.reduceLeDiff,Nat.reduceBEq,Int.reduceLE,Int.reduceLT,Int.reduceToNat,Int.reduceBNe,Int.reduceBEq,Int.reduceNeg,Int.reduceEq,Int.reduceNe,Nat.reduceBNe,Int.reduceAdd,Int.reduceSub,Int.reduceMul,Int.reducePow,Nat.reducePow,Int.reduceGT,Int.reduceGE,if_true,if_false,ite_true,ite_false,beq_self_eq_true,BEq.rfl,reduceCtorEq,eq_self,ne_eq,Function.comp_def,beq_iff_eq]
    refine awake4 (n := n + 1) hm fun s3 g3 => ?_
    simp only [evf,↓evp,evq,evr,fxa0,fxa1,fxa2,fxa3,fxa4,fxu,fxn,fxl,↓fxp,lgc,absL,fitL,flatL,ares,ares1,ofVal,unSc,aload,afill,splice,abound,asI,elems,IntKind.bits,sortT,eqNil,closedL,allByte,patch,pendOK,numA,Value.cells,Value.oneCell',ibin,List.replicate,Option.elim,Nat.reduceAdd,Nat.reduceSub,Nat.reduceMul,Nat.reduceLT,Nat.reduceEqDiff,Nat.reduceLeDiff,Nat.reduceBEq,Int.reduceLE,Int.reduceLT,Int.reduceToNat,Int.reduceBNe,Int.reduceBEq,Int.reduceNeg,Int.reduceEq,Int.reduceNe,Nat.reduceBNe,Int.reduceAdd,Int.reduceSub,Int.reduceMul,Int.reducePow,Nat.reducePow,Int.reduceGT,Int.reduceGE,if_true,if_false,ite_true,ite_false,beq_self_eq_true,BEq.rfl,reduceCtorEq,eq_self,ne_eq,Function.comp_def,beq_iff_eq]
    exact hK _
  have hTl := refOK_T eOK
  have x2 := fs _ _ x1
  have lx2 : st.length + 1 < s2.length := (List.getElem?_eq_some_iff.1 x2).1
  obtain ⟨s3, hs3⟩ : ∃ s3, s3 = s2 ++ [Ob.cells [.ref wd 0, .ref rd 0]] := ⟨_, rfl⟩
  have g3 : Grw s2 s3 := by rw [hs3]; exact .push _ _
  have c3 : s3[s2.length]? = some (.cells [.ref wd 0, .ref rd 0]) := by rw [hs3]; exact get_new0 _ _
  have x3 := g3 _ _ x2
  have bo3 := bo.grw g3
  have i3 := bo3.p
  have rel := bo.rel
  have srt := bo.srt
  simp only [get_new, get_new0, M.set_new, M.set_new0, evf,↓evp,evq,evr,fxa0,fxa1,fxa2,fxa3,fxa4,fxu,fxn,fxl,↓fxp,lgc,absL,fitL,flatL,ares,ares1,ofVal,unSc,aload,afill,splice,abound,asI,elems,IntKind.bits,sortT,eqNil,closedL,allByte,patch,pendOK,numA,Value.cells,Value.oneCell',ibin,List.replicate,Option.elim,Nat.reduceAdd,Nat.reduceSub,Nat.reduceMul,Nat.reduceLT,Nat.reduceEqDiff,Nat.reduceLeDiff,Nat.reduceBEq,Int.reduceLE,Int.reduceLT,Int.reduceToNat,Int.reduceBNe,Int.reduceBEq,Int.reduceNeg,Int.reduceEq,Int.reduceNe,Nat.reduceBNe,Int.reduceAdd,Int.reduceSub,Int.reduceMul,Int.reducePow,Nat.reducePow,Int.reduceGT,Int.reduceGE,if_true,if_false,ite_true,ite_false,beq_self_eq_true,BEq.rfl,reduceCtorEq,eq_self,ne_eq,Function.comp_def,beq_iff_eq]
  rw [← hs3]
  refine w_Map1 (n := n + 4) i3 rel srt hL' hm (by omega) fun tm bm s4 gt4 gb4 nt4 nb4 g4 => ?_
  obtain ⟨o1, o2⟩ := gt4.one
  obtain ⟨o3, o4⟩ := gb4.one
  have c4 := g4 _ _ c3
  have x4 := g4 _ _ x3
  have i4 := i3.grw g4
  obtain ⟨s5, hs5⟩ : ∃ s5, s5 = s4 ++ [Ob.cells (mp WW HH tm bm)] := ⟨_, rfl⟩
  have g5 : Grw s4 s5 := by rw [hs5]; exact .push _ _
  have m5 : s5[s4.length]? = some (.cells (mp WW HH tm bm)) := by rw [hs5]; exact get_new0 _ _
  have c5 := g5 _ _ c4
  have x5 := g5 _ _ x4
  have i5 := i4.grw g5
  have l5 : s5.length = s4.length + 1 := by rw [hs5]; simp
  have lst4 : s2.length < s4.length := (List.getElem?_eq_some_iff.1 c4).1
  simp only [mp] at hs5 m5
  simp only [mp, o1, o2, o3, o4, evf,↓evp,evq,evr,fxa0,fxa1,fxa2,fxa3,fxa4,fxu,fxn,fxl,↓fxp,lgc,absL,fitL,flatL,ares,ares1,ofVal,unSc,aload,afill,splice,abound,asI,elems,IntKind.bits,sortT,eqNil,closedL,allByte,patch,pendOK,numA,Value.cells,Value.oneCell',ibin,List.replicate,Option.elim,Nat.reduceAdd,Nat.reduceSub,Nat.reduceMul,Nat.reduceLT,Nat.reduceEqDiff,Nat.reduceLeDiff,Nat.reduceBEq,Int.reduceLE,Int.reduceLT,Int.reduceToNat,Int.reduceBNe,Int.reduceBEq,Int.reduceNeg,Int.reduceEq,Int.reduceNe,Nat.reduceBNe,Int.reduceAdd,Int.reduceSub,Int.reduceMul,Int.reducePow,Nat.reducePow,Int.reduceGT,Int.reduceGE,if_true,if_false,ite_true,ite_false,beq_self_eq_true,BEq.rfl,reduceCtorEq,eq_self,ne_eq,Function.comp_def,beq_iff_eq]
  rw [← hs5]
  simp only [c5, x5, evf,↓evp,evq,evr,fxa0,fxa1,fxa2,fxa3,fxa4,fxu,fxn,fxl,↓fxp,lgc,absL,fitL,flatL,ares,ares1,ofVal,unSc,aload,afill,splice,abound,asI,elems,IntKind.bits,sortT,eqNil,closedL,allByte,patch,pendOK,numA,Value.cells,Value.oneCell',ibin,List.replicate,Option.elim,Nat.reduceAdd,Nat.reduceSub,Nat.reduceMul,Nat.reduceLT,Nat.reduceEqDiff,Nat.reduceLeDiff,Nat.reduceBEq,Int.reduceLE,Int.reduceLT,Int.reduceToNat,Int.reduceBNe,Int.reduceBEq,Int.reduceNeg,Int.reduceEq,Int.reduceNe,Nat.reduceBNe,Int.reduceAdd,Int.reduceSub,Int.reduceMul,Int.reducePow,Nat.reducePow,Int.reduceGT,Int.reduceGE,if_true,if_false,ite_true,ite_false,beq_self_eq_true,BEq.rfl,reduceCtorEq,eq_self,ne_eq,Function.comp_def,beq_iff_eq]
  refine w_Epoch1 (n := n + 9) i5 ?_
  simp only [c5, x5, evf,↓evp,evq,evr,fxa0,fxa1,fxa2,fxa3,fxa4,fxu,fxn,fxl,↓fxp,lgc,absL,fitL,flatL,ares,ares1,ofVal,unSc,aload,afill,splice,abound,asI,elems,IntKind.bits,sortT,eqNil,closedL,allByte,patch,pendOK,numA,Value.cells,Value.oneCell',ibin,List.replicate,Option.elim,Nat.reduceAdd,Nat.reduceSub,Nat.reduceMul,Nat.reduceLT,Nat.reduceEqDiff,Nat.reduceLeDiff,Nat.reduceBEq,Int.reduceLE,Int.reduceLT,Int.reduceToNat,Int.reduceBNe,Int.reduceBEq,Int.reduceNeg,Int.reduceEq,Int.reduceNe,Nat.reduceBNe,Int.reduceAdd,Int.reduceSub,Int.reduceMul,Int.reducePow,Nat.reducePow,Int.reduceGT,Int.reduceGE,if_true,if_false,ite_true,ite_false,beq_self_eq_true,BEq.rfl,reduceCtorEq,eq_self,ne_eq,Function.comp_def,beq_iff_eq]
  refine w_Place1 (n := n + 3) (id := u.id) (x := u.x) (y := u.y) (w := u.w) (h := u.h) i5 (by rw [rel.len]; omega) (by omega) (by omega) ?ref ?ok
  case' ref =>
    intro e0 sP gP
    have eb : (mayE us os WW HH u.id u.x u.y u.w u.h == 0) = false := by simpa using e0
    have cP := gP _ _ c5
    have iP := i5.grw gP
    simp only [cP, eb, evf,↓evp,evq,evr,fxa0,fxa1,fxa2,fxa3,fxa4,fxu,fxn,fxl,↓fxp,lgc,absL,fitL,flatL,ares,ares1,ofVal,unSc,aload,afill,splice,abound,asI,elems,IntKind.bits,sortT,eqNil,closedL,allByte,patch,pendOK,numA,Value.cells,Value.oneCell',ibin,List.replicate,Option.elim,Nat.reduceAdd,Nat.reduceSub,Nat.reduceMul,Nat.reduceLT,Nat.reduceEqDiff,Nat.reduceLeDiff,Nat.reduceBEq,Int.reduceLE,Int.reduceLT,Int.reduceToNat,Int.reduceBNe,Int.reduceBEq,Int.reduceNeg,Int.reduceEq,Int.reduceNe,Nat.reduceBNe,Int.reduceAdd,Int.reduceSub,Int.reduceMul,Int.reducePow,Nat.reducePow,Int.reduceGT,Int.reduceGE,if_true,if_false,ite_true,ite_false,beq_self_eq_true,BEq.rfl,reduceCtorEq,eq_self,ne_eq,Function.comp_def,beq_iff_eq]
    refine w_Epoch1 (n := n + 9) iP ?_
    simp only [bne_self_eq_false, evf,↓evp,evq,evr,fxa0,fxa1,fxa2,fxa3,fxa4,fxu,fxn,fxl,↓fxp,lgc,absL,fitL,flatL,ares,ares1,ofVal,unSc,aload,afill,splice,abound,asI,elems,IntKind.bits,sortT,eqNil,closedL,allByte,patch,pendOK,numA,Value.cells,Value.oneCell',ibin,List.replicate,Option.elim,Nat.reduceAdd,Nat.reduceSub,Nat.reduceMul,Nat.reduceLT,Nat.reduceEqDiff,Nat.reduceLeDiff,Nat.reduceBEq,Int.reduceLE,Int.reduceLT,Int.reduceToNat,Int.reduceBNe,Int.reduceBEq,Int.reduceNeg,Int.reduceEq,Int.reduceNe,Nat.reduceBNe,Int.reduceAdd,Int.reduceSub,Int.reduceMul,Int.reducePow,Nat.reducePow,Int.reduceGT,Int.reduceGE,if_true,if_false,ite_true,ite_false,beq_self_eq_true,BEq.rfl,reduceCtorEq,eq_self,ne_eq,Function.comp_def,beq_iff_eq]
    obtain ⟨sq, us1, os1, dv1, ds1, iq, rq, cq, mq, gtq, gbq⟩ : ∃ sq us1 os1 dv1 ds1, (Wg sq wd a b WW HH tv1 dv1 (bs T) us1 os1 ds1 ∧ sP = sq) ∧ Rel WW HH us1 os1 L' ∧ sq[s2.length]? = some (.cells [.ref wd 0, .ref rd 0]) ∧ sq[s4.length]? = some (.cells (mp WW HH tm bm)) ∧ Gl sq 5 tm (bs T) T.length ∧ Gl sq 90 bm (L'.flatMap B4.v) L'.length :=
      ⟨sP, _, _, _, _, ⟨iP, rfl⟩, rel, cP, gP _ _ m5, gt4.grw (g5.trans gP), gb4.grw (g5.trans gP)⟩
    obtain ⟨iq, rfl⟩ := iq
  case' ok =>
    intro e0 dvp sP iP kP nP
    obtain ⟨r1, r2⟩ := rel.undo u e0
    have fP := i5.fc (rd := wd) kP
    have nwd : s2.length ≠ wd := by have := (List.getElem?_eq_some_iff.1 bo.p.wd.w).1; omega
    have nwd1 : st.length + 1 ≠ wd := fun hh => by have := bo.p.wd.w; rw [← hh, x2] at this; cases this
    have nwd4 : s4.length ≠ wd := by have := (List.getElem?_eq_some_iff.1 bo.p.wd.w).1; omega
    have cP := fP _ _ nwd nwd c5
    have xP := fP _ _ nwd1 nwd1 x5
    have mP := fP _ _ nwd4 nwd4 m5
    simp only [cP, xP, evf,↓evp,evq,evr,fxa0,fxa1,fxa2,fxa3,fxa4,fxu,fxn,fxl,↓fxp,lgc,absL,fitL,flatL,ares,ares1,ofVal,unSc,aload,afill,splice,abound,asI,elems,IntKind.bits,sortT,eqNil,closedL,allByte,patch,pendOK,numA,Value.cells,Value.oneCell',ibin,List.replicate,Option.elim,Nat.reduceAdd,Nat.reduceSub,Nat.reduceMul,Nat.reduceLT,Nat.reduceEqDiff,Nat.reduceLeDiff,Nat.reduceBEq,Int.reduceLE,Int.reduceLT,Int.reduceToNat,Int.reduceBNe,Int.reduceBEq,Int.reduceNeg,Int.reduceEq,Int.reduceNe,Nat.reduceBNe,Int.reduceAdd,Int.reduceSub,Int.reduceMul,Int.reducePow,Nat.reducePow,Int.reduceGT,Int.reduceGE,if_true,if_false,ite_true,ite_false,beq_self_eq_true,BEq.rfl,reduceCtorEq,eq_self,ne_eq,Function.comp_def,beq_iff_eq]
    refine w_Raze1 (n := n + 3) iP r1.ni r1.rcs (by simp only [List.length_append, List.length_cons, List.length_nil]; omega) (by omega) (fun hg => by rw [getI_putI] at hg; simp at hg) ?_
    intro x y w h hg dvq sq0 iQ kQ nQ
    rw [getI_putI] at hg
    simp only [beq_self_eq_true, if_true, Option.some.injEq, rc, V.agg.injEq, List.cons.injEq, V.sc.injEq, Value.int.injEq, true_and, and_true] at hg
    obtain ⟨rfl, rfl, rfl, rfl⟩ := hg
    have fQ := iP.fc (rd := wd) kQ
    have cQ := fQ _ _ nwd nwd cP
    have xQ := fQ _ _ nwd1 nwd1 xP
    have mQ := fQ _ _ nwd4 nwd4 mP
    obtain ⟨s6, hs6⟩ : ∃ s6, s6 = sq0 ++ [Ob.cells (rc u.x u.y u.w u.h)] := ⟨_, rfl⟩
    have g6 : Grw sq0 s6 := by rw [hs6]; exact .push _ _
    have r6 : s6[sq0.length]? = some (.cells (rc u.x u.y u.w u.h)) := by rw [hs6]; exact get_new0 _ _
    have c6 := g6 _ _ cQ
    have x6 := g6 _ _ xQ
    have i6 := iQ.grw g6
    have cm := fun p q => cmp_rectN p q u.x u.y u.w u.h u.x u.y u.w u.h
    have eq1 : eqR u.x u.y u.w u.h u.x u.y u.w u.h = true := by simp [eqR]
    have el : (((ds ++ [(⟨u.x, u.y, u.w, u.h⟩ : R4)] ++ [(⟨u.x, u.y, u.w, u.h⟩ : R4)]).length : Nat) : Int) = (ds.length : Int) + 2 := by
      simp only [List.length_append, List.length_cons, List.length_nil]; omega
    have ew : IntKind.i64.wrap ((ds.length : Int) + 2) = (ds.length : Int) + 2 := wi64 (by omega) (by omega)
    simp only [rc] at hs6 r6
    simp only [rc, cQ, xQ, evf,↓evp,evq,evr,fxa0,fxa1,fxa2,fxa3,fxa4,fxu,fxn,fxl,↓fxp,lgc,absL,fitL,flatL,ares,ares1,ofVal,unSc,aload,afill,splice,abound,asI,elems,IntKind.bits,sortT,eqNil,closedL,allByte,patch,pendOK,numA,Value.cells,Value.oneCell',ibin,List.replicate,Option.elim,Nat.reduceAdd,Nat.reduceSub,Nat.reduceMul,Nat.reduceLT,Nat.reduceEqDiff,Nat.reduceLeDiff,Nat.reduceBEq,Int.reduceLE,Int.reduceLT,Int.reduceToNat,Int.reduceBNe,Int.reduceBEq,Int.reduceNeg,Int.reduceEq,Int.reduceNe,Nat.reduceBNe,Int.reduceAdd,Int.reduceSub,Int.reduceMul,Int.reducePow,Nat.reducePow,Int.reduceGT,Int.reduceGE,if_true,if_false,ite_true,ite_false,beq_self_eq_true,BEq.rfl,reduceCtorEq,eq_self,ne_eq,Function.comp_def,beq_iff_eq]
    rw [← hs6]
    simp only [r6, x6, c6, cm, eq1, Bool.not_true, evf,↓evp,evq,evr,fxa0,fxa1,fxa2,fxa3,fxa4,fxu,fxn,fxl,↓fxp,lgc,absL,fitL,flatL,ares,ares1,ofVal,unSc,aload,afill,splice,abound,asI,elems,IntKind.bits,sortT,eqNil,closedL,allByte,patch,pendOK,numA,Value.cells,Value.oneCell',ibin,List.replicate,Option.elim,Nat.reduceAdd,Nat.reduceSub,Nat.reduceMul,Nat.reduceLT,Nat.reduceEqDiff,Nat.reduceLeDiff,Nat.reduceBEq,Int.reduceLE,Int.reduceLT,Int.reduceToNat,Int.reduceBNe,Int.reduceBEq,Int.reduceNeg,Int.reduceEq,Int.reduceNe,Nat.reduceBNe,Int.reduceAdd,Int.reduceSub,Int.reduceMul,Int.reducePow,Nat.reducePow,Int.reduceGT,Int.reduceGE,if_true,if_false,ite_true,ite_false,beq_self_eq_true,BEq.rfl,reduceCtorEq,eq_self,ne_eq,Function.comp_def,beq_iff_eq]
    refine w_Epoch1 (n := n + 9) i6 ?_
    rw [el]
    simp only [ew, bne_self_eq_false, evf,↓evp,evq,evr,fxa0,fxa1,fxa2,fxa3,fxa4,fxu,fxn,fxl,↓fxp,lgc,absL,fitL,flatL,ares,ares1,ofVal,unSc,aload,afill,splice,abound,asI,elems,IntKind.bits,sortT,eqNil,closedL,allByte,patch,pendOK,numA,Value.cells,Value.oneCell',ibin,List.replicate,Option.elim,Nat.reduceAdd,Nat.reduceSub,Nat.reduceMul,Nat.reduceLT,Nat.reduceEqDiff,Nat.reduceLeDiff,Nat.reduceBEq,Int.reduceLE,Int.reduceLT,Int.reduceToNat,Int.reduceBNe,Int.reduceBEq,Int.reduceNeg,Int.reduceEq,Int.reduceNe,Nat.reduceBNe,Int.reduceAdd,Int.reduceSub,Int.reduceMul,Int.reducePow,Nat.reducePow,Int.reduceGT,Int.reduceGE,if_true,if_false,ite_true,ite_false,beq_self_eq_true,BEq.rfl,reduceCtorEq,eq_self,ne_eq,Function.comp_def,beq_iff_eq]
    have kT : ∀ {e : TypeId} {v : V} {xs : List V} {q : Nat}, Gl s4 e v xs q → (∀ j, rowOf v = some j → s3.length ≤ j) → Gl s6 e v xs q := fun hg hn => by
      have h5 := hg.grw g5
      have h6 : Gl sP _ _ _ _ := h5.of fun j o hj ho => kP.2 _ _ (fun hh => h5.ncells i5.wd.w (by rw [← hh]; exact hj)) (fun hh => h5.nmap i5.wd.us (by rw [← hh]; exact hj)) (fun hh => h5.nmap i5.wd.os (by rw [← hh]; exact hj)) (fun hh => by have h1 := i3.dl.lt j hh; have h2 := hn j hj; omega) ho
      have h7 : Gl sq0 _ _ _ _ := h6.of fun j o hj ho => kQ.2 _ _ (fun hh => h6.ncells iP.wd.w (by rw [← hh]; exact hj)) (fun hh => h6.nmap iP.wd.us (by rw [← hh]; exact hj)) (fun hh => h6.nmap iP.wd.os (by rw [← hh]; exact hj)) (fun hh => by
        have h2 := hn j hj
        rcases nP j hh with h3 | h3
        · have h1 := i3.dl.lt j h3; omega
        · have h1 := hg.lt j hj; omega) ho
      exact h7.grw g6
    obtain ⟨sq, us1, os1, dv1, ds1, iq, rq, cq, mq, gtq, gbq⟩ : ∃ sq us1 os1 dv1 ds1, (Wg sq wd a b WW HH tv1 dv1 (bs T) us1 os1 ds1 ∧ s6 = sq) ∧ Rel WW HH us1 os1 L' ∧ sq[s2.length]? = some (.cells [.ref wd 0, .ref rd 0]) ∧ sq[s4.length]? = some (.cells (mp WW HH tm bm)) ∧ Gl sq 5 tm (bs T) T.length ∧ Gl sq 90 bm (L'.flatMap B4.v) L'.length :=
      ⟨s6, _, _, _, _, ⟨i6, rfl⟩, r2, c6, g6 _ _ mQ, kT gt4 nt4, kT gb4 nb4⟩
    obtain ⟨iq, rfl⟩ := iq
  all_goals
    simp only [cq, evf,↓evp,evq,evr,fxa0,fxa1,fxa2,fxa3,fxa4,fxu,fxn,fxl,↓fxp,lgc,absL,fitL,flatL,ares,ares1,ofVal,unSc,aload,afill,splice,abound,asI,elems,IntKind.bits,sortT,eqNil,closedL,allByte,patch,pendOK,numA,Value.cells,Value.oneCell',ibin,List.replicate,Option.elim,Nat.reduceAdd,Nat.reduceSub,Nat.reduceMul,Nat.reduceLT,Nat.reduceEqDiff,Nat.reduceLeDiff,Nat.reduceBEq,Int.reduceLE,Int.reduceLT,Int.reduceToNat,Int.reduceBNe,Int.reduceBEq,Int.reduceNeg,Int.reduceEq,Int.reduceNe,Nat.reduceBNe,Int.reduceAdd,Int.reduceSub,Int.reduceMul,Int.reducePow,Nat.reducePow,Int.reduceGT,Int.reduceGE,if_true,if_false,ite_true,ite_false,beq_self_eq_true,BEq.rfl,reduceCtorEq,eq_self,ne_eq,Function.comp_def,beq_iff_eq]
    refine w_Map1 (n := n + 4) iq rq srt hL' hm (by omega) fun tn bn sa gta gba nta nba ga => ?_
    have ia := iq.grw ga
    have ca := ga _ _ cq
    have ma := ga _ _ mq
    have eN : newOK WW HH T L' = true := (newOK_ref T L').trans (rq.refOK srt eOK hL')
    have rT := fun {s : List Ob} {v : V} (h : Gl s 5 v (bs T) T.length) => h.rd (P := Try.prog) sz5 (by rw [bs_len]; omega)
    have rB := fun {s : List Ob} {v : V} (h : Gl s 90 v (L'.flatMap B4.v) L'.length) => h.rd (P := Try.prog) sz90 (flatMap_len (f := B4.v) (s := 5) (fun _ => rfl) _)
    simp only [mp, gta.one.1, gta.one.2, gba.one.1, gba.one.2, evf,↓evp,evq,evr,fxa0,fxa1,fxa2,fxa3,fxa4,fxu,fxn,fxl,↓fxp,lgc,absL,fitL,flatL,ares,ares1,ofVal,unSc,aload,afill,splice,abound,asI,elems,IntKind.bits,sortT,eqNil,closedL,allByte,patch,pendOK,numA,Value.cells,Value.oneCell',ibin,List.replicate,Option.elim,Nat.reduceAdd,Nat.reduceSub,Nat.reduceMul,Nat.reduceLT,Nat.reduceEqDiff,Nat.reduceLeDiff,Nat.reduceBEq,Int.reduceLE,Int.reduceLT,Int.reduceToNat,Int.reduceBNe,Int.reduceBEq,Int.reduceNeg,Int.reduceEq,Int.reduceNe,Nat.reduceBNe,Int.reduceAdd,Int.reduceSub,Int.reduceMul,Int.reducePow,Nat.reducePow,Int.reduceGT,Int.reduceGE,if_true,if_false,ite_true,ite_false,beq_self_eq_true,BEq.rfl,reduceCtorEq,eq_self,ne_eq,Function.comp_def,beq_iff_eq]
    refine w_New (n := n + 2) (rT gta) (rB gba) gta.one gba.one hm hTm hTb (fun h => by rw [eN] at h; cases h) fun _ wd2 a2 b2 tv2' us2 os2 sb hgo ib gb lw la lb ltv => ?_
    have cb := gb _ _ ca
    have mb := gb _ _ ma
    have iwb := ia.grw gb
    have rel2 := new_rel hgo
    simp only [cb, evf,↓evp,evq,evr,fxa0,fxa1,fxa2,fxa3,fxa4,fxu,fxn,fxl,↓fxp,lgc,absL,fitL,flatL,ares,ares1,ofVal,unSc,aload,afill,splice,abound,asI,elems,IntKind.bits,sortT,eqNil,closedL,allByte,patch,pendOK,numA,Value.cells,Value.oneCell',ibin,List.replicate,Option.elim,Nat.reduceAdd,Nat.reduceSub,Nat.reduceMul,Nat.reduceLT,Nat.reduceEqDiff,Nat.reduceLeDiff,Nat.reduceBEq,Int.reduceLE,Int.reduceLT,Int.reduceToNat,Int.reduceBNe,Int.reduceBEq,Int.reduceNeg,Int.reduceEq,Int.reduceNe,Nat.reduceBNe,Int.reduceAdd,Int.reduceSub,Int.reduceMul,Int.reducePow,Nat.reducePow,Int.reduceGT,Int.reduceGE,if_true,if_false,ite_true,ite_false,beq_self_eq_true,BEq.rfl,reduceCtorEq,eq_self,ne_eq,Function.comp_def,beq_iff_eq]
    refine w_Map1 (n := n + 4) iwb rq srt hL' hm (by omega) fun tp bp sc gtc gbc ntc nbc gc => ?_
    have cc := gc _ _ cb
    have mc := gc _ _ mb
    have ic := ib.grw gc
    have gtm := gtq.grw ((ga.trans gb).trans gc)
    have gbm := gbq.grw ((ga.trans gb).trans gc)
    simp only [mp] at ma mb mc
    simp only [mp, gtc.one.1, gtc.one.2, gbc.one.1, gbc.one.2, o1, o2, o3, o4, cb, mb, cc, mc, gc, evf,↓evp,evq,evr,fxa0,fxa1,fxa2,fxa3,fxa4,fxu,fxn,fxl,↓fxp,lgc,absL,fitL,flatL,ares,ares1,ofVal,unSc,aload,afill,splice,abound,asI,elems,IntKind.bits,sortT,eqNil,closedL,allByte,patch,pendOK,numA,Value.cells,Value.oneCell',ibin,List.replicate,Option.elim,Nat.reduceAdd,Nat.reduceSub,Nat.reduceMul,Nat.reduceLT,Nat.reduceEqDiff,Nat.reduceLeDiff,Nat.reduceBEq,Int.reduceLE,Int.reduceLT,Int.reduceToNat,Int.reduceBNe,Int.reduceBEq,Int.reduceNeg,Int.reduceEq,Int.reduceNe,Nat.reduceBNe,Int.reduceAdd,Int.reduceSub,Int.reduceMul,Int.reducePow,Nat.reducePow,Int.reduceGT,Int.reduceGE,if_true,if_false,ite_true,ite_false,beq_self_eq_true,BEq.rfl,reduceCtorEq,eq_self,ne_eq,Function.comp_def,beq_iff_eq]
    refine q_Same (n := n + 10) (rT gtc) (rT gtm) (rB gbc) (rB gbm) gtc.one gtm.one gbc.one gbm.one hL' hm fun sd gd => ?_
    have cd := gd _ _ cc
    have md := gd _ _ mc
    have id_ := ic.grw gd
    simp only [mp, gtc.one.1, gtc.one.2, gbc.one.1, gbc.one.2, o1, o2, o3, o4, cb, mb, cc, mc, cd, md, gc, gd, beq_self_eq_true, evf,↓evp,evq,evr,fxa0,fxa1,fxa2,fxa3,fxa4,fxu,fxn,fxl,↓fxp,lgc,absL,fitL,flatL,ares,ares1,ofVal,unSc,aload,afill,splice,abound,asI,elems,IntKind.bits,sortT,eqNil,closedL,allByte,patch,pendOK,numA,Value.cells,Value.oneCell',ibin,List.replicate,Option.elim,Nat.reduceAdd,Nat.reduceSub,Nat.reduceMul,Nat.reduceLT,Nat.reduceEqDiff,Nat.reduceLeDiff,Nat.reduceBEq,Int.reduceLE,Int.reduceLT,Int.reduceToNat,Int.reduceBNe,Int.reduceBEq,Int.reduceNeg,Int.reduceEq,Int.reduceNe,Nat.reduceBNe,Int.reduceAdd,Int.reduceSub,Int.reduceMul,Int.reducePow,Nat.reducePow,Int.reduceGT,Int.reduceGE,if_true,if_false,ite_true,ite_false,beq_self_eq_true,BEq.rfl,reduceCtorEq,eq_self,ne_eq,Function.comp_def,beq_iff_eq]
    refine w_Map1 (n := n + 4) id_ rel2 srt hL' hm (by omega) fun tq bq se gte gbe nte nbe ge => ?_
    have ce := ge _ _ cd
    have me := ge _ _ md
    have ie := id_.grw ge
    have gte0 := gtm.grw (gd.trans ge)
    have gbe0 := gbm.grw (gd.trans ge)
    simp only [mp, gte.one.1, gte.one.2, gbe.one.1, gbe.one.2, gtc.one.1, gtc.one.2, gbc.one.1, gbc.one.2, o1, o2, o3, o4, cb, mb, cc, mc, cd, md, ce, me, gc, gd, ge, beq_self_eq_true, evf,↓evp,evq,evr,fxa0,fxa1,fxa2,fxa3,fxa4,fxu,fxn,fxl,↓fxp,lgc,absL,fitL,flatL,ares,ares1,ofVal,unSc,aload,afill,splice,abound,asI,elems,IntKind.bits,sortT,eqNil,closedL,allByte,patch,pendOK,numA,Value.cells,Value.oneCell',ibin,List.replicate,Option.elim,Nat.reduceAdd,Nat.reduceSub,Nat.reduceMul,Nat.reduceLT,Nat.reduceEqDiff,Nat.reduceLeDiff,Nat.reduceBEq,Int.reduceLE,Int.reduceLT,Int.reduceToNat,Int.reduceBNe,Int.reduceBEq,Int.reduceNeg,Int.reduceEq,Int.reduceNe,Nat.reduceBNe,Int.reduceAdd,Int.reduceSub,Int.reduceMul,Int.reducePow,Nat.reducePow,Int.reduceGT,Int.reduceGE,if_true,if_false,ite_true,ite_false,beq_self_eq_true,BEq.rfl,reduceCtorEq,eq_self,ne_eq,Function.comp_def,beq_iff_eq]
    refine q_Same (n := n + 10) (rT gte) (rT gte0) (rB gbe) (rB gbe0) gte.one gte0.one gbe.one gbe0.one hL' hm fun sf gf => ?_
    have if_ := ie.grw gf
    simp only [gtc.one.1, gtc.one.2, gbc.one.1, gbc.one.2, o1, o2, o3, o4, cb, mb, cc, mc, cd, md, ce, me, gc, gd, ge, gf, beq_self_eq_true, evf,↓evp,evq,evr,fxa0,fxa1,fxa2,fxa3,fxa4,fxu,fxn,fxl,↓fxp,lgc,absL,fitL,flatL,ares,ares1,ofVal,unSc,aload,afill,splice,abound,asI,elems,IntKind.bits,sortT,eqNil,closedL,allByte,patch,pendOK,numA,Value.cells,Value.oneCell',ibin,List.replicate,Option.elim,Nat.reduceAdd,Nat.reduceSub,Nat.reduceMul,Nat.reduceLT,Nat.reduceEqDiff,Nat.reduceLeDiff,Nat.reduceBEq,Int.reduceLE,Int.reduceLT,Int.reduceToNat,Int.reduceBNe,Int.reduceBEq,Int.reduceNeg,Int.reduceEq,Int.reduceNe,Nat.reduceBNe,Int.reduceAdd,Int.reduceSub,Int.reduceMul,Int.reducePow,Nat.reducePow,Int.reduceGT,Int.reduceGE,if_true,if_false,ite_true,ite_false,beq_self_eq_true,BEq.rfl,reduceCtorEq,eq_self,ne_eq,Function.comp_def,beq_iff_eq]
    refine w_Epoch1 (n := n + 9) if_ ?_
    have e0 : (((([] : List R4).length : Nat) : Int) == 0) = true := rfl
    simp only [gtc.one.1, gtc.one.2, gbc.one.1, gbc.one.2, o1, o2, o3, o4, cb, mb, cc, mc, cd, md, ce, me, gc, gd, ge, gf, e0, beq_self_eq_true, evf,↓evp,evq,evr,fxa0,fxa1,fxa2,fxa3,fxa4,fxu,fxn,fxl,↓fxp,lgc,absL,fitL,flatL,ares,ares1,ofVal,unSc,aload,afill,splice,abound,asI,elems,IntKind.bits,sortT,eqNil,closedL,allByte,patch,pendOK,numA,Value.cells,Value.oneCell',ibin,List.replicate,Option.elim,Nat.reduceAdd,Nat.reduceSub,Nat.reduceMul,Nat.reduceLT,Nat.reduceEqDiff,Nat.reduceLeDiff,Nat.reduceBEq,Int.reduceLE,Int.reduceLT,Int.reduceToNat,Int.reduceBNe,Int.reduceBEq,Int.reduceNeg,Int.reduceEq,Int.reduceNe,Nat.reduceBNe,Int.reduceAdd,Int.reduceSub,Int.reduceMul,Int.reducePow,Nat.reducePow,Int.reduceGT,Int.reduceGE,if_true,if_false,ite_true,ite_false,beq_self_eq_true,BEq.rfl,reduceCtorEq,eq_self,ne_eq,Function.comp_def,beq_iff_eq]
    refine awake4 (n := n + 1) hm fun sg gg => ?_
    simp only [gg, gf, e0, beq_self_eq_true, evf,↓evp,evq,evr,fxa0,fxa1,fxa2,fxa3,fxa4,fxu,fxn,fxl,↓fxp,lgc,absL,fitL,flatL,ares,ares1,ofVal,unSc,aload,afill,splice,abound,asI,elems,IntKind.bits,sortT,eqNil,closedL,allByte,patch,pendOK,numA,Value.cells,Value.oneCell',ibin,List.replicate,Option.elim,Nat.reduceAdd,Nat.reduceSub,Nat.reduceMul,Nat.reduceLT,Nat.reduceEqDiff,Nat.reduceLeDiff,Nat.reduceBEq,Int.reduceLE,Int.reduceLT,Int.reduceToNat,Int.reduceBNe,Int.reduceBEq,Int.reduceNeg,Int.reduceEq,Int.reduceNe,Nat.reduceBNe,Int.reduceAdd,Int.reduceSub,Int.reduceMul,Int.reducePow,Nat.reducePow,Int.reduceGT,Int.reduceGE,if_true,if_false,ite_true,ite_false,beq_self_eq_true,BEq.rfl,reduceCtorEq,eq_self,ne_eq,Function.comp_def,beq_iff_eq]
    exact hK _
end
end Go.Proofs.Ytndjhaeeldegfaa
