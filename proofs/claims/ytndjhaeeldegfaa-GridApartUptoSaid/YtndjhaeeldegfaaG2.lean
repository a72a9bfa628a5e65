/- Chapter 3's reference: near, May, Last, Meet. -/
import Derived.Test.YtndjhaeeldegfaaG1
set_option linter.unusedVariables false
set_option linter.unusedSimpArgs false
set_option maxRecDepth 10000
namespace Go.Proofs.Ytndjhaeeldegfaa
open Go Go.M Go.RowKit
attribute [local congr] acallF_cong aloop_cong bcase_cong resK_cong valK_cong wantK_cong callK_cong xputK_cong qputK_cong resM_cong rfK_cong
attribute [local irreducible] seqK blockK loopK nextK bcase resK valK wantK funK putK dputK xputK qputK callK aops aop acode adraw aloop acallF acall invK resM rfK rfEnd rdEnd rdMid around
section
variable {n m : Nat} {st : List Ob} {K : V → List Ob → Prop} {x y w h x2 y2 w2 h2 : Int}
theorem r_near (hK : K (.sc (.bool (nearB x))) st) : acallF Try.prog pl (n + 1) m 124 [.sc (.int .i64 x)] st K := by
  refine acallF_inF Try.func124 rfl rfl Try.ntmps124 (by simp) ?_
  unfold nearB at hK
  cases e1 : decide (x ≥ -1048576) <;> simp only [e1, Bool.false_and, Bool.true_and] at hK <;> simp only [e1, evf,↓evp,evq,evr,fxa0,fxa1,fxa2,fxa3,fxa4,fxu,fxn,fxl,↓fxp,lgc,absL,fitL,flatL,ares,ares1,ofVal,unSc,aload,afill,splice,abound,asI,elems,IntKind.bits,sortT,eqNil,closedL,allByte,patch,pendOK,numA,Value.cells,Value.oneCell',ibin,List.replicate,Option.elim,Nat.reduceAdd,Nat.reduceSub,Nat.reduceMul,Nat.reduceLT,Nat.reduceEqDiff,Nat.reduceLeDiff,Nat.reduceBEq,Int.reduceLE,Int.reduceLT,Int.reduceToNat,Int.reduceBNe,Int.reduceBEq,Int.reduceNeg,Int.reduceEq,Int.reduceNe,Nat.reduceBNe,Int.reduceAdd,Int.reduceSub,Int.reduceMul,Int.reducePow,Nat.reducePow,Int.reduceGT,Int.reduceGE,if_true,if_false,ite_true,ite_false,beq_self_eq_true,BEq.rfl,reduceCtorEq,eq_self,ne_eq,Function.comp_def,beq_iff_eq] <;> exact hK
theorem r_Near (hK : ∀ s, Grw st s → K (.sc (.bool (nearB x && nearB y))) s) : acallF Try.prog pl (n + 2) m 107 [.agg (cl x y)] st K := by
  refine acallF_inF Try.func107 rfl rfl Try.ntmps107 (by simp) ?_
  have g0 := Grw.push st [.cells (cl x y)]
  have x0 : (st ++ [Ob.cells (cl x y)])[st.length]? = some (.cells (cl x y)) := get_new0 _ _
  simp only [cl] at g0 x0
  simp only [cl, x0, evf,↓evp,evq,evr,fxa0,fxa1,fxa2,fxa3,fxa4,fxu,fxn,fxl,↓fxp,lgc,absL,fitL,flatL,ares,ares1,ofVal,unSc,aload,afill,splice,abound,asI,elems,IntKind.bits,sortT,eqNil,closedL,allByte,patch,pendOK,numA,Value.cells,Value.oneCell',ibin,List.replicate,Option.elim,Nat.reduceAdd,Nat.reduceSub,Nat.reduceMul,Nat.reduceLT,Nat.reduceEqDiff,Nat.reduceLeDiff,Nat.reduceBEq,Int.reduceLE,Int.reduceLT,Int.reduceToNat,Int.reduceBNe,Int.reduceBEq,Int.reduceNeg,Int.reduceEq,Int.reduceNe,Nat.reduceBNe,Int.reduceAdd,Int.reduceSub,Int.reduceMul,Int.reducePow,Nat.reducePow,Int.reduceGT,Int.reduceGE,if_true,if_false,ite_true,ite_false,beq_self_eq_true,BEq.rfl,reduceCtorEq,eq_self,ne_eq,Function.comp_def,beq_iff_eq]
  refine r_near ?_
  cases e1 : nearB x
  · rw [e1] at hK
    simp only [x0, e1, evf,↓evp,evq,evr,fxa0,fxa1,fxa2,fxa3,fxa4,fxu,fxn,fxl,↓fxp,lgc,absL,fitL,flatL,ares,ares1,ofVal,unSc,aload,afill,splice,abound,asI,elems,IntKind.bits,sortT,eqNil,closedL,allByte,patch,pendOK,numA,Value.cells,Value.oneCell',ibin,List.replicate,Option.elim,Nat.reduceAdd,Nat.reduceSub,Nat.reduceMul,Nat.reduceLT,Nat.reduceEqDiff,Nat.reduceLeDiff,Nat.reduceBEq,Int.reduceLE,Int.reduceLT,Int.reduceToNat,Int.reduceBNe,Int.reduceBEq,Int.reduceNeg,Int.reduceEq,Int.reduceNe,Nat.reduceBNe,Int.reduceAdd,Int.reduceSub,Int.reduceMul,Int.reducePow,Nat.reducePow,Int.reduceGT,Int.reduceGE,if_true,if_false,ite_true,ite_false,beq_self_eq_true,BEq.rfl,reduceCtorEq,eq_self,ne_eq,Function.comp_def,beq_iff_eq]
    exact hK _ g0
  · rw [e1] at hK
    simp only [x0, e1, evf,↓evp,evq,evr,fxa0,fxa1,fxa2,fxa3,fxa4,fxu,fxn,fxl,↓fxp,lgc,absL,fitL,flatL,ares,ares1,ofVal,unSc,aload,afill,splice,abound,asI,elems,IntKind.bits,sortT,eqNil,closedL,allByte,patch,pendOK,numA,Value.cells,Value.oneCell',ibin,List.replicate,Option.elim,Nat.reduceAdd,Nat.reduceSub,Nat.reduceMul,Nat.reduceLT,Nat.reduceEqDiff,Nat.reduceLeDiff,Nat.reduceBEq,Int.reduceLE,Int.reduceLT,Int.reduceToNat,Int.reduceBNe,Int.reduceBEq,Int.reduceNeg,Int.reduceEq,Int.reduceNe,Nat.reduceBNe,Int.reduceAdd,Int.reduceSub,Int.reduceMul,Int.reducePow,Nat.reducePow,Int.reduceGT,Int.reduceGE,if_true,if_false,ite_true,ite_false,beq_self_eq_true,BEq.rfl,reduceCtorEq,eq_self,ne_eq,Function.comp_def,beq_iff_eq]
    refine r_near ?_
    simp only [x0, e1, evf,↓evp,evq,evr,fxa0,fxa1,fxa2,fxa3,fxa4,fxu,fxn,fxl,↓fxp,lgc,absL,fitL,flatL,ares,ares1,ofVal,unSc,aload,afill,splice,abound,asI,elems,IntKind.bits,sortT,eqNil,closedL,allByte,patch,pendOK,numA,Value.cells,Value.oneCell',ibin,List.replicate,Option.elim,Nat.reduceAdd,Nat.reduceSub,Nat.reduceMul,Nat.reduceLT,Nat.reduceEqDiff,Nat.reduceLeDiff,Nat.reduceBEq,Int.reduceLE,Int.reduceLT,Int.reduceToNat,Int.reduceBNe,Int.reduceBEq,Int.reduceNeg,Int.reduceEq,Int.reduceNe,Nat.reduceBNe,Int.reduceAdd,Int.reduceSub,Int.reduceMul,Int.reducePow,Nat.reducePow,Int.reduceGT,Int.reduceGE,if_true,if_false,ite_true,ite_false,beq_self_eq_true,BEq.rfl,reduceCtorEq,eq_self,ne_eq,Function.comp_def,beq_iff_eq]
    simp only [Bool.true_and] at hK
    exact hK _ g0
theorem r_Last (h1 : nearB x = true) (h2 : nearB y = true) (h3 : sideB w = true) (h4 : sideB h = true) (hK : ∀ s, Grw st s → K (.agg (cl (x + w - 1) (y + h - 1))) s) : acallF Try.prog pl (n + 1) m 92 [.agg (rc x y w h)] st K := by
  refine acallF_inF Try.func92 rfl rfl Try.ntmps92 (by simp) ?_
  simp only [nearB, sideB, Bool.and_eq_true, decide_eq_true_eq] at h1 h2 h3 h4
  have e1 : IntKind.i64.wrap (x + w) = x + w := wi64 (by omega) (by omega)
  have e2 : IntKind.i64.wrap (y + h) = y + h := wi64 (by omega) (by omega)
  have e3 : IntKind.i64.wrap (x + w - 1) = x + w - 1 := wi64 (by omega) (by omega)
  have e4 : IntKind.i64.wrap (y + h - 1) = y + h - 1 := wi64 (by omega) (by omega)
  have g0 := Grw.push st [.cells (rc x y w h), .cells (cl (x + w - 1) (y + h - 1))]
  simp only [rc, cl] at g0
  simp only [rc, cl, e1, e2, e3, e4, evf,↓evp,evq,evr,fxa0,fxa1,fxa2,fxa3,fxa4,fxu,fxn,fxl,↓fxp,lgc,absL,fitL,flatL,ares,ares1,ofVal,unSc,aload,afill,splice,abound,asI,elems,IntKind.bits,sortT,eqNil,closedL,allByte,patch,pendOK,numA,Value.cells,Value.oneCell',ibin,List.replicate,Option.elim,Nat.reduceAdd,Nat.reduceSub,Nat.reduceMul,Nat.reduceLT,Nat.reduceEqDiff,Nat.reduceLeDiff,Nat.reduceBEq,Int.reduceLE,Int.reduceLT,Int.reduceToNat,Int.reduceBNe,Int.reduceBEq,Int.reduceNeg,Int.reduceEq,Int.reduceNe,Nat.reduceBNe,Int.reduceAdd,Int.reduceSub,Int.reduceMul,Int.reducePow,Nat.reducePow,Int.reduceGT,Int.reduceGE,if_true,if_false,ite_true,ite_false,beq_self_eq_true,BEq.rfl,reduceCtorEq,eq_self,ne_eq,Function.comp_def,beq_iff_eq]
  exact hK _ g0
theorem r_May (hK : ∀ s, Grw st s → K (.sc (.bool (mayB x y w h))) s) : acallF Try.prog pl (n + 3) m 91 [.agg (rc x y w h)] st K := by
  refine acallF_inF Try.func91 rfl rfl Try.ntmps91 (by simp) ?_
  have g0 := Grw.push st [.cells (rc x y w h)]
  have x0 : (st ++ [Ob.cells (rc x y w h)])[st.length]? = some (.cells (rc x y w h)) := get_new0 _ _
  unfold mayB at hK
  simp only [rc] at g0 x0
  simp only [rc, x0, evf,↓evp,evq,evr,fxa0,fxa1,fxa2,fxa3,fxa4,fxu,fxn,fxl,↓fxp,lgc,absL,fitL,flatL,ares,ares1,ofVal,unSc,aload,afill,splice,abound,asI,elems,IntKind.bits,sortT,eqNil,closedL,allByte,patch,pendOK,numA,Value.cells,Value.oneCell',ibin,List.replicate,Option.elim,Nat.reduceAdd,Nat.reduceSub,Nat.reduceMul,Nat.reduceLT,Nat.reduceEqDiff,Nat.reduceLeDiff,Nat.reduceBEq,Int.reduceLE,Int.reduceLT,Int.reduceToNat,Int.reduceBNe,Int.reduceBEq,Int.reduceNeg,Int.reduceEq,Int.reduceNe,Nat.reduceBNe,Int.reduceAdd,Int.reduceSub,Int.reduceMul,Int.reducePow,Nat.reducePow,Int.reduceGT,Int.reduceGE,if_true,if_false,ite_true,ite_false,beq_self_eq_true,BEq.rfl,reduceCtorEq,eq_self,ne_eq,Function.comp_def,beq_iff_eq]
  refine r_Near fun s1 j1 => ?_
  have x1 := j1 _ _ x0
  have g1 := g0.trans j1
  cases e1 : nearB x && nearB y
  · simp only [e1, Bool.false_and] at hK
    simp only [x1, e1, evf,↓evp,evq,evr,fxa0,fxa1,fxa2,fxa3,fxa4,fxu,fxn,fxl,↓fxp,lgc,absL,fitL,flatL,ares,ares1,ofVal,unSc,aload,afill,splice,abound,asI,elems,IntKind.bits,sortT,eqNil,closedL,allByte,patch,pendOK,numA,Value.cells,Value.oneCell',ibin,List.replicate,Option.elim,Nat.reduceAdd,Nat.reduceSub,Nat.reduceMul,Nat.reduceLT,Nat.reduceEqDiff,Nat.reduceLeDiff,Nat.reduceBEq,Int.reduceLE,Int.reduceLT,Int.reduceToNat,Int.reduceBNe,Int.reduceBEq,Int.reduceNeg,Int.reduceEq,Int.reduceNe,Nat.reduceBNe,Int.reduceAdd,Int.reduceSub,Int.reduceMul,Int.reducePow,Nat.reducePow,Int.reduceGT,Int.reduceGE,if_true,if_false,ite_true,ite_false,beq_self_eq_true,BEq.rfl,reduceCtorEq,eq_self,ne_eq,Function.comp_def,beq_iff_eq]
    exact hK _ g1
  cases e2 : decide (w ≥ 1)
  · simp only [sideB, e1, e2, Bool.false_and, Bool.and_false] at hK
    simp only [x1, e1, e2, evf,↓evp,evq,evr,fxa0,fxa1,fxa2,fxa3,fxa4,fxu,fxn,fxl,↓fxp,lgc,absL,fitL,flatL,ares,ares1,ofVal,unSc,aload,afill,splice,abound,asI,elems,IntKind.bits,sortT,eqNil,closedL,allByte,patch,pendOK,numA,Value.cells,Value.oneCell',ibin,List.replicate,Option.elim,Nat.reduceAdd,Nat.reduceSub,Nat.reduceMul,Nat.reduceLT,Nat.reduceEqDiff,Nat.reduceLeDiff,Nat.reduceBEq,Int.reduceLE,Int.reduceLT,Int.reduceToNat,Int.reduceBNe,Int.reduceBEq,Int.reduceNeg,Int.reduceEq,Int.reduceNe,Nat.reduceBNe,Int.reduceAdd,Int.reduceSub,Int.reduceMul,Int.reducePow,Nat.reducePow,Int.reduceGT,Int.reduceGE,if_true,if_false,ite_true,ite_false,beq_self_eq_true,BEq.rfl,reduceCtorEq,eq_self,ne_eq,Function.comp_def,beq_iff_eq]
    exact hK _ g1
  cases e3 : decide (w ≤ 1048576)
  · simp only [sideB, e1, e2, e3, Bool.false_and, Bool.and_false] at hK
    simp only [x1, e1, e2, e3, evf,↓evp,evq,evr,fxa0,fxa1,fxa2,fxa3,fxa4,fxu,fxn,fxl,↓fxp,lgc,absL,fitL,flatL,ares,ares1,ofVal,unSc,aload,afill,splice,abound,asI,elems,IntKind.bits,sortT,eqNil,closedL,allByte,patch,pendOK,numA,Value.cells,Value.oneCell',ibin,List.replicate,Option.elim,Nat.reduceAdd,Nat.reduceSub,Nat.reduceMul,Nat.reduceLT,Nat.reduceEqDiff,Nat.reduceLeDiff,Nat.reduceBEq,Int.reduceLE,Int.reduceLT,Int.reduceToNat,Int.reduceBNe,Int.reduceBEq,Int.reduceNeg,Int.reduceEq,Int.reduceNe,Nat.reduceBNe,Int.reduceAdd,Int.reduceSub,Int.reduceMul,Int.reducePow,Nat.reducePow,Int.reduceGT,Int.reduceGE,if_true,if_false,ite_true,ite_false,beq_self_eq_true,BEq.rfl,reduceCtorEq,eq_self,ne_eq,Function.comp_def,beq_iff_eq]
    exact hK _ g1
  cases e4 : decide (h ≥ 1)
  · simp only [sideB, e1, e2, e3, e4, Bool.false_and, Bool.and_false] at hK
    simp only [x1, e1, e2, e3, e4, evf,↓evp,evq,evr,fxa0,fxa1,fxa2,fxa3,fxa4,fxu,fxn,fxl,↓fxp,lgc,absL,fitL,flatL,ares,ares1,ofVal,unSc,aload,afill,splice,abound,asI,elems,IntKind.bits,sortT,eqNil,closedL,allByte,patch,pendOK,numA,Value.cells,Value.oneCell',ibin,List.replicate,Option.elim,Nat.reduceAdd,Nat.reduceSub,Nat.reduceMul,Nat.reduceLT,Nat.reduceEqDiff,Nat.reduceLeDiff,Nat.reduceBEq,Int.reduceLE,Int.reduceLT,Int.reduceToNat,Int.reduceBNe,Int.reduceBEq,Int.reduceNeg,Int.reduceEq,Int.reduceNe,Nat.reduceBNe,Int.reduceAdd,Int.reduceSub,Int.reduceMul,Int.reducePow,Nat.reducePow,Int.reduceGT,Int.reduceGE,if_true,if_false,ite_true,ite_false,beq_self_eq_true,BEq.rfl,reduceCtorEq,eq_self,ne_eq,Function.comp_def,beq_iff_eq]
    exact hK _ g1
  cases e5 : decide (h ≤ 1048576)
  · simp only [sideB, e1, e2, e3, e4, e5, Bool.false_and, Bool.and_false] at hK
    simp only [x1, e1, e2, e3, e4, e5, evf,↓evp,evq,evr,fxa0,fxa1,fxa2,fxa3,fxa4,fxu,fxn,fxl,↓fxp,lgc,absL,fitL,flatL,ares,ares1,ofVal,unSc,aload,afill,splice,abound,asI,elems,IntKind.bits,sortT,eqNil,closedL,allByte,patch,pendOK,numA,Value.cells,Value.oneCell',ibin,List.replicate,Option.elim,Nat.reduceAdd,Nat.reduceSub,Nat.reduceMul,Nat.reduceLT,Nat.reduceEqDiff,Nat.reduceLeDiff,Nat.reduceBEq,Int.reduceLE,Int.reduceLT,Int.reduceToNat,Int.reduceBNe,Int.reduceBEq,Int.reduceNeg,Int.reduceEq,Int.reduceNe,Nat.reduceBNe,Int.reduceAdd,Int.reduceSub,Int.reduceMul,Int.reducePow,Nat.reducePow,Int.reduceGT,Int.reduceGE,if_true,if_false,ite_true,ite_false,beq_self_eq_true,BEq.rfl,reduceCtorEq,eq_self,ne_eq,Function.comp_def,beq_iff_eq]
    exact hK _ g1
  simp only [x1, e1, e2, e3, e4, e5, evf,↓evp,evq,evr,fxa0,fxa1,fxa2,fxa3,fxa4,fxu,fxn,fxl,↓fxp,lgc,absL,fitL,flatL,ares,ares1,ofVal,unSc,aload,afill,splice,abound,asI,elems,IntKind.bits,sortT,eqNil,closedL,allByte,patch,pendOK,numA,Value.cells,Value.oneCell',ibin,List.replicate,Option.elim,Nat.reduceAdd,Nat.reduceSub,Nat.reduceMul,Nat.reduceLT,Nat.reduceEqDiff,Nat.reduceLeDiff,Nat.reduceBEq,Int.reduceLE,Int.reduceLT,Int.reduceToNat,Int.reduceBNe,Int.reduceBEq,Int.reduceNeg,Int.reduceEq,Int.reduceNe,Nat.reduceBNe,Int.reduceAdd,Int.reduceSub,Int.reduceMul,Int.reducePow,Nat.reducePow,Int.reduceGT,Int.reduceGE,if_true,if_false,ite_true,ite_false,beq_self_eq_true,BEq.rfl,reduceCtorEq,eq_self,ne_eq,Function.comp_def,beq_iff_eq]
  simp only [Bool.and_eq_true] at e1
  refine r_Last e1.1 e1.2 (by simp only [sideB, e2, e3, Bool.true_and]) (by simp only [sideB, e4, e5, Bool.true_and]) fun s2 j2 => ?_
  have x2 := j2 _ _ x1
  simp only [x2, evf,↓evp,evq,evr,fxa0,fxa1,fxa2,fxa3,fxa4,fxu,fxn,fxl,↓fxp,lgc,absL,fitL,flatL,ares,ares1,ofVal,unSc,aload,afill,splice,abound,asI,elems,IntKind.bits,sortT,eqNil,closedL,allByte,patch,pendOK,numA,Value.cells,Value.oneCell',ibin,List.replicate,Option.elim,Nat.reduceAdd,Nat.reduceSub,Nat.reduceMul,Nat.reduceLT,Nat.reduceEqDiff,Nat.reduceLeDiff,Nat.reduceBEq,Int.reduceLE,Int.reduceLT,Int.reduceToNat,Int.reduceBNe,Int.reduceBEq,Int.reduceNeg,Int.reduceEq,Int.reduceNe,Nat.reduceBNe,Int.reduceAdd,Int.reduceSub,Int.reduceMul,Int.reducePow,Nat.reducePow,Int.reduceGT,Int.reduceGE,if_true,if_false,ite_true,ite_false,beq_self_eq_true,BEq.rfl,reduceCtorEq,eq_self,ne_eq,Function.comp_def,beq_iff_eq]
  refine r_Near fun s3 j3 => ?_
  simp only [sideB, e1.1, e1.2, e2, e3, e4, e5, Bool.true_and] at hK
  simp only [evf,↓evp,evq,evr,fxa0,fxa1,fxa2,fxa3,fxa4,fxu,fxn,fxl,↓fxp,lgc,absL,fitL,flatL,ares,ares1,ofVal,unSc,aload,afill,splice,abound,asI,elems,IntKind.bits,sortT,eqNil,closedL,allByte,patch,pendOK,numA,Value.cells,Value.oneCell',ibin,List.replicate,Option.elim,Nat.reduceAdd,Nat.reduceSub,Nat.reduceMul,Nat.reduceLT,Nat.reduceEqDiff,Nat.reduceLeDiff,Nat.reduceBEq,Int.reduceLE,Int.reduceLT,Int.reduceToNat,Int.reduceBNe,Int.reduceBEq,Int.reduceNeg,Int.reduceEq,Int.reduceNe,Nat.reduceBNe,Int.reduceAdd,Int.reduceSub,Int.reduceMul,Int.reducePow,Nat.reducePow,Int.reduceGT,Int.reduceGE,if_true,if_false,ite_true,ite_false,beq_self_eq_true,BEq.rfl,reduceCtorEq,eq_self,ne_eq,Function.comp_def,beq_iff_eq]
  exact hK _ ((g1.trans j2).trans j3)
def mx (a b : Int) : Int := if b > a then b else a
def mn (a b : Int) : Int := if b < a then b else a
/-- Have two rectangles that may be a cell in common? -/
def lapB (x y w h x2 y2 w2 h2 : Int) : Bool := !(decide (mn (x + w - 1) (x2 + w2 - 1) < mx x x2) || decide (mn (y + h - 1) (y2 + h2 - 1) < mx y y2))
def meetB (x y w h x2 y2 w2 h2 : Int) : Bool := mayB x y w h && mayB x2 y2 w2 h2 && lapB x y w h x2 y2 w2 h2
set_option maxHeartbeats 4000000 in
theorem r_Meet (hK : ∀ a b c d s, Grw st s → K (.tup [.agg (rc a b c d), .sc (.bool (meetB x y w h x2 y2 w2 h2))]) s) : acallF Try.prog pl (n + 4) m 109 [.agg (rc x y w h), .agg (rc x2 y2 w2 h2)] st K := by
  refine acallF_inF Try.func109 rfl rfl Try.ntmps109 (by simp) ?_
  have g0 := Grw.push st [.cells (rc x y w h), .cells (rc x2 y2 w2 h2), .cells (rc 0 0 0 0)]
  have x0 : (st ++ [Ob.cells (rc x y w h), .cells (rc x2 y2 w2 h2), .cells (rc 0 0 0 0)])[st.length]? = some (.cells (rc x y w h)) := get_new _ _ 0
  have x0' : (st ++ [Ob.cells (rc x y w h), .cells (rc x2 y2 w2 h2), .cells (rc 0 0 0 0)])[st.length + 1]? = some (.cells (rc x2 y2 w2 h2)) := get_new _ _ 1
  have x0'' : (st ++ [Ob.cells (rc x y w h), .cells (rc x2 y2 w2 h2), .cells (rc 0 0 0 0)])[st.length + 2]? = some (.cells (rc 0 0 0 0)) := get_new _ _ 2
  unfold meetB at hK
  simp only [rc] at g0 x0 x0' x0''
  simp only [rc, x0, x0', evf,↓evp,evq,evr,fxa0,fxa1,fxa2,fxa3,fxa4,fxu,fxn,fxl,↓fxp,lgc,absL,fitL,flatL,ares,ares1,ofVal,unSc,aload,afill,splice,abound,asI,elems,IntKind.bits,sortT,eqNil,closedL,allByte,patch,pendOK,numA,Value.cells,Value.oneCell',ibin,List.replicate,Option.elim,Nat.reduceAdd,Nat.reduceSub,Nat.reduceMul,Nat.reduceLT,Nat.reduceEqDiff,Nat.reduceLeDiff,Nat.reduceBEq,Int.reduceLE,Int.reduceLT,Int.reduceToNat,Int.reduceBNe,Int.reduceBEq,Int.reduceNeg,Int.reduceEq,Int.reduceNe,Nat.reduceBNe,Int.reduceAdd,Int.reduceSub,Int.reduceMul,Int.reducePow,Nat.reducePow,Int.reduceGT,Int.reduceGE,if_true,if_false,ite_true,ite_false,beq_self_eq_true,BEq.rfl,reduceCtorEq,eq_self,ne_eq,Function.comp_def,beq_iff_eq]
  refine r_May (n := n) fun s1 j1 => ?_
  have x1 := j1 _ _ x0
  have x1' := j1 _ _ x0'
  have x1'' := j1 _ _ x0''
  have g1 := g0.trans j1
  have stn : ∀ (s : List Ob) (o : Ob), Grw st s → Grw st (s.set (st.length + 2) o) := fun s o h => h.set (by omega) o
  cases e1 : mayB x y w h
  · have y1 : ∀ o, (s1.set (st.length + 2) o)[st.length + 2]? = some o := fun o => get_set x1'' o
    simp only [e1, Bool.false_and] at hK
    simp only [x1, x1', x1'', y1, e1, evf,↓evp,evq,evr,fxa0,fxa1,fxa2,fxa3,fxa4,fxu,fxn,fxl,↓fxp,lgc,absL,fitL,flatL,ares,ares1,ofVal,unSc,aload,afill,splice,abound,asI,elems,IntKind.bits,sortT,eqNil,closedL,allByte,patch,pendOK,numA,Value.cells,Value.oneCell',ibin,List.replicate,Option.elim,Nat.reduceAdd,Nat.reduceSub,Nat.reduceMul,Nat.reduceLT,Nat.reduceEqDiff,Nat.reduceLeDiff,Nat.reduceBEq,Int.reduceLE,Int.reduceLT,Int.reduceToNat,Int.reduceBNe,Int.reduceBEq,Int.reduceNeg,Int.reduceEq,Int.reduceNe,Nat.reduceBNe,Int.reduceAdd,Int.reduceSub,Int.reduceMul,Int.reducePow,Nat.reducePow,Int.reduceGT,Int.reduceGE,if_true,if_false,ite_true,ite_false,beq_self_eq_true,BEq.rfl,reduceCtorEq,eq_self,ne_eq,Function.comp_def,beq_iff_eq]
    exact hK 0 0 0 0 _ (stn _ _ g1)
  simp only [x1, x1', x1'', e1, evf,↓evp,evq,evr,fxa0,fxa1,fxa2,fxa3,fxa4,fxu,fxn,fxl,↓fxp,lgc,absL,fitL,flatL,ares,ares1,ofVal,unSc,aload,afill,splice,abound,asI,elems,IntKind.bits,sortT,eqNil,closedL,allByte,patch,pendOK,numA,Value.cells,Value.oneCell',ibin,List.replicate,Option.elim,Nat.reduceAdd,Nat.reduceSub,Nat.reduceMul,Nat.reduceLT,Nat.reduceEqDiff,Nat.reduceLeDiff,Nat.reduceBEq,Int.reduceLE,Int.reduceLT,Int.reduceToNat,Int.reduceBNe,Int.reduceBEq,Int.reduceNeg,Int.reduceEq,Int.reduceNe,Nat.reduceBNe,Int.reduceAdd,Int.reduceSub,Int.reduceMul,Int.reducePow,Nat.reducePow,Int.reduceGT,Int.reduceGE,if_true,if_false,ite_true,ite_false,beq_self_eq_true,BEq.rfl,reduceCtorEq,eq_self,ne_eq,Function.comp_def,beq_iff_eq]
  refine r_May (n := n) fun s2 j2 => ?_
  have z2 := j2 _ _ x1
  have z2' := j2 _ _ x1'
  have z2'' := j2 _ _ x1''
  have g2 := g1.trans j2
  have y2'' : ∀ o, (s2.set (st.length + 2) o)[st.length + 2]? = some o := fun o => get_set z2'' o
  cases e2 : mayB x2 y2 w2 h2
  · simp only [e1, e2, Bool.false_and, Bool.and_false] at hK
    simp only [z2, z2', z2'', y2'', e1, e2, evf,↓evp,evq,evr,fxa0,fxa1,fxa2,fxa3,fxa4,fxu,fxn,fxl,↓fxp,lgc,absL,fitL,flatL,ares,ares1,ofVal,unSc,aload,afill,splice,abound,asI,elems,IntKind.bits,sortT,eqNil,closedL,allByte,patch,pendOK,numA,Value.cells,Value.oneCell',ibin,List.replicate,Option.elim,Nat.reduceAdd,Nat.reduceSub,Nat.reduceMul,Nat.reduceLT,Nat.reduceEqDiff,Nat.reduceLeDiff,Nat.reduceBEq,Int.reduceLE,Int.reduceLT,Int.reduceToNat,Int.reduceBNe,Int.reduceBEq,Int.reduceNeg,Int.reduceEq,Int.reduceNe,Nat.reduceBNe,Int.reduceAdd,Int.reduceSub,Int.reduceMul,Int.reducePow,Nat.reducePow,Int.reduceGT,Int.reduceGE,if_true,if_false,ite_true,ite_false,beq_self_eq_true,BEq.rfl,reduceCtorEq,eq_self,ne_eq,Function.comp_def,beq_iff_eq]
    exact hK 0 0 0 0 _ (stn _ _ g2)
  obtain ⟨fx, fy, fw, fh, fx2, fy2⟩ := may_facts e1
  obtain ⟨ex, ey, ew, eh, ex2, ey2⟩ := may_facts e2
  have m1 := e1
  have m2 := e2
  simp only [mayB, Bool.and_eq_true] at m1 m2
  simp only [e1, e2, Bool.true_and, lapB] at hK
  have q0 := Grw.push s2 [Ob.gone, Ob.gone]
  have v2 := q0 _ _ z2
  have v2' := q0 _ _ z2'
  have v2'' := q0 _ _ z2''
  cases d1 : decide (x2 > x)
  all_goals cases d2 : decide (y2 > y)
  all_goals
    simp only [z2, z2', z2'', v2, v2', v2'', e2, d1, d2, evf,↓evp,evq,evr,fxa0,fxa1,fxa2,fxa3,fxa4,fxu,fxn,fxl,↓fxp,lgc,absL,fitL,flatL,ares,ares1,ofVal,unSc,aload,afill,splice,abound,asI,elems,IntKind.bits,sortT,eqNil,closedL,allByte,patch,pendOK,numA,Value.cells,Value.oneCell',ibin,List.replicate,Option.elim,Nat.reduceAdd,Nat.reduceSub,Nat.reduceMul,Nat.reduceLT,Nat.reduceEqDiff,Nat.reduceLeDiff,Nat.reduceBEq,Int.reduceLE,Int.reduceLT,Int.reduceToNat,Int.reduceBNe,Int.reduceBEq,Int.reduceNeg,Int.reduceEq,Int.reduceNe,Nat.reduceBNe,Int.reduceAdd,Int.reduceSub,Int.reduceMul,Int.reducePow,Nat.reducePow,Int.reduceGT,Int.reduceGE,if_true,if_false,ite_true,ite_false,beq_self_eq_true,BEq.rfl,reduceCtorEq,eq_self,ne_eq,Function.comp_def,beq_iff_eq]
    refine r_Last m1.1.1.1.1 m1.1.1.1.2 m1.1.1.2 m1.1.2 fun s3 j3 => ?_
    have w3 := j3 _ _ v2
    have w3' := j3 _ _ v2'
    have w3'' := j3 _ _ v2''
    simp only [z2, z2', z2'', v2, v2', v2'', w3, w3', w3'', evf,↓evp,evq,evr,fxa0,fxa1,fxa2,fxa3,fxa4,fxu,fxn,fxl,↓fxp,lgc,absL,fitL,flatL,ares,ares1,ofVal,unSc,aload,afill,splice,abound,asI,elems,IntKind.bits,sortT,eqNil,closedL,allByte,patch,pendOK,numA,Value.cells,Value.oneCell',ibin,List.replicate,Option.elim,Nat.reduceAdd,Nat.reduceSub,Nat.reduceMul,Nat.reduceLT,Nat.reduceEqDiff,Nat.reduceLeDiff,Nat.reduceBEq,Int.reduceLE,Int.reduceLT,Int.reduceToNat,Int.reduceBNe,Int.reduceBEq,Int.reduceNeg,Int.reduceEq,Int.reduceNe,Nat.reduceBNe,Int.reduceAdd,Int.reduceSub,Int.reduceMul,Int.reducePow,Nat.reducePow,Int.reduceGT,Int.reduceGE,if_true,if_false,ite_true,ite_false,beq_self_eq_true,BEq.rfl,reduceCtorEq,eq_self,ne_eq,Function.comp_def,beq_iff_eq]
    refine r_Last m2.1.1.1.1 m2.1.1.1.2 m2.1.1.2 m2.1.2 fun s4 j4 => ?_
    have w4 := j4 _ _ w3
    have w4' := j4 _ _ w3'
    have w4'' := j4 _ _ w3''
    have gg : Grw (s2 ++ [Ob.gone, Ob.gone]) s4 := j3.trans j4
    have p0 : s4[s2.length]? = some Ob.gone := gg _ _ (get_new0 _ _)
    have p1 : s4[s2.length + 1]? = some Ob.gone := gg _ _ (get_new _ _ 1)
    have ha : s2.length < s4.length := (List.getElem?_eq_some_iff.1 p0).1
    have hb : s2.length + 1 < s4.length := (List.getElem?_eq_some_iff.1 p1).1
    have hs : st.length + 2 < s2.length := (List.getElem?_eq_some_iff.1 z2'').1
    have n1 : (s2.length = s2.length + 1) = False := eq_false (by omega)
    have n2 : (s2.length + 1 = s2.length) = False := eq_false (by omega)
    have n3 : (s2.length = st.length) = False := eq_false (by omega)
    have n4 : (s2.length = st.length + 1) = False := eq_false (by omega)
    have n5 : (s2.length = st.length + 2) = False := eq_false (by omega)
    have n6 : (s2.length + 1 = st.length) = False := eq_false (by omega)
    have n7 : (s2.length + 1 = st.length + 1) = False := eq_false (by omega)
    have n8 : (s2.length + 1 = st.length + 2) = False := eq_false (by omega)
    have n9 : (st.length + 2 = st.length + 2) = True := eq_true rfl
    have hc : st.length + 2 < s4.length := (List.getElem?_eq_some_iff.1 w4'').1
    have hg : Grw st s4 := (g2.trans q0).trans gg
    cases d3 : decide (x2 + w2 - 1 < x + w - 1)
    all_goals cases d4 : decide (y2 + h2 - 1 < y + h - 1)
    all_goals cases d5 : decide (mn (x + w - 1) (x2 + w2 - 1) < mx x x2)
    all_goals cases d6 : decide (mn (y + h - 1) (y2 + h2 - 1) < mx y y2)
    all_goals
      have d1' := d1
      have d2' := d2
      have d3' := d3
      have d4' := d4
      simp only [decide_eq_true_eq, decide_eq_false_iff_not] at d1' d2' d3' d4'
      simp only [d5, d6, rc] at hK
      simp only [mx, mn, d1', d2', d3', d4', if_true, if_false] at d5 d6
      simp only [cl, List.getElem?_set, List.length_set, if_true, if_false, n1, n2, n3, n4, n5, n6, n7, n8, n9, ha, hb, hc, p0, p1, z2, z2', z2'', v2, v2', v2'', w3, w3', w3'', w4, w4', w4'', d3, d4, d5, d6, evf,↓evp,evq,evr,fxa0,fxa1,fxa2,fxa3,fxa4,fxu,fxn,fxl,↓fxp,lgc,absL,fitL,flatL,ares,ares1,ofVal,unSc,aload,afill,splice,abound,asI,elems,IntKind.bits,sortT,eqNil,closedL,allByte,patch,pendOK,numA,Value.cells,Value.oneCell',ibin,List.replicate,Option.elim,Nat.reduceAdd,Nat.reduceSub,Nat.reduceMul,Nat.reduceLT,Nat.reduceEqDiff,Nat.reduceLeDiff,Nat.reduceBEq,Int.reduceLE,Int.reduceLT,Int.reduceToNat,Int.reduceBNe,Int.reduceBEq,Int.reduceNeg,Int.reduceEq,Int.reduceNe,Nat.reduceBNe,Int.reduceAdd,Int.reduceSub,Int.reduceMul,Int.reducePow,Nat.reducePow,Int.reduceGT,Int.reduceGE,if_true,if_false,ite_true,ite_false,beq_self_eq_true,BEq.rfl,reduceCtorEq,eq_self,ne_eq,Function.comp_def,beq_iff_eq]
      refine hK _ _ _ _ _ ?_
      repeat' (first | exact hg | refine Grw.set ?_ (by omega) _)
end
end Go.Proofs.Ytndjhaeeldegfaa
