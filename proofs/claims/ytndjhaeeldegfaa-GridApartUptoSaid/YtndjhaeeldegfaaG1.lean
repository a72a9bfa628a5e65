/- Chapter 3: tests of cells and rectangles, a rectangle's cells; maps with numbers and cells for keys. -/
import Derived.Test.YtndjhaeeldegfaaKitF
set_option linter.unusedVariables false
set_option linter.unusedSimpArgs false
set_option maxRecDepth 10000
namespace Go.Proofs.Ytndjhaeeldegfaa
open Go Go.M Go.RowKit
attribute [local congr] acallF_cong aloop_cong bcase_cong resK_cong valK_cong wantK_cong callK_cong xputK_cong qputK_cong resM_cong rfK_cong
attribute [local irreducible] seqK blockK loopK nextK bcase resK valK wantK funK putK dputK xputK qputK callK aops aop acode adraw aloop acallF acall invK resM rfK rfEnd rdEnd rdMid around
section
variable {n m : Nat} {st : List Ob} {K : V → List Ob → Prop} {x y w h : Int}
def nearB (x : Int) : Bool := decide (x ≥ -1048576) && decide (x ≤ 1048576)
def sideB (x : Int) : Bool := decide (x ≥ 1) && decide (x ≤ 1048576)
theorem c_near (hK : K (.sc (.bool (nearB x))) st) : acallF Try.prog pl (n + 1) m 123 [.sc (.int .i64 x)] st K := by
  refine acallF_inF Try.func123 rfl rfl Try.ntmps123 (by simp) ?_
  unfold nearB at hK
  cases e1 : decide (x ≥ -1048576) <;> simp only [e1, Bool.false_and, Bool.true_and] at hK <;> simp only [e1, evf,↓evp,evq,evr,fxa0,fxa1,fxa2,fxa3,fxa4,fxu,fxn,fxl,↓fxp,lgc,absL,fitL,flatL,ares,ares1,ofVal,unSc,aload,afill,splice,abound,asI,elems,IntKind.bits,sortT,eqNil,closedL,allByte,patch,pendOK,numA,Value.cells,Value.oneCell',ibin,List.replicate,Option.elim,Nat.reduceAdd,Nat.reduceSub,Nat.reduceMul,Nat.reduceLT,Nat.reduceEqDiff,Nat.reduceLeDiff,Nat.reduceBEq,Int.reduceLE,Int.reduceLT,Int.reduceToNat,Int.reduceBNe,Int.reduceBEq,Int.reduceNeg,Int.reduceEq,Int.reduceNe,Nat.reduceBNe,Int.reduceAdd,Int.reduceSub,Int.reduceMul,Int.reducePow,Nat.reducePow,Int.reduceGT,Int.reduceGE,if_true,if_false,ite_true,ite_false,beq_self_eq_true,BEq.rfl,reduceCtorEq,eq_self,ne_eq,Function.comp_def,beq_iff_eq] <;> exact hK
theorem c_side (hK : K (.sc (.bool (sideB x))) st) : acallF Try.prog pl (n + 1) m 106 [.sc (.int .i64 x)] st K := by
  refine acallF_inF Try.func106 rfl rfl Try.ntmps106 (by simp) ?_
  unfold sideB at hK
  cases e1 : decide (x ≥ 1) <;> simp only [e1, Bool.false_and, Bool.true_and] at hK <;> simp only [e1, evf,↓evp,evq,evr,fxa0,fxa1,fxa2,fxa3,fxa4,fxu,fxn,fxl,↓fxp,lgc,absL,fitL,flatL,ares,ares1,ofVal,unSc,aload,afill,splice,abound,asI,elems,IntKind.bits,sortT,eqNil,closedL,allByte,patch,pendOK,numA,Value.cells,Value.oneCell',ibin,List.replicate,Option.elim,Nat.reduceAdd,Nat.reduceSub,Nat.reduceMul,Nat.reduceLT,Nat.reduceEqDiff,Nat.reduceLeDiff,Nat.reduceBEq,Int.reduceLE,Int.reduceLT,Int.reduceToNat,Int.reduceBNe,Int.reduceBEq,Int.reduceNeg,Int.reduceEq,Int.reduceNe,Nat.reduceBNe,Int.reduceAdd,Int.reduceSub,Int.reduceMul,Int.reducePow,Nat.reducePow,Int.reduceGT,Int.reduceGE,if_true,if_false,ite_true,ite_false,beq_self_eq_true,BEq.rfl,reduceCtorEq,eq_self,ne_eq,Function.comp_def,beq_iff_eq] <;> exact hK
def cl (x y : Int) : List V := [.sc (.int .i64 x), .sc (.int .i64 y)]
def rc (x y w h : Int) : List V := [.sc (.int .i64 x), .sc (.int .i64 y), .sc (.int .i64 w), .sc (.int .i64 h)]
theorem c_Near (hK : ∀ s, Grw st s → K (.sc (.bool (nearB x && nearB y))) s) : acallF Try.prog pl (n + 2) m 105 [.agg (cl x y)] st K := by
  refine acallF_inF Try.func105 rfl rfl Try.ntmps105 (by simp) ?_
  have g0 := Grw.push st [.cells (cl x y)]
  have x0 : (st ++ [Ob.cells (cl x y)])[st.length]? = some (.cells (cl x y)) := get_new0 _ _
  simp only [cl] at g0 x0
  simp only [cl, x0, evf,↓evp,evq,evr,fxa0,fxa1,fxa2,fxa3,fxa4,fxu,fxn,fxl,↓fxp,lgc,absL,fitL,flatL,ares,ares1,ofVal,unSc,aload,afill,splice,abound,asI,elems,IntKind.bits,sortT,eqNil,closedL,allByte,patch,pendOK,numA,Value.cells,Value.oneCell',ibin,List.replicate,Option.elim,Nat.reduceAdd,Nat.reduceSub,Nat.reduceMul,Nat.reduceLT,Nat.reduceEqDiff,Nat.reduceLeDiff,Nat.reduceBEq,Int.reduceLE,Int.reduceLT,Int.reduceToNat,Int.reduceBNe,Int.reduceBEq,Int.reduceNeg,Int.reduceEq,Int.reduceNe,Nat.reduceBNe,Int.reduceAdd,Int.reduceSub,Int.reduceMul,Int.reducePow,Nat.reducePow,Int.reduceGT,Int.reduceGE,if_true,if_false,ite_true,ite_false,beq_self_eq_true,BEq.rfl,reduceCtorEq,eq_self,ne_eq,Function.comp_def,beq_iff_eq]
  refine c_near ?_
  cases e1 : nearB x
  · rw [e1] at hK
    simp only [x0, e1, evf,↓evp,evq,evr,fxa0,fxa1,fxa2,fxa3,fxa4,fxu,fxn,fxl,↓fxp,lgc,absL,fitL,flatL,ares,ares1,ofVal,unSc,aload,afill,splice,abound,asI,elems,IntKind.bits,sortT,eqNil,closedL,allByte,patch,pendOK,numA,Value.cells,Value.oneCell',ibin,List.replicate,Option.elim,Nat.reduceAdd,Nat.reduceSub,Nat.reduceMul,Nat.reduceLT,Nat.reduceEqDiff,Nat.reduceLeDiff,Nat.reduceBEq,Int.reduceLE,Int.reduceLT,Int.reduceToNat,Int.reduceBNe,Int.reduceBEq,Int.reduceNeg,Int.reduceEq,Int.reduceNe,Nat.reduceBNe,Int.reduceAdd,Int.reduceSub,Int.reduceMul,Int.reducePow,Nat.reducePow,Int.reduceGT,Int.reduceGE,if_true,if_false,ite_true,ite_false,beq_self_eq_true,BEq.rfl,reduceCtorEq,eq_self,ne_eq,Function.comp_def,beq_iff_eq]
    exact hK _ g0
  · rw [e1] at hK
    simp only [x0, e1, evf,↓evp,evq,evr,fxa0,fxa1,fxa2,fxa3,fxa4,fxu,fxn,fxl,↓fxp,lgc,absL,fitL,flatL,ares,ares1,ofVal,unSc,aload,afill,splice,abound,asI,elems,IntKind.bits,sortT,eqNil,closedL,allByte,patch,pendOK,numA,Value.cells,Value.oneCell',ibin,List.replicate,Option.elim,Nat.reduceAdd,Nat.reduceSub,Nat.reduceMul,Nat.reduceLT,Nat.reduceEqDiff,Nat.reduceLeDiff,Nat.reduceBEq,Int.reduceLE,Int.reduceLT,Int.reduceToNat,Int.reduceBNe,Int.reduceBEq,Int.reduceNeg,Int.reduceEq,Int.reduceNe,Nat.reduceBNe,Int.reduceAdd,Int.reduceSub,Int.reduceMul,Int.reducePow,Nat.reducePow,Int.reduceGT,Int.reduceGE,if_true,if_false,ite_true,ite_false,beq_self_eq_true,BEq.rfl,reduceCtorEq,eq_self,ne_eq,Function.comp_def,beq_iff_eq]
    refine c_near ?_
    simp only [Bool.true_and] at hK
    simp only [evf,↓evp,evq,evr,fxa0,fxa1,fxa2,fxa3,fxa4,fxu,fxn,fxl,↓fxp,lgc,absL,fitL,flatL,ares,ares1,ofVal,unSc,aload,afill,splice,abound,asI,elems,IntKind.bits,sortT,eqNil,closedL,allByte,patch,pendOK,numA,Value.cells,Value.oneCell',ibin,List.replicate,Option.elim,Nat.reduceAdd,Nat.reduceSub,Nat.reduceMul,Nat.reduceLT,Nat.reduceEqDiff,Nat.reduceLeDiff,Nat.reduceBEq,Int.reduceLE,Int.reduceLT,Int.reduceToNat,Int.reduceBNe,Int.reduceBEq,Int.reduceNeg,Int.reduceEq,Int.reduceNe,Nat.reduceBNe,Int.reduceAdd,Int.reduceSub,Int.reduceMul,Int.reducePow,Nat.reducePow,Int.reduceGT,Int.reduceGE,if_true,if_false,ite_true,ite_false,beq_self_eq_true,BEq.rfl,reduceCtorEq,eq_self,ne_eq,Function.comp_def,beq_iff_eq]
    exact hK _ g0
theorem c_last (h1 : nearB x = true) (h2 : nearB y = true) (h3 : sideB w = true) (h4 : sideB h = true) (hK : ∀ s, Grw st s → K (.agg (cl (x + w - 1) (y + h - 1))) s) : acallF Try.prog pl (n + 1) m 90 [.agg (rc x y w h)] st K := by
  refine acallF_inF Try.func90 rfl rfl Try.ntmps90 (by simp) ?_
  simp only [nearB, sideB, Bool.and_eq_true, decide_eq_true_eq] at h1 h2 h3 h4
  have e1 : IntKind.i64.wrap (x + w) = x + w := wi64 (by omega) (by omega)
  have e2 : IntKind.i64.wrap (y + h) = y + h := wi64 (by omega) (by omega)
  have e3 : IntKind.i64.wrap (x + w - 1) = x + w - 1 := wi64 (by omega) (by omega)
  have e4 : IntKind.i64.wrap (y + h - 1) = y + h - 1 := wi64 (by omega) (by omega)
  have g0 := Grw.push st [.cells (rc x y w h), .cells (cl (x + w - 1) (y + h - 1))]
  simp only [rc, cl] at g0
  simp only [rc, cl, e1, e2, e3, e4, evf,↓evp,evq,evr,fxa0,fxa1,fxa2,fxa3,fxa4,fxu,fxn,fxl,↓fxp,lgc,absL,fitL,flatL,ares,ares1,ofVal,unSc,aload,afill,splice,abound,asI,elems,IntKind.bits,sortT,eqNil,closedL,allByte,patch,pendOK,numA,Value.cells,Value.oneCell',ibin,List.replicate,Option.elim,Nat.reduceAdd,Nat.reduceSub,Nat.reduceMul,Nat.reduceLT,Nat.reduceEqDiff,Nat.reduceLeDiff,Nat.reduceBEq,Int.reduceLE,Int.reduceLT,Int.reduceToNat,Int.reduceBNe,Int.reduceBEq,Int.reduceNeg,Int.reduceEq,Int.reduceNe,Nat.reduceBNe,Int.reduceAdd,Int.reduceSub,Int.reduceMul,Int.reducePow,Nat.reducePow,Int.reduceGT,Int.reduceGE,if_true,if_false,ite_true,ite_false,beq_self_eq_true,BEq.rfl,reduceCtorEq,eq_self,ne_eq,Function.comp_def,beq_iff_eq]
  exact hK _ g0
/-- A rectangle may be. -/
def mayB (x y w h : Int) : Bool := nearB x && nearB y && sideB w && sideB h && (nearB (x + w - 1) && nearB (y + h - 1))
theorem c_May (hK : ∀ s, Grw st s → K (.sc (.bool (mayB x y w h))) s) : acallF Try.prog pl (n + 3) m 89 [.agg (rc x y w h)] st K := by
  refine acallF_inF Try.func89 rfl rfl Try.ntmps89 (by simp) ?_
  have g0 := Grw.push st [.cells (rc x y w h)]
  have x0 : (st ++ [Ob.cells (rc x y w h)])[st.length]? = some (.cells (rc x y w h)) := get_new0 _ _
  unfold mayB at hK
  simp only [rc] at g0 x0
  simp only [rc, x0, evf,↓evp,evq,evr,fxa0,fxa1,fxa2,fxa3,fxa4,fxu,fxn,fxl,↓fxp,lgc,absL,fitL,flatL,ares,ares1,ofVal,unSc,aload,afill,splice,abound,asI,elems,IntKind.bits,sortT,eqNil,closedL,allByte,patch,pendOK,numA,Value.cells,Value.oneCell',ibin,List.replicate,Option.elim,Nat.reduceAdd,Nat.reduceSub,Nat.reduceMul,Nat.reduceLT,Nat.reduceEqDiff,Nat.reduceLeDiff,Nat.reduceBEq,Int.reduceLE,Int.reduceLT,Int.reduceToNat,Int.reduceBNe,Int.reduceBEq,Int.reduceNeg,Int.reduceEq,Int.reduceNe,Nat.reduceBNe,Int.reduceAdd,Int.reduceSub,Int.reduceMul,Int.reducePow,Nat.reducePow,Int.reduceGT,Int.reduceGE,if_true,if_false,ite_true,ite_false,beq_self_eq_true,BEq.rfl,reduceCtorEq,eq_self,ne_eq,Function.comp_def,beq_iff_eq]
  refine c_Near fun s1 j1 => ?_
  have x1 := j1 _ _ x0
  have g1 := g0.trans j1
  cases e1 : nearB x && nearB y
  · simp only [e1, Bool.false_and] at hK
    simp only [x1, e1, evf,↓evp,evq,evr,fxa0,fxa1,fxa2,fxa3,fxa4,fxu,fxn,fxl,↓fxp,lgc,absL,fitL,flatL,ares,ares1,ofVal,unSc,aload,afill,splice,abound,asI,elems,IntKind.bits,sortT,eqNil,closedL,allByte,patch,pendOK,numA,Value.cells,Value.oneCell',ibin,List.replicate,Option.elim,Nat.reduceAdd,Nat.reduceSub,Nat.reduceMul,Nat.reduceLT,Nat.reduceEqDiff,Nat.reduceLeDiff,Nat.reduceBEq,Int.reduceLE,Int.reduceLT,Int.reduceToNat,Int.reduceBNe,Int.reduceBEq,Int.reduceNeg,Int.reduceEq,Int.reduceNe,Nat.reduceBNe,Int.reduceAdd,Int.reduceSub,Int.reduceMul,Int.reducePow,Nat.reducePow,Int.reduceGT,Int.reduceGE,if_true,if_false,ite_true,ite_false,beq_self_eq_true,BEq.rfl,reduceCtorEq,eq_self,ne_eq,Function.comp_def,beq_iff_eq]
    exact hK _ g1
  simp only [x1, e1, evf,↓evp,evq,evr,fxa0,fxa1,fxa2,fxa3,fxa4,fxu,fxn,fxl,↓fxp,lgc,absL,fitL,flatL,ares,ares1,ofVal,unSc,aload,afill,splice,abound,asI,elems,IntKind.bits,sortT,eqNil,closedL,allByte,patch,pendOK,numA,Value.cells,Value.oneCell',ibin,List.replicate,Option.elim,Nat.reduceAdd,Nat.reduceSub,Nat.reduceMul,Nat.reduceLT,Nat.reduceEqDiff,Nat.reduceLeDiff,Nat.reduceBEq,Int.reduceLE,Int.reduceLT,Int.reduceToNat,Int.reduceBNe,Int.reduceBEq,Int.reduceNeg,Int.reduceEq,Int.reduceNe,Nat.reduceBNe,Int.reduceAdd,Int.reduceSub,Int.reduceMul,Int.reducePow,Nat.reducePow,Int.reduceGT,Int.reduceGE,if_true,if_false,ite_true,ite_false,beq_self_eq_true,BEq.rfl,reduceCtorEq,eq_self,ne_eq,Function.comp_def,beq_iff_eq]
  refine c_side ?_
  cases e2 : sideB w
  · simp only [e1, e2, Bool.false_and, Bool.and_false] at hK
    simp only [x1, e2, evf,↓evp,evq,evr,fxa0,fxa1,fxa2,fxa3,fxa4,fxu,fxn,fxl,↓fxp,lgc,absL,fitL,flatL,ares,ares1,ofVal,unSc,aload,afill,splice,abound,asI,elems,IntKind.bits,sortT,eqNil,closedL,allByte,patch,pendOK,numA,Value.cells,Value.oneCell',ibin,List.replicate,Option.elim,Nat.reduceAdd,Nat.reduceSub,Nat.reduceMul,Nat.reduceLT,Nat.reduceEqDiff,Nat.reduceLeDiff,Nat.reduceBEq,Int.reduceLE,Int.reduceLT,Int.reduceToNat,Int.reduceBNe,Int.reduceBEq,Int.reduceNeg,Int.reduceEq,Int.reduceNe,Nat.reduceBNe,Int.reduceAdd,Int.reduceSub,Int.reduceMul,Int.reducePow,Nat.reducePow,Int.reduceGT,Int.reduceGE,if_true,if_false,ite_true,ite_false,beq_self_eq_true,BEq.rfl,reduceCtorEq,eq_self,ne_eq,Function.comp_def,beq_iff_eq]
    exact hK _ g1
  simp only [x1, e2, evf,↓evp,evq,evr,fxa0,fxa1,fxa2,fxa3,fxa4,fxu,fxn,fxl,↓fxp,lgc,absL,fitL,flatL,ares,ares1,ofVal,unSc,aload,afill,splice,abound,asI,elems,IntKind.bits,sortT,eqNil,closedL,allByte,patch,pendOK,numA,Value.cells,Value.oneCell',ibin,List.replicate,Option.elim,Nat.reduceAdd,Nat.reduceSub,Nat.reduceMul,Nat.reduceLT,Nat.reduceEqDiff,Nat.reduceLeDiff,Nat.reduceBEq,Int.reduceLE,Int.reduceLT,Int.reduceToNat,Int.reduceBNe,Int.reduceBEq,Int.reduceNeg,Int.reduceEq,Int.reduceNe,Nat.reduceBNe,Int.reduceAdd,Int.reduceSub,Int.reduceMul,Int.reducePow,Nat.reducePow,Int.reduceGT,Int.reduceGE,if_true,if_false,ite_true,ite_false,beq_self_eq_true,BEq.rfl,reduceCtorEq,eq_self,ne_eq,Function.comp_def,beq_iff_eq]
  refine c_side ?_
  cases e3 : sideB h
  · simp only [e1, e2, e3, Bool.false_and, Bool.and_false] at hK
    simp only [x1, e3, evf,↓evp,evq,evr,fxa0,fxa1,fxa2,fxa3,fxa4,fxu,fxn,fxl,↓fxp,lgc,absL,fitL,flatL,ares,ares1,ofVal,unSc,aload,afill,splice,abound,asI,elems,IntKind.bits,sortT,eqNil,closedL,allByte,patch,pendOK,numA,Value.cells,Value.oneCell',ibin,List.replicate,Option.elim,Nat.reduceAdd,Nat.reduceSub,Nat.reduceMul,Nat.reduceLT,Nat.reduceEqDiff,Nat.reduceLeDiff,Nat.reduceBEq,Int.reduceLE,Int.reduceLT,Int.reduceToNat,Int.reduceBNe,Int.reduceBEq,Int.reduceNeg,Int.reduceEq,Int.reduceNe,Nat.reduceBNe,Int.reduceAdd,Int.reduceSub,Int.reduceMul,Int.reducePow,Nat.reducePow,Int.reduceGT,Int.reduceGE,if_true,if_false,ite_true,ite_false,beq_self_eq_true,BEq.rfl,reduceCtorEq,eq_self,ne_eq,Function.comp_def,beq_iff_eq]
    exact hK _ g1
  simp only [x1, e3, evf,↓evp,evq,evr,fxa0,fxa1,fxa2,fxa3,fxa4,fxu,fxn,fxl,↓fxp,lgc,absL,fitL,flatL,ares,ares1,ofVal,unSc,aload,afill,splice,abound,asI,elems,IntKind.bits,sortT,eqNil,closedL,allByte,patch,pendOK,numA,Value.cells,Value.oneCell',ibin,List.replicate,Option.elim,Nat.reduceAdd,Nat.reduceSub,Nat.reduceMul,Nat.reduceLT,Nat.reduceEqDiff,Nat.reduceLeDiff,Nat.reduceBEq,Int.reduceLE,Int.reduceLT,Int.reduceToNat,Int.reduceBNe,Int.reduceBEq,Int.reduceNeg,Int.reduceEq,Int.reduceNe,Nat.reduceBNe,Int.reduceAdd,Int.reduceSub,Int.reduceMul,Int.reducePow,Nat.reducePow,Int.reduceGT,Int.reduceGE,if_true,if_false,ite_true,ite_false,beq_self_eq_true,BEq.rfl,reduceCtorEq,eq_self,ne_eq,Function.comp_def,beq_iff_eq]
  simp only [Bool.and_eq_true] at e1
  refine c_last e1.1 e1.2 e2 e3 fun s2 j2 => ?_
  have x2 := j2 _ _ x1
  simp only [x2, evf,↓evp,evq,evr,fxa0,fxa1,fxa2,fxa3,fxa4,fxu,fxn,fxl,↓fxp,lgc,absL,fitL,flatL,ares,ares1,ofVal,unSc,aload,afill,splice,abound,asI,elems,IntKind.bits,sortT,eqNil,closedL,allByte,patch,pendOK,numA,Value.cells,Value.oneCell',ibin,List.replicate,Option.elim,Nat.reduceAdd,Nat.reduceSub,Nat.reduceMul,Nat.reduceLT,Nat.reduceEqDiff,Nat.reduceLeDiff,Nat.reduceBEq,Int.reduceLE,Int.reduceLT,Int.reduceToNat,Int.reduceBNe,Int.reduceBEq,Int.reduceNeg,Int.reduceEq,Int.reduceNe,Nat.reduceBNe,Int.reduceAdd,Int.reduceSub,Int.reduceMul,Int.reducePow,Nat.reducePow,Int.reduceGT,Int.reduceGE,if_true,if_false,ite_true,ite_false,beq_self_eq_true,BEq.rfl,reduceCtorEq,eq_self,ne_eq,Function.comp_def,beq_iff_eq]
  refine c_Near fun s3 j3 => ?_
  simp only [e1.1, e1.2, e2, e3, Bool.true_and] at hK
  simp only [evf,↓evp,evq,evr,fxa0,fxa1,fxa2,fxa3,fxa4,fxu,fxn,fxl,↓fxp,lgc,absL,fitL,flatL,ares,ares1,ofVal,unSc,aload,afill,splice,abound,asI,elems,IntKind.bits,sortT,eqNil,closedL,allByte,patch,pendOK,numA,Value.cells,Value.oneCell',ibin,List.replicate,Option.elim,Nat.reduceAdd,Nat.reduceSub,Nat.reduceMul,Nat.reduceLT,Nat.reduceEqDiff,Nat.reduceLeDiff,Nat.reduceBEq,Int.reduceLE,Int.reduceLT,Int.reduceToNat,Int.reduceBNe,Int.reduceBEq,Int.reduceNeg,Int.reduceEq,Int.reduceNe,Nat.reduceBNe,Int.reduceAdd,Int.reduceSub,Int.reduceMul,Int.reducePow,Nat.reducePow,Int.reduceGT,Int.reduceGE,if_true,if_false,ite_true,ite_false,beq_self_eq_true,BEq.rfl,reduceCtorEq,eq_self,ne_eq,Function.comp_def,beq_iff_eq]
  exact hK _ ((g1.trans j2).trans j3)
end
theorem set_new {st : List Ob} {o o' : Ob} : (st ++ [o]).set st.length o' = st ++ [o'] := by
  rw [List.set_append_right _ _ (Nat.le_refl _)]
  simp
theorem rf_done {S : List Ob} {a : Ob} {s : LoopState} {pl' : Nat → Option (List PI)} {t' t : List V} {ps' : List Tmp} {A B : Code} {K : ExK} {v : V} (hs : s ≠ .busy) (hk : K .normal t (S ++ [a, .loop .exhausted none pl' t' ps' A B])) : rfEnd (S.length + 1) K t v (S ++ [a, .loop s none pl' t' ps' A B]) := by
  refine rfEnd_normal (s := s) (pl' := pl') (t' := t') (ps' := ps') (a := A) (b := B) (by simp) hs ?_
  have : (S ++ [a, Ob.loop s none pl' t' ps' A B]).set (S.length + 1) (.loop .exhausted none pl' t' ps' A B) = S ++ [a, .loop .exhausted none pl' t' ps' A B] := by
    rw [List.set_append_right _ _ (by omega), Nat.add_sub_cancel_left]
    rfl
  rw [this]
  exact hk
theorem yl_fsz {n m N : Nat} {a : List V} {s : List Ob} {K : V → List Ob → Prop} (h : Try.prog.funcs.size = N) (q : acallF Try.prog pl n m Try.prog.funcs.size a s K) : acallF Try.prog pl n m N a s K := h ▸ q
theorem may_facts {x y w h : Int} (hm : mayB x y w h = true) : (-1048576 ≤ x ∧ x ≤ 1048576) ∧ (-1048576 ≤ y ∧ y ≤ 1048576) ∧ (1 ≤ w ∧ w ≤ 1048576) ∧ (1 ≤ h ∧ h ≤ 1048576) ∧ (x + w - 1 ≤ 1048576) ∧ (y + h - 1 ≤ 1048576) := by
  simp only [mayB, nearB, sideB, Bool.and_eq_true, decide_eq_true_eq] at hm
  omega
section
variable {n m : Nat} {st : List Ob} {K : V → List Ob → Prop} {x y : Int}
theorem c_Cells {w h : Int} (hK : K (.fn (.func 94) [.ref st.length 0]) (st ++ [.cells (rc x y w h)])) : acallF Try.prog pl (n + 1) m 71 [.agg (rc x y w h)] st K := by
  refine acallF_inF Try.func71 rfl rfl Try.ntmps71 (by simp) ?_
  simp only [rc] at hK
  simp only [rc, evf,↓evp,evq,evr,fxa0,fxa1,fxa2,fxa3,fxa4,fxu,fxn,fxl,↓fxp,lgc,absL,fitL,flatL,ares,ares1,ofVal,unSc,aload,afill,splice,abound,asI,elems,IntKind.bits,sortT,eqNil,closedL,allByte,patch,pendOK,numA,Value.cells,Value.oneCell',ibin,List.replicate,Option.elim,Nat.reduceAdd,Nat.reduceSub,Nat.reduceMul,Nat.reduceLT,Nat.reduceEqDiff,Nat.reduceLeDiff,Nat.reduceBEq,Int.reduceLE,Int.reduceLT,Int.reduceToNat,Int.reduceBNe,Int.reduceBEq,Int.reduceNeg,Int.reduceEq,Int.reduceNe,Nat.reduceBNe,Int.reduceAdd,Int.reduceSub,Int.reduceMul,Int.reducePow,Nat.reducePow,Int.reduceGT,Int.reduceGE,if_true,if_false,ite_true,ite_false,beq_self_eq_true,BEq.rfl,reduceCtorEq,eq_self,ne_eq,Function.comp_def,beq_iff_eq]
  exact hK
set_option maxHeartbeats 2000000 in
theorem c_Cells1 {l rb W H : Nat} {I : Nat → List Ob → Prop} {J : List Ob → Prop} (hmay : mayB x y W H = true) (hm : W < m) (hm2 : H < m)
    (keep : ∀ k s, I k s → s[rb]? = some (.cells (rc x y W H))) (grow : ∀ k s s', I k s → Grw s s' → I k s') (h0 : I 0 st)
    (step : ∀ (j i : Nat) (s : List Ob) (K' : V → List Ob → Prop), j < H → i < W → I (j * W + i) s → (∀ s', I (j * W + i + 1) s' → K' (.sc (.bool true)) s') → (∀ s', J s' → K' (.sc (.bool false)) s') → acallF Try.prog pl (n + 3) m Try.prog.funcs.size [.yl l, .agg (cl (x + i) (y + j))] s K')
    (hend : ∀ s, I (H * W) s → K (.tup []) s) (hstop : ∀ s, J s → K (.tup []) s) : acallF Try.prog pl (n + 4) m 94 [.yl l, .ref rb 0] st K := by
  refine acallF_inF Try.func94 rfl rfl Try.ntmps94 (by simp) ?_
  have c0 := keep _ _ h0
  obtain ⟨fx, fy, fw, fh, fx2, fy2⟩ := may_facts hmay
  simp only [rc] at c0
  simp only [c0, evf,↓evp,evq,evr,fxa0,fxa1,fxa2,fxa3,fxa4,fxu,fxn,fxl,↓fxp,lgc,absL,fitL,flatL,ares,ares1,ofVal,unSc,aload,afill,splice,abound,asI,elems,IntKind.bits,sortT,eqNil,closedL,allByte,patch,pendOK,numA,Value.cells,Value.oneCell',ibin,List.replicate,Option.elim,Nat.reduceAdd,Nat.reduceSub,Nat.reduceMul,Nat.reduceLT,Nat.reduceEqDiff,Nat.reduceLeDiff,Nat.reduceBEq,Int.reduceLE,Int.reduceLT,Int.reduceToNat,Int.reduceBNe,Int.reduceBEq,Int.reduceNeg,Int.reduceEq,Int.reduceNe,Nat.reduceBNe,Int.reduceAdd,Int.reduceSub,Int.reduceMul,Int.reducePow,Nat.reducePow,Int.reduceGT,Int.reduceGE,if_true,if_false,ite_true,ite_false,beq_self_eq_true,BEq.rfl,reduceCtorEq,eq_self,ne_eq,Function.comp_def,beq_iff_eq]
  refine c_May (n := n) fun s1 g1 => ?_
  have i1 := grow _ _ _ h0 g1
  have c1 := g1 _ _ c0
  simp only [hmay, c1, evf,↓evp,evq,evr,fxa0,fxa1,fxa2,fxa3,fxa4,fxu,fxn,fxl,↓fxp,lgc,absL,fitL,flatL,ares,ares1,ofVal,unSc,aload,afill,splice,abound,asI,elems,IntKind.bits,sortT,eqNil,closedL,allByte,patch,pendOK,numA,Value.cells,Value.oneCell',ibin,List.replicate,Option.elim,Nat.reduceAdd,Nat.reduceSub,Nat.reduceMul,Nat.reduceLT,Nat.reduceEqDiff,Nat.reduceLeDiff,Nat.reduceBEq,Int.reduceLE,Int.reduceLT,Int.reduceToNat,Int.reduceBNe,Int.reduceBEq,Int.reduceNeg,Int.reduceEq,Int.reduceNe,Nat.reduceBNe,Int.reduceAdd,Int.reduceSub,Int.reduceMul,Int.reducePow,Nat.reducePow,Int.reduceGT,Int.reduceGE,if_true,if_false,ite_true,ite_false,beq_self_eq_true,BEq.rfl,reduceCtorEq,eq_self,ne_eq,Function.comp_def,beq_iff_eq]
  refine aloop_forF (fun k f s => ∃ j : Nat, k + j = m ∧ j ≤ H ∧ I (j * W) s ∧ f 0 = .yl l ∧ f 1 = .ref rb 0 ∧ f 9 = .sc (.int .i64 H) ∧ f 10 = .sc (.int .i64 j)) ⟨0, by omega, by omega, by simpa using i1, by simp only [evf, ne_eq, Nat.reduceEqDiff, Nat.reduceLT, not_false_eq_true], by simp only [evf, ne_eq, Nat.reduceEqDiff, Nat.reduceLT, not_false_eq_true], by simp only [evf, ne_eq, Nat.reduceEqDiff, Nat.reduceLT, not_false_eq_true], by simp only [evf, ne_eq, Nat.reduceEqDiff, Nat.reduceLT, not_false_eq_true]; rfl⟩ ?_
  rintro I' hI' k f s ⟨j, hk, hj, hI, f0, f1, f9, f10⟩
  refine ⟨k - 1, by omega, ?_⟩
  by_cases hjl : j < H
  · have d : decide ((j : Int) < H) = true := decide_eq_true (by omega)
    have c2 := keep _ _ hI
    simp only [rc] at c2
    simp only [f0, f1, f9, f10, c2, d, evf,↓evp,evq,evr,fxa0,fxa1,fxa2,fxa3,fxa4,fxu,fxn,fxl,↓fxp,lgc,absL,fitL,flatL,ares,ares1,ofVal,unSc,aload,afill,splice,abound,asI,elems,IntKind.bits,sortT,eqNil,closedL,allByte,patch,pendOK,numA,Value.cells,Value.oneCell',ibin,List.replicate,Option.elim,Nat.reduceAdd,Nat.reduceSub,Nat.reduceMul,Nat.reduceLT,Nat.reduceEqDiff,Nat.reduceLeDiff,Nat.reduceBEq,Int.reduceLE,Int.reduceLT,Int.reduceToNat,Int.reduceBNe,Int.reduceBEq,Int.reduceNeg,Int.reduceEq,Int.reduceNe,Nat.reduceBNe,Int.reduceAdd,Int.reduceSub,Int.reduceMul,Int.reducePow,Nat.reducePow,Int.reduceGT,Int.reduceGE,if_true,if_false,ite_true,ite_false,beq_self_eq_true,BEq.rfl,reduceCtorEq,eq_self,ne_eq,Function.comp_def,beq_iff_eq]
    refine aloop_forF (fun k f s => ∃ i : Nat, k + i = m ∧ i ≤ W ∧ I (j * W + i) s ∧ f 0 = .yl l ∧ f 1 = .ref rb 0 ∧ f 3 = .sc (.int .i64 j) ∧ f 9 = .sc (.int .i64 H) ∧ f 10 = .sc (.int .i64 j) ∧ f 14 = .sc (.int .i64 W) ∧ f 15 = .sc (.int .i64 i)) ⟨0, by omega, by omega, by simpa using hI, by simp only [f0, evf, ne_eq, Nat.reduceEqDiff, Nat.reduceLT, not_false_eq_true], by simp only [f1, evf, ne_eq, Nat.reduceEqDiff, Nat.reduceLT, not_false_eq_true], by simp only [evf, ne_eq, Nat.reduceEqDiff, Nat.reduceLT, not_false_eq_true], by simp only [f9, evf, ne_eq, Nat.reduceEqDiff, Nat.reduceLT, not_false_eq_true], by simp only [f10, evf, ne_eq, Nat.reduceEqDiff, Nat.reduceLT, not_false_eq_true], by simp only [evf, ne_eq, Nat.reduceEqDiff, Nat.reduceLT, not_false_eq_true], by simp only [evf, ne_eq, Nat.reduceEqDiff, Nat.reduceLT, not_false_eq_true]; rfl⟩ ?_
    rintro I2 hI2 k2 f s ⟨i, hk2, hi, hIi, f0, f1, f3, f9, f10, f14, f15⟩
    refine ⟨k2 - 1, by omega, ?_⟩
    by_cases hil : i < W
    · have d2 : decide ((i : Int) < W) = true := decide_eq_true (by omega)
      have c3 := keep _ _ hIi
      simp only [rc] at c3
      have e1 : IntKind.i64.wrap (x + i) = x + i := wi64 (by omega) (by omega)
      have e2 : IntKind.i64.wrap (y + j) = y + j := wi64 (by omega) (by omega)
      have e3 : IntKind.i64.wrap ((i : Int) + 1) = ((i + 1 : Nat) : Int) := by rw [IntWalk.i64_in _ (by omega)]; rfl
      simp only [f0, f1, f3, f9, f10, f14, f15, c3, d2, e1, e2, evf,↓evp,evq,evr,fxa0,fxa1,fxa2,fxa3,fxa4,fxu,fxn,fxl,↓fxp,lgc,absL,fitL,flatL,ares,ares1,ofVal,unSc,aload,afill,splice,abound,asI,elems,IntKind.bits,sortT,eqNil,closedL,allByte,patch,pendOK,numA,Value.cells,Value.oneCell',ibin,List.replicate,Option.elim,Nat.reduceAdd,Nat.reduceSub,Nat.reduceMul,Nat.reduceLT,Nat.reduceEqDiff,Nat.reduceLeDiff,Nat.reduceBEq,Int.reduceLE,Int.reduceLT,Int.reduceToNat,Int.reduceBNe,Int.reduceBEq,Int.reduceNeg,Int.reduceEq,Int.reduceNe,Nat.reduceBNe,Int.reduceAdd,Int.reduceSub,Int.reduceMul,Int.reducePow,Nat.reducePow,Int.reduceGT,Int.reduceGE,if_true,if_false,ite_true,ite_false,beq_self_eq_true,BEq.rfl,reduceCtorEq,eq_self,ne_eq,Function.comp_def,beq_iff_eq]
      refine yl_fsz fsz (step j i s _ hjl hil hIi (fun s' h' => ?_) fun s' h' => ?_)
      · simp only [f0, f1, f3, f9, f10, f14, f15, e3, evf,↓evp,evq,evr,fxa0,fxa1,fxa2,fxa3,fxa4,fxu,fxn,fxl,↓fxp,lgc,absL,fitL,flatL,ares,ares1,ofVal,unSc,aload,afill,splice,abound,asI,elems,IntKind.bits,sortT,eqNil,closedL,allByte,patch,pendOK,numA,Value.cells,Value.oneCell',ibin,List.replicate,Option.elim,Nat.reduceAdd,Nat.reduceSub,Nat.reduceMul,Nat.reduceLT,Nat.reduceEqDiff,Nat.reduceLeDiff,Nat.reduceBEq,Int.reduceLE,Int.reduceLT,Int.reduceToNat,Int.reduceBNe,Int.reduceBEq,Int.reduceNeg,Int.reduceEq,Int.reduceNe,Nat.reduceBNe,Int.reduceAdd,Int.reduceSub,Int.reduceMul,Int.reducePow,Nat.reducePow,Int.reduceGT,Int.reduceGE,if_true,if_false,ite_true,ite_false,beq_self_eq_true,BEq.rfl,reduceCtorEq,eq_self,ne_eq,Function.comp_def,beq_iff_eq]
        exact hI2 _ _ _ ⟨i + 1, by omega, hil, h', by simp only [f0, evf, ne_eq, Nat.reduceEqDiff, Nat.reduceLT, not_false_eq_true], by simp only [f1, evf, ne_eq, Nat.reduceEqDiff, Nat.reduceLT, not_false_eq_true], by simp only [f3, evf, ne_eq, Nat.reduceEqDiff, Nat.reduceLT, not_false_eq_true], by simp only [f9, evf, ne_eq, Nat.reduceEqDiff, Nat.reduceLT, not_false_eq_true], by simp only [f10, evf, ne_eq, Nat.reduceEqDiff, Nat.reduceLT, not_false_eq_true], by simp only [f14, evf, ne_eq, Nat.reduceEqDiff, Nat.reduceLT, not_false_eq_true], by simp only [evf, ne_eq, Nat.reduceEqDiff, Nat.reduceLT, not_false_eq_true]⟩
      · simp only [evf,↓evp,evq,evr,fxa0,fxa1,fxa2,fxa3,fxa4,fxu,fxn,fxl,↓fxp,lgc,absL,fitL,flatL,ares,ares1,ofVal,unSc,aload,afill,splice,abound,asI,elems,IntKind.bits,sortT,eqNil,closedL,allByte,patch,pendOK,numA,Value.cells,Value.oneCell',ibin,List.replicate,Option.elim,Nat.reduceAdd,Nat.reduceSub,Nat.reduceMul,Nat.reduceLT,Nat.reduceEqDiff,Nat.reduceLeDiff,Nat.reduceBEq,Int.reduceLE,Int.reduceLT,Int.reduceToNat,Int.reduceBNe,Int.reduceBEq,Int.reduceNeg,Int.reduceEq,Int.reduceNe,Nat.reduceBNe,Int.reduceAdd,Int.reduceSub,Int.reduceMul,Int.reducePow,Nat.reducePow,Int.reduceGT,Int.reduceGE,if_true,if_false,ite_true,ite_false,beq_self_eq_true,BEq.rfl,reduceCtorEq,eq_self,ne_eq,Function.comp_def,beq_iff_eq]
        exact hstop _ h'
    · have d2 : decide ((i : Int) < W) = false := decide_eq_false (by omega)
      obtain rfl : i = W := by omega
      have e3 : IntKind.i64.wrap ((j : Int) + 1) = ((j + 1 : Nat) : Int) := by rw [IntWalk.i64_in _ (by omega)]; rfl
      simp only [f0, f1, f3, f9, f10, f14, f15, d2, e3, evf,↓evp,evq,evr,fxa0,fxa1,fxa2,fxa3,fxa4,fxu,fxn,fxl,↓fxp,lgc,absL,fitL,flatL,ares,ares1,ofVal,unSc,aload,afill,splice,abound,asI,elems,IntKind.bits,sortT,eqNil,closedL,allByte,patch,pendOK,numA,Value.cells,Value.oneCell',ibin,List.replicate,Option.elim,Nat.reduceAdd,Nat.reduceSub,Nat.reduceMul,Nat.reduceLT,Nat.reduceEqDiff,Nat.reduceLeDiff,Nat.reduceBEq,Int.reduceLE,Int.reduceLT,Int.reduceToNat,Int.reduceBNe,Int.reduceBEq,Int.reduceNeg,Int.reduceEq,Int.reduceNe,Nat.reduceBNe,Int.reduceAdd,Int.reduceSub,Int.reduceMul,Int.reducePow,Nat.reducePow,Int.reduceGT,Int.reduceGE,if_true,if_false,ite_true,ite_false,beq_self_eq_true,BEq.rfl,reduceCtorEq,eq_self,ne_eq,Function.comp_def,beq_iff_eq]
      exact hI' _ _ _ ⟨j + 1, by omega, hjl, by rw [Nat.succ_mul]; exact hIi, by simp only [f0, evf, ne_eq, Nat.reduceEqDiff, Nat.reduceLT, not_false_eq_true], by simp only [f1, evf, ne_eq, Nat.reduceEqDiff, Nat.reduceLT, not_false_eq_true], by simp only [f9, evf, ne_eq, Nat.reduceEqDiff, Nat.reduceLT, not_false_eq_true], by simp only [evf, ne_eq, Nat.reduceEqDiff, Nat.reduceLT, not_false_eq_true]⟩
  · have d : decide ((j : Int) < H) = false := decide_eq_false (by omega)
    obtain rfl : j = H := by omega
    simp only [f0, f1, f9, f10, d, evf,↓evp,evq,evr,fxa0,fxa1,fxa2,fxa3,fxa4,fxu,fxn,fxl,↓fxp,lgc,absL,fitL,flatL,ares,ares1,ofVal,unSc,aload,afill,splice,abound,asI,elems,IntKind.bits,sortT,eqNil,closedL,allByte,patch,pendOK,numA,Value.cells,Value.oneCell',ibin,List.replicate,Option.elim,Nat.reduceAdd,Nat.reduceSub,Nat.reduceMul,Nat.reduceLT,Nat.reduceEqDiff,Nat.reduceLeDiff,Nat.reduceBEq,Int.reduceLE,Int.reduceLT,Int.reduceToNat,Int.reduceBNe,Int.reduceBEq,Int.reduceNeg,Int.reduceEq,Int.reduceNe,Nat.reduceBNe,Int.reduceAdd,Int.reduceSub,Int.reduceMul,Int.reducePow,Nat.reducePow,Int.reduceGT,Int.reduceGE,if_true,if_false,ite_true,ite_false,beq_self_eq_true,BEq.rfl,reduceCtorEq,eq_self,ne_eq,Function.comp_def,beq_iff_eq]
    exact hend _ hI
end
section
variable {P : Program} {kt e : TypeId}
/-- A number's place. -/
def atI {α : Type} (i : Int) : List (Int × α) → Option Nat
  | [] => none
  | x :: l => if i == x.1 then some 0 else (atI i l).map (· + 1)
theorem findNow_int (i : Int) : ∀ (l : List (Int × V)) (j : Nat), Instr.findNow (.int .i64) (.int .i64 i) (keysOf (l.map fun x => (Value.int .i64 x.1, x.2))) j = some ((atI i l).map fun q => (q + j, .bool false))
  | [], j => rfl
  | x :: l, j => by
    simp only [List.map_cons, keysOf, Instr.findNow, Instr.sameNow, atI, if_true]
    have ih := findNow_int i l (j + 1)
    simp only [keysOf] at ih
    cases h : (i == x.1)
    · simp only [Bool.false_eq_true, if_false]
      rw [ih]
      cases atI i l with
      | none => rfl
      | some q => simp only [Option.map_some]; congr 3; omega
    · simp
theorem afind_int (hk : P.underlying kt = some (.int .i64)) (i : Int) (l : List (Int × V)) : afind P kt (.int .i64 i) (l.map fun x => (Value.int .i64 x.1, x.2)) = some (atI i l) := by
  unfold afind Instr.findKey
  rw [pr_bd, pureRun_underlying hk, Option.bind_some, findNow_int]
  cases h : atI i l with
  | none => rfl
  | some q => rfl
theorem akey_int (hk : P.underlying kt = some (.int .i64)) (b : Bool) (i : Int) : akey P b kt (.int .i64 i) = some () := by
  unfold akey
  show pureRun P (Instr.checkKey b (9999 + 1) kt (.int .i64 i)) = _
  rw [Instr.checkKey, pr_bd, pureRun_underlying hk, Option.bind_some]
  rfl
end
/-- A cell's place. -/
def atC {α : Type} (c : Int × Int) : List ((Int × Int) × α) → Option Nat
  | [] => none
  | x :: l => if c.1 == x.1.1 && c.2 == x.1.2 then some 0 else (atC c l).map (· + 1)
def kc (c : Int × Int) : Value := .agg #[.int .i64 c.1, .int .i64 c.2]
theorem findAsking_cell (c : Int × Int) : ∀ (l : List ((Int × Int) × V)) (j : Nat), pureRun Try.prog (Instr.findAsking 24 (kc c) (keysOf (l.map fun x => (kc x.1, x.2))) j) = some ((atC c l).map fun q => (q + j, .bool false))
  | [], j => rfl
  | x :: l, j => by
    simp only [List.map_cons, keysOf, Instr.findAsking, atC]
    rw [pr_bd]
    have e : pureRun Try.prog (Op.equal 24 (kc c) (kc x.1)) = some (c.1 == x.1.1 && c.2 == x.1.2) := pr_eq2 Try.underlying24 (by kernel_rfl) (by decide) (by decide) rfl rfl Try.underlying3 Try.underlying3 c.1 c.2 x.1.1 x.1.2
    rw [e, Option.bind_some]
    have ih := findAsking_cell c l (j + 1)
    simp only [keysOf] at ih
    cases h : (c.1 == x.1.1 && c.2 == x.1.2)
    · simp only [Bool.false_eq_true, if_false]
      rw [ih]
      cases atC c l with
      | none => rfl
      | some q => simp only [Option.map_some]; congr 3; omega
    · simp [pureRun_pure]
theorem findNow_cell {fs : Array Field} (c : Int × Int) : ∀ (l : List MapEntry) (j : Nat), l ≠ [] → Instr.findNow (.struct fs) (kc c) l j = none := by
  intro l j hl
  cases l with
  | nil => exact absurd rfl hl
  | cons a l => rfl
theorem afind_cell (c : Int × Int) (l : List ((Int × Int) × V)) : afind Try.prog 24 (kc c) (l.map fun x => (kc x.1, x.2)) = some (atC c l) := by
  unfold afind Instr.findKey
  rw [pr_bd, pureRun_underlying Try.underlying24, Option.bind_some]
  cases l with
  | nil => rfl
  | cons x l =>
    rw [findNow_cell c (keysOf ((x :: l).map fun x => (kc x.1, x.2))) 0 (by simp [keysOf])]
    simp only
    rw [findAsking_cell c (x :: l) 0]
    cases atC c (x :: l) <;> rfl
theorem akey_cell (b : Bool) (c : Int × Int) : akey Try.prog b 24 (kc c) = some () := by kernel_rfl
def esI (l : List (Int × V)) : List (Value × V) := l.map fun x => (Value.int .i64 x.1, x.2)
def esC (l : List ((Int × Int) × V)) : List (Value × V) := l.map fun x => (kc x.1, x.2)
def getI (i : Int) (l : List (Int × V)) : Option V := (atI i l).bind fun q => (l[q]?).map (·.2)
def getC (c : Int × Int) (l : List ((Int × Int) × V)) : Option V := (atC c l).bind fun q => (l[q]?).map (·.2)
def putI (i : Int) (v : V) (l : List (Int × V)) : List (Int × V) := match atI i l with
  | some q => l.set q (i, v)
  | none => l ++ [(i, v)]
def putC (c : Int × Int) (v : V) (l : List ((Int × Int) × V)) : List ((Int × Int) × V) := match atC c l with
  | some q => l.set q (c, v)
  | none => l ++ [(c, v)]
theorem atI_spec {α : Type} {i : Int} : ∀ {l : List (Int × α)} {q : Nat}, atI i l = some q → ∃ x, l[q]? = some (i, x)
  | [], q, h => by simp [atI] at h
  | x :: l, q, h => by
    unfold atI at h
    split at h
    · rename_i hx
      simp only [Option.some.injEq] at h
      subst h
      have hx : i = x.1 := by simpa using hx
      exact ⟨x.2, by rw [hx]; rfl⟩
    · obtain ⟨r, hr, rfl⟩ := Option.map_eq_some_iff.1 h
      obtain ⟨y, hy⟩ := atI_spec hr
      exact ⟨y, by simpa using hy⟩
theorem atC_spec {α : Type} {c : Int × Int} : ∀ {l : List ((Int × Int) × α)} {q : Nat}, atC c l = some q → ∃ x, l[q]? = some (c, x)
  | [], q, h => by simp [atC] at h
  | x :: l, q, h => by
    unfold atC at h
    split at h
    · rename_i hx
      simp only [Option.some.injEq] at h
      subst h
      have hx : c = x.1 := by
        simp only [Bool.and_eq_true, beq_iff_eq] at hx
        exact Prod.ext hx.1 hx.2
      exact ⟨x.2, by rw [hx]; rfl⟩
    · obtain ⟨r, hr, rfl⟩ := Option.map_eq_some_iff.1 h
      obtain ⟨y, hy⟩ := atC_spec hr
      exact ⟨y, by simpa using hy⟩
theorem same_int (i : Int) : Instr.sameBits 10000 (.int .i64 i) (.int .i64 i) = true := by
  show Instr.sameBits (9999 + 1) _ _ = true
  simp [Instr.sameBits]
theorem same_cell (c : Int × Int) : Instr.sameBits 10000 (kc c) (kc c) = true := by
  show Instr.sameBits (9998 + 1 + 1) _ _ = true
  simp [Instr.sameBits, kc]
section
variable {st : List Ob} {a : Nat} {t e : TypeId}
theorem lk_int {l : List (Int × V)} {z : V} (ht : Try.prog.underlying t = some (.map 3 e)) (hz : azero Try.prog e = some z) (h : st[a]? = some (.map (esI l))) (i : Int) :
    alookup Try.prog st t (.map a) (.sc (.int .i64 i)) true = some (match getI i l with | some v => .tup [v, .sc (.bool true)] | none => .tup [z, .sc (.bool false)]) := by
  unfold alookup
  simp only [ht, toVal, h, akey_int Try.underlying3, esI, afind_int Try.underlying3]
  unfold getI
  cases hq : atI i l with
  | none => simp [hz]
  | some q =>
    obtain ⟨x, hx⟩ := atI_spec hq
    simp [hx]
theorem lk_cell {l : List ((Int × Int) × V)} {z : V} (ht : Try.prog.underlying t = some (.map 24 e)) (hz : azero Try.prog e = some z) (h : st[a]? = some (.map (esC l))) (x y : Int) :
    alookup Try.prog st t (.map a) (.agg [.sc (.int .i64 x), .sc (.int .i64 y)]) true = some (match getC (x, y) l with | some v => .tup [v, .sc (.bool true)] | none => .tup [z, .sc (.bool false)]) := by
  unfold alookup
  have hk : toVal (.agg [.sc (.int .i64 x), .sc (.int .i64 y)]) = some (kc (x, y)) := rfl
  simp only [ht, hk, h, akey_cell, esC, afind_cell]
  unfold getC
  cases hq : atC (x, y) l with
  | none => simp [hz]
  | some q =>
    obtain ⟨x, hx⟩ := atC_spec hq
    simp [hx]
theorem up_int {l : List (Int × V)} {v : V} (ht : Try.prog.underlying t = some (.map 3 e)) (hv : held v = true) (h : st[a]? = some (.map (esI l))) (i : Int) :
    aupdate Try.prog st t (.map a) (.sc (.int .i64 i)) v = some (st.set a (.map (esI (putI i v l)))) := by
  unfold aupdate
  simp only [ht, toVal, h, hv, if_true, akey_int Try.underlying3, esI, afind_int Try.underlying3]
  unfold putI
  cases hq : atI i l with
  | none => simp
  | some q =>
    obtain ⟨x, hx⟩ := atI_spec hq
    simp [hx, same_int, List.map_set]
theorem up_cell {l : List ((Int × Int) × V)} {v : V} (ht : Try.prog.underlying t = some (.map 24 e)) (hv : held v = true) (h : st[a]? = some (.map (esC l))) (x y : Int) :
    aupdate Try.prog st t (.map a) (.agg [.sc (.int .i64 x), .sc (.int .i64 y)]) v = some (st.set a (.map (esC (putC (x, y) v l)))) := by
  unfold aupdate
  have hk : toVal (.agg [.sc (.int .i64 x), .sc (.int .i64 y)]) = some (kc (x, y)) := rfl
  simp only [ht, hk, h, hv, if_true, akey_cell, esC, afind_cell]
  unfold putC
  cases hq : atC (x, y) l with
  | none => simp
  | some q =>
    obtain ⟨x, hx⟩ := atC_spec hq
    simp [hx, same_cell, List.map_set]
end
/-- The first loop over a function of a code. -/
def frf : Code → Option (Array Tmp × Code × Code)
  | .rangeFunc _ ps a b => some (ps, a, b)
  | .seq a b => match frf a with
    | some c => some c
    | none => frf b
  | .cond _ a b => match frf a with
    | some c => some c
    | none => frf b
  | .block _ b => frf b
  | .loop b => frf b
  | _ => none
theorem aputs_one {n p : Nat} {f : Nat → V} {v : V} (h : p < n) : aputs (ofF n f) [p] [v] = ofF n (fu f p v) := by
  show aput (ofF n f) (some p) v = _
  exact aput_ofF h
/-- Cells filled, row by row. -/
def fillC (v : V) (x y : Int) (W : Nat) (os : List ((Int × Int) × V)) : Nat → List ((Int × Int) × V)
  | 0 => os
  | k + 1 => putC (x + (k % W : Nat), y + (k / W : Nat)) v (fillC v x y W os k)
/-- Nothing has turned but two. -/
def Kp (a b : Nat) (s s' : List Ob) : Prop := ∀ j o, j ≠ a → j ≠ b → s[j]? = some o → s'[j]? = some o
end Go.Proofs.Ytndjhaeeldegfaa
