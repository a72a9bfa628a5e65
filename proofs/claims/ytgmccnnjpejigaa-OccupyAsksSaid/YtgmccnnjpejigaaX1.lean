/- Chapter 3: tests of cells and rectangles. Chapter 5: the index that is none tells nothing. Chapter 3: a rectangle's cells, one by one. Maps with numbers and cells for keys. Maps with numbers and cells for keys: looked into, turned. Chapter 5: an index with units: asked, and set. Chapter 5: an index with units: set, met, put. Chapter 5: an index with units: nobody met. Chapter 5: an index with units: put; awake. -/
import Derived.Test.YtgmccnnjpejigaaKitF
set_option linter.unusedVariables false
set_option linter.unusedSimpArgs false
set_option maxRecDepth 10000
namespace Go.Proofs.Ytgmccnnjpejigaa
open Go Go.M Go.RowKit
attribute [local congr] acallF_cong aloop_cong bcase_cong resK_cong valK_cong wantK_cong callK_cong xputK_cong qputK_cong resM_cong rfK_cong
attribute [local irreducible] seqK blockK loopK nextK bcase resK valK wantK funK putK dputK xputK qputK callK aops aop acode adraw aloop acallF acall invK resM rfK rfEnd rdEnd rdMid around
/-! ### Chapter 3: tests of cells and rectangles. -/
section
variable {n m : Nat} {st : List Ob} {K : V → List Ob → Prop} {x y w h : Int}
def nearB (x : Int) : Bool := decide (x ≥ -1048576) && decide (x ≤ 1048576)
def sideB (x : Int) : Bool := decide (x ≥ 1) && decide (x ≤ 1048576)
theorem c_near (hK : K (.sc (.bool (nearB x))) st) : acallF Try.prog pl (n + 1) m 108 [.sc (.int .i64 x)] st K := by
  refine acallF_inF Try.func108 rfl rfl Try.ntmps108 (by simp) ?_
  unfold nearB at hK
  cases e1 : decide (x ≥ -1048576) <;> simp only [e1, Bool.false_and, Bool.true_and] at hK <;> simp only [e1, evf,↓evp,evq,evr,fxa0,fxa1,fxa2,fxa3,fxa4,fxu,fxn,fxl,↓fxp,lgc,absL,fitL,flatL,ares,ares1,ofVal,unSc,aload,afill,splice,abound,asI,elems,IntKind.bits,sortT,eqNil,closedL,allByte,patch,pendOK,numA,Value.cells,Value.oneCell',ibin,List.replicate,Option.elim,Nat.reduceAdd,Nat.reduceSub,Nat.reduceMul,Nat.reduceLT,Nat.reduceEqDiff,Nat.reduceLeDiff,Nat.reduceBEq,Int.reduceLE,Int.reduceLT,Int.reduceToNat,Int.reduceBNe,Int.reduceBEq,Int.reduceNeg,Int.reduceEq,Int.reduceNe,Nat.reduceBNe,Int.reduceAdd,Int.reduceSub,Int.reduceMul,Int.reducePow,Nat.reducePow,Int.reduceGT,Int.reduceGE,if_true,if_false,ite_true,ite_false,beq_self_eq_true,BEq.rfl,reduceCtorEq,eq_self,ne_eq,Function.comp_def,beq_iff_eq] <;> exact hK
theorem c_side (hK : K (.sc (.bool (sideB x))) st) : acallF Try.prog pl (n + 1) m 89 [.sc (.int .i64 x)] st K := by
  refine acallF_inF Try.func89 rfl rfl Try.ntmps89 (by simp) ?_
  unfold sideB at hK
  cases e1 : decide (x ≥ 1) <;> simp only [e1, Bool.false_and, Bool.true_and] at hK <;> simp only [e1, evf,↓evp,evq,evr,fxa0,fxa1,fxa2,fxa3,fxa4,fxu,fxn,fxl,↓fxp,lgc,absL,fitL,flatL,ares,ares1,ofVal,unSc,aload,afill,splice,abound,asI,elems,IntKind.bits,sortT,eqNil,closedL,allByte,patch,pendOK,numA,Value.cells,Value.oneCell',ibin,List.replicate,Option.elim,Nat.reduceAdd,Nat.reduceSub,Nat.reduceMul,Nat.reduceLT,Nat.reduceEqDiff,Nat.reduceLeDiff,Nat.reduceBEq,Int.reduceLE,Int.reduceLT,Int.reduceToNat,Int.reduceBNe,Int.reduceBEq,Int.reduceNeg,Int.reduceEq,Int.reduceNe,Nat.reduceBNe,Int.reduceAdd,Int.reduceSub,Int.reduceMul,Int.reducePow,Nat.reducePow,Int.reduceGT,Int.reduceGE,if_true,if_false,ite_true,ite_false,beq_self_eq_true,BEq.rfl,reduceCtorEq,eq_self,ne_eq,Function.comp_def,beq_iff_eq] <;> exact hK
def cl (x y : Int) : List V := [.sc (.int .i64 x), .sc (.int .i64 y)]
def rc (x y w h : Int) : List V := [.sc (.int .i64 x), .sc (.int .i64 y), .sc (.int .i64 w), .sc (.int .i64 h)]
theorem c_Near (hK : ∀ s, Grw st s → K (.sc (.bool (nearB x && nearB y))) s) : acallF Try.prog pl (n + 2) m 88 [.agg (cl x y)] st K := by
  refine acallF_inF Try.func88 rfl rfl Try.ntmps88 (by simp) ?_
  have g0 := Grw.push st [.cells (cl x y)]
  have x0 : (st ++ [Ob.cells (cl x y)])[st.length]? = some (.cells (cl x y)) := get_new0 _ _
  simp only [cl] at g0 x0
  simp only [cl, x0, evf,↓evp,evq,evr,fxa0,fxa1,fxa2,fxa3,fxa4,fxu,fxn,fxl,↓fxp,lgc,absL,fitL,flatL,ares,ares1,ofVal,unSc,aload,afill,splice,abound,asI,elems,IntKind.bits,sortT,eqNil,closedL,allByte,patch,pendOK,numA,Value.cells,Value.oneCell',ibin,List.replicate,Option.elim,Nat.reduceAdd,Nat.reduceSub,Nat.reduceMul,Nat.reduceLT,Nat.reduceEqDiff,Nat.reduceLeDiff,Nat.reduceBEq,Int.reduceLE,Int.reduceLT,Int.reduceToNat,Int.reduceBNe,Int.reduceBEq,Int.reduceNeg,Int.reduceEq,Int.reduceNe,Nat.reduceBNe,Int.reduceAdd,Int.reduceSub,Int.reduceMul,Int.reducePow,Nat.reducePow,Int.reduceGT,Int.reduceGE,if_true,if_false,ite_true,ite_false,beq_self_eq_true,BEq.rfl,reduceCtorEq,eq_self,ne_eq,Function.comp_def,beq_iff_eq]
  refine c_near ?_
  cases e1 : nearB x
  · rw [e1] at hK
    simp only [x0, e1, evf,↓evp,evq,evr,fxa0,fxa1,fxa2,fxa3,fxa4,fxu,fxn,fxl,↓fxp,lgc,absL,fitL,flatL,ares,ares1,ofVal,unSc,aload,afill,splice,abound,asI,elems,IntKind.bits,sortT,eqNil,closedL,allByte,patch,pendOK,numA,Value.cells,Value.oneCell',ibin,List.replicate,Option.elim,Nat.reduceAdd,Nat.reduceSub,Nat.reduceMul,Nat.reduceLT,Nat.reduceEqDiff,Nat.reduceLeDiff,Nat.reduceBEq,Int.reduceLE,Int.reduceLT,Int.reduceToNat,Int.reduceBNe,Int.reduceBEq,Int.reduceNeg,Int.reduceEq,Int.reduceNe,Nat.reduceBNe,Int.reduceAdd,Int.reduceSub,Int.reduceMul,Int.reducePow,Nat.reducePow,Int.reduceGT,Int.reduceGE,if_true,if_false,ite_true,ite_false,beq_self_eq_true,BEq.rfl,reduceCtorEq,eq_self,ne_eq,Function.comp_def,beq_iff_eq]
    exact hK _ g0
  · rw [e1] at hK
    simp only [x0, e1, evf,↓evp,evq,evr,fxa0,fxa1,fxa2,fxa3,fxa4,fxu,fxn,fxl,↓fxp,lgc,absL,fitL,flatL,ares,ares1,ofVal,unSc,aload,afill,splice,abound,asI,elems,IntKind.bits,sortT,eqNil,closedL,allByte,patch,pendOK,numA,Value.cells,Value.oneCell',ibin,List.replicate,Option.elim,Nat.reduceAdd,Nat.reduceSub,Nat.reduceMul,Nat.reduceLT,Nat.reduceEqDiff,Nat.reduceLeDiff,Nat.reduceBEq,Int.reduceLE,Int.reduceLT,Int.reduceToNat,Int.reduceBNe,Int.reduceBEq,Int.reduceNeg,Int.reduceEq,Int.reduceNe,Nat.reduceBNe,Int.reduceAdd,Int.reduceSub,Int.reduceMul,Int.reducePow,Nat.reducePow,Int.reduceGT,Int.reduceGE,if_true,if_false,ite_true,ite_false,beq_self_eq_true,BEq.rfl,reduceCtorEq,eq_self,ne_eq,Function.comp_def,beq_iff_eq]
    refine c_near ?_
    simp only [Bool.true_and] at hK
    simp only [evf,↓evp,evq,evr,fxa0,fxa1,fxa2,fxa3,fxa4,fxu,fxn,fxl,↓fxp,lgc,absL,fitL,flatL,ares,ares1,ofVal,unSc,aload,afill,splice,abound,asI,elems,IntKind.bits,sortT,eqNil,closedL,allByte,patch,pendOK,numA,Value.cells,Value.oneCell',ibin,List.replicate,Option.elim,Nat.reduceAdd,Nat.reduceSub,Nat.reduceMul,Nat.reduceLT,Nat.reduceEqDiff,Nat.reduceLeDiff,Nat.reduceBEq,Int.reduceLE,Int.reduceLT,Int.reduceToNat,Int.reduceBNe,Int.reduceBEq,Int.reduceNeg,Int.reduceEq,Int.reduceNe,Nat.reduceBNe,Int.reduceAdd,Int.reduceSub,Int.reduceMul,Int.reducePow,Nat.reducePow,Int.reduceGT,Int.reduceGE,if_true,if_false,ite_true,ite_false,beq_self_eq_true,BEq.rfl,reduceCtorEq,eq_self,ne_eq,Function.comp_def,beq_iff_eq]
    exact hK _ g0
theorem c_last (h1 : nearB x = true) (h2 : nearB y = true) (h3 : sideB w = true) (h4 : sideB h = true) (hK : ∀ s, Grw st s → K (.agg (cl (x + w - 1) (y + h - 1))) s) : acallF Try.prog pl (n + 1) m 90 [.agg (rc x y w h)] st K := by
  refine acallF_inF Try.func90 rfl rfl Try.ntmps90 (by simp) ?_
  simp only [nearB, sideB, Bool.and_eq_true, decide_eq_true_eq] at h1 h2 h3 h4
  have e1 : IntKind.i64.wrap (x + w) = x + w := wi64 (by omega) (by omega)
  have e2 : IntKind.i64.wrap (y + h) = y + h := wi64 (by omega) (by omega)
  have e3 : IntKind.i64.wrap (x + w - 1) = x + w - 1 := wi64 (by omega) (by omega)
  have e4 : IntKind.i64.wrap (y + h - 1) = y + h - 1 := wi64 (by omega) (by omega)
  have g0 := Grw.push st [.cells (rc x y w h), .cells (cl (x + w - 1) (y + h - 1))]
  simp only [rc, cl] at g0
  simp only [rc, cl, e1, e2, e3, e4, evf,↓evp,evq,evr,fxa0,fxa1,fxa2,fxa3,fxa4,fxu,fxn,fxl,↓fxp,lgc,absL,fitL,flatL,ares,ares1,ofVal,unSc,aload,afill,splice,abound,asI,elems,IntKind.bits,sortT,eqNil,closedL,allByte,patch,pendOK,numA,Value.cells,Value.oneCell',ibin,List.replicate,Option.elim,Nat.reduceAdd,Nat.reduceSub,Nat.reduceMul,Nat.reduceLT,Nat.reduceEqDiff,Nat.reduceLeDiff,Nat.reduceBEq,Int.reduceLE,Int.reduceLT,Int.reduceToNat,Int.reduceBNe,Int.reduceBEq,Int.reduceNeg,Int.reduceEq,Int.reduceNe,Nat.reduceBNe,Int.reduceAdd,Int.reduceSub,Int.reduceMul,Int.reducePow,Nat.reducePow,Int.reduceGT,Int.reduceGE,if_true,if_false,ite_true,ite_false,beq_self_eq_true,BEq.rfl,reduceCtorEq,eq_self,ne_eq,Function.comp_def,beq_iff_eq]
  exact hK _ g0
/-- A rectangle may be. -/
def mayB (x y w h : Int) : Bool := nearB x && nearB y && sideB w && sideB h && (nearB (x + w - 1) && nearB (y + h - 1))
theorem c_May (hK : ∀ s, Grw st s → K (.sc (.bool (mayB x y w h))) s) : acallF Try.prog pl (n + 3) m 58 [.agg (rc x y w h)] st K := by
  refine acallF_inF Try.func58 rfl rfl Try.ntmps58 (by simp) ?_
  have g0 := Grw.push st [.cells (rc x y w h)]
  have x0 : (st ++ [Ob.cells (rc x y w h)])[st.length]? = some (.cells (rc x y w h)) := get_new0 _ _
  unfold mayB at hK
  simp only [rc] at g0 x0
  simp only [rc, x0, evf,↓evp,evq,evr,fxa0,fxa1,fxa2,fxa3,fxa4,fxu,fxn,fxl,↓fxp,lgc,absL,fitL,flatL,ares,ares1,ofVal,unSc,aload,afill,splice,abound,asI,elems,IntKind.bits,sortT,eqNil,closedL,allByte,patch,pendOK,numA,Value.cells,Value.oneCell',ibin,List.replicate,Option.elim,Nat.reduceAdd,Nat.reduceSub,Nat.reduceMul,Nat.reduceLT,Nat.reduceEqDiff,Nat.reduceLeDiff,Nat.reduceBEq,Int.reduceLE,Int.reduceLT,Int.reduceToNat,Int.reduceBNe,Int.reduceBEq,Int.reduceNeg,Int.reduceEq,Int.reduceNe,Nat.reduceBNe,Int.reduceAdd,Int.reduceSub,Int.reduceMul,Int.reducePow,Nat.reducePow,Int.reduceGT,Int.reduceGE,if_true,if_false,ite_true,ite_false,beq_self_eq_true,BEq.rfl,reduceCtorEq,eq_self,ne_eq,Function.comp_def,beq_iff_eq]
  refine c_Near fun s1 j1 => ?_
  have x1 := j1 _ _ x0
  have g1 := g0.trans j1
  cases e1 : nearB x && nearB y
  · simp only [e1, Bool.false_and] at hK
    simp only [x1, e1, evf,↓evp,evq,evr,fxa0,fxa1,fxa2,fxa3,fxa4,fxu,fxn,fxl,↓fxp,lgc,absL,fitL,flatL,ares,ares1,ofVal,unSc,aload,afill,splice,abound,asI,elems,IntKind.bits,sortT,eqNil,closedL,allByte,patch,pendOK,numA,Value.cells,Value.oneCell',ibin,List.replicate,Option.elim,Nat.reduceAdd,Nat.reduceSub,Nat.reduceMul,Nat.reduceLT,Nat.reduceEqDiff,Nat.reduceLeDiff,Nat.reduceBEq,Int.reduceLE,Int.reduceLT,Int.reduceToNat,Int.reduceBNe,Int.reduceBEq,Int.reduceNeg,Int.reduceEq,Int.reduceNe,Nat.reduceBNe,Int.reduceAdd,Int.reduceSub,Int.reduceMul,Int.reducePow,Nat.reducePow,Int.reduceGT,Int.reduceGE,if_true,if_false,ite_true,ite_false,beq_self_eq_true,BEq.rfl,reduceCtorEq,eq_self,ne_eq,Function.comp_def,beq_iff_eq]
    exact hK _ g1
  simp only [x1, e1, evf,↓evp,evq,evr,fxa0,fxa1,fxa2,fxa3,fxa4,fxu,fxn,fxl,↓fxp,lgc,absL,fitL,flatL,ares,ares1,ofVal,unSc,aload,afill,splice,abound,asI,elems,IntKind.bits,sortT,eqNil,closedL,allByte,patch,pendOK,numA,Value.cells,Value.oneCell',ibin,List.replicate,Option.elim,Nat.reduceAdd,Nat.reduceSub,Nat.reduceMul,Nat.reduceLT,Nat.reduceEqDiff,Nat.reduceLeDiff,Nat.reduceBEq,Int.reduceLE,Int.reduceLT,Int.reduceToNat,Int.reduceBNe,Int.reduceBEq,Int.reduceNeg,Int.reduceEq,Int.reduceNe,Nat.reduceBNe,Int.reduceAdd,Int.reduceSub,Int.reduceMul,Int.reducePow,Nat.reducePow,Int.reduceGT,Int.reduceGE,if_true,if_false,ite_true,ite_false,beq_self_eq_true,BEq.rfl,reduceCtorEq,eq_self,ne_eq,Function.comp_def,beq_iff_eq]
  refine c_side ?_
  cases e2 : sideB w
  · simp only [e1, e2, Bool.false_and, Bool.and_false] at hK
    simp only [x1, e2, evf,↓evp,evq,evr,fxa0,fxa1,fxa2,fxa3,fxa4,fxu,fxn,fxl,↓fxp,lgc,absL,fitL,flatL,ares,ares1,ofVal,unSc,aload,afill,splice,abound,asI,elems,IntKind.bits,sortT,eqNil,closedL,allByte,patch,pendOK,numA,Value.cells,Value.oneCell',ibin,List.replicate,Option.elim,Nat.reduceAdd,Nat.reduceSub,Nat.reduceMul,Nat.reduceLT,Nat.reduceEqDiff,Nat.reduceLeDiff,Nat.reduceBEq,Int.reduceLE,Int.reduceLT,Int.reduceToNat,Int.reduceBNe,Int.reduceBEq,Int.reduceNeg,Int.reduceEq,Int.reduceNe,Nat.reduceBNe,Int.reduceAdd,Int.reduceSub,Int.reduceMul,Int.reducePow,Nat.reducePow,Int.reduceGT,Int.reduceGE,if_true,if_false,ite_true,ite_false,beq_self_eq_true,BEq.rfl,reduceCtorEq,eq_self,ne_eq,Function.comp_def,beq_iff_eq]
    exact hK _ g1
  simp only [x1, e2, evf,↓evp,evq,evr,fxa0,fxa1,fxa2,fxa3,fxa4,fxu,fxn,fxl,↓fxp,lgc,absL,fitL,flatL,ares,ares1,ofVal,unSc,aload,afill,splice,abound,asI,elems,IntKind.bits,sortT,eqNil,closedL,allByte,patch,pendOK,numA,Value.cells,Value.oneCell',ibin,List.replicate,Option.elim,Nat.reduceAdd,Nat.reduceSub,Nat.reduceMul,Nat.reduceLT,Nat.reduceEqDiff,Nat.reduceLeDiff,Nat.reduceBEq,Int.reduceLE,Int.reduceLT,Int.reduceToNat,Int.reduceBNe,Int.reduceBEq,Int.reduceNeg,Int.reduceEq,Int.reduceNe,Nat.reduceBNe,Int.reduceAdd,Int.reduceSub,Int.reduceMul,Int.reducePow,Nat.reducePow,Int.reduceGT,Int.reduceGE,if_true,if_false,ite_true,ite_false,beq_self_eq_true,BEq.rfl,reduceCtorEq,eq_self,ne_eq,Function.comp_def,beq_iff_eq]
  refine c_side ?_
  cases e3 : sideB h
  · simp only [e1, e2, e3, Bool.false_and, Bool.and_false] at hK
    simp only [x1, e3, evf,↓evp,evq,evr,fxa0,fxa1,fxa2,fxa3,fxa4,fxu,fxn,fxl,↓fxp,lgc,absL,fitL,flatL,ares,ares1,ofVal,unSc,aload,afill,splice,abound,asI,elems,IntKind.bits,sortT,eqNil,closedL,allByte,patch,pendOK,numA,Value.cells,Value.oneCell',ibin,List.replicate,Option.elim,Nat.reduceAdd,Nat.reduceSub,Nat.reduceMul,Nat.reduceLT,Nat.reduceEqDiff,Nat.reduceLeDiff,Nat.reduceBEq,Int.reduceLE,Int.reduceLT,Int.reduceToNat,Int.reduceBNe,Int.reduceBEq,Int.reduceNeg,Int.reduceEq,Int.reduceNe,Nat.reduceBNe,Int.reduceAdd,Int.reduceSub,Int.reduceMul,Int.reducePow,Nat.reducePow,Int.reduceGT,Int.reduceGE,if_true,if_false,ite_true,ite_false,beq_self_eq_true,BEq.rfl,reduceCtorEq,eq_self,ne_eq,Function.comp_def,beq_iff_eq]
    exact hK _ g1
  simp only [x1, e3, evf,↓evp,evq,evr,fxa0,fxa1,fxa2,fxa3,fxa4,fxu,fxn,fxl,↓fxp,lgc,absL,fitL,flatL,ares,ares1,ofVal,unSc,aload,afill,splice,abound,asI,elems,IntKind.bits,sortT,eqNil,closedL,allByte,patch,pendOK,numA,Value.cells,Value.oneCell',ibin,List.replicate,Option.elim,Nat.reduceAdd,Nat.reduceSub,Nat.reduceMul,Nat.reduceLT,Nat.reduceEqDiff,Nat.reduceLeDiff,Nat.reduceBEq,Int.reduceLE,Int.reduceLT,Int.reduceToNat,Int.reduceBNe,Int.reduceBEq,Int.reduceNeg,Int.reduceEq,Int.reduceNe,Nat.reduceBNe,Int.reduceAdd,Int.reduceSub,Int.reduceMul,Int.reducePow,Nat.reducePow,Int.reduceGT,Int.reduceGE,if_true,if_false,ite_true,ite_false,beq_self_eq_true,BEq.rfl,reduceCtorEq,eq_self,ne_eq,Function.comp_def,beq_iff_eq]
  simp only [Bool.and_eq_true] at e1
  refine c_last e1.1 e1.2 e2 e3 fun s2 j2 => ?_
  have x2 := j2 _ _ x1
  simp only [x2, evf,↓evp,evq,evr,fxa0,fxa1,fxa2,fxa3,fxa4,fxu,fxn,fxl,↓fxp,lgc,absL,fitL,flatL,ares,ares1,ofVal,unSc,aload,afill,splice,abound,asI,elems,IntKind.bits,sortT,eqNil,closedL,allByte,patch,pendOK,numA,Value.cells,Value.oneCell',ibin,List.replicate,Option.elim,Nat.reduceAdd,Nat.reduceSub,Nat.reduceMul,Nat.reduceLT,Nat.reduceEqDiff,Nat.reduceLeDiff,Nat.reduceBEq,Int.reduceLE,Int.reduceLT,Int.reduceToNat,Int.reduceBNe,Int.reduceBEq,Int.reduceNeg,Int.reduceEq,Int.reduceNe,Nat.reduceBNe,Int.reduceAdd,Int.reduceSub,Int.reduceMul,Int.reducePow,Nat.reducePow,Int.reduceGT,Int.reduceGE,if_true,if_false,ite_true,ite_false,beq_self_eq_true,BEq.rfl,reduceCtorEq,eq_self,ne_eq,Function.comp_def,beq_iff_eq]
  refine c_Near fun s3 j3 => ?_
  simp only [e1.1, e1.2, e2, e3, Bool.true_and] at hK
  simp only [evf,↓evp,evq,evr,fxa0,fxa1,fxa2,fxa3,fxa4,fxu,fxn,fxl,↓fxp,lgc,absL,fitL,flatL,ares,ares1,ofVal,unSc,aload,afill,splice,abound,asI,elems,IntKind.bits,sortT,eqNil,closedL,allByte,patch,pendOK,numA,Value.cells,Value.oneCell',ibin,List.replicate,Option.elim,Nat.reduceAdd,Nat.reduceSub,Nat.reduceMul,Nat.reduceLT,Nat.reduceEqDiff,Nat.reduceLeDiff,Nat.reduceBEq,Int.reduceLE,Int.reduceLT,Int.reduceToNat,Int.reduceBNe,Int.reduceBEq,Int.reduceNeg,Int.reduceEq,Int.reduceNe,Nat.reduceBNe,Int.reduceAdd,Int.reduceSub,Int.reduceMul,Int.reducePow,Nat.reducePow,Int.reduceGT,Int.reduceGE,if_true,if_false,ite_true,ite_false,beq_self_eq_true,BEq.rfl,reduceCtorEq,eq_self,ne_eq,Function.comp_def,beq_iff_eq]
  exact hK _ ((g1.trans j2).trans j3)
/-! ### The index that is none -/
/-- No index: no pointer, or one that bears no maps. -/
inductive noIx (st : List Ob) : V → Prop where
  | nil : noIx st (.sc (.pointer none))
  | zero {id : Nat} : st[id]? = some (.cells [.sc (.map none), .sc (.map none)]) → noIx st (.ref id 0)
theorem noIx.grw {st s : List Ob} {v : V} (h : noIx st v) (k : Grw st s) : noIx s v := by
  cases h with
  | nil => exact .nil
  | zero h => exact .zero (k _ _ h)
theorem o_is0 {v : V} (hv : noIx st v) (hK : K (.sc (.bool false)) st) : acallF Try.prog pl (n + 1) m 57 [v] st K := by
  refine acallF_inF Try.func57 rfl rfl Try.ntmps57 (by simp) ?_
  cases hv with
  | nil => simp only [evf,↓evp,evq,evr,fxa0,fxa1,fxa2,fxa3,fxa4,fxu,fxn,fxl,↓fxp,lgc,absL,fitL,flatL,ares,ares1,ofVal,unSc,aload,afill,splice,abound,asI,elems,IntKind.bits,sortT,eqNil,closedL,allByte,patch,pendOK,numA,Value.cells,Value.oneCell',ibin,List.replicate,Option.elim,Nat.reduceAdd,Nat.reduceSub,Nat.reduceMul,Nat.reduceLT,Nat.reduceEqDiff,Nat.reduceLeDiff,Nat.reduceBEq,Int.reduceLE,Int.reduceLT,Int.reduceToNat,Int.reduceBNe,Int.reduceBEq,Int.reduceNeg,Int.reduceEq,Int.reduceNe,Nat.reduceBNe,Int.reduceAdd,Int.reduceSub,Int.reduceMul,Int.reducePow,Nat.reducePow,Int.reduceGT,Int.reduceGE,if_true,if_false,ite_true,ite_false,beq_self_eq_true,BEq.rfl,reduceCtorEq,eq_self,ne_eq,Function.comp_def,beq_iff_eq]; exact hK
  | zero h => simp only [h, evf,↓evp,evq,evr,fxa0,fxa1,fxa2,fxa3,fxa4,fxu,fxn,fxl,↓fxp,lgc,absL,fitL,flatL,ares,ares1,ofVal,unSc,aload,afill,splice,abound,asI,elems,IntKind.bits,sortT,eqNil,closedL,allByte,patch,pendOK,numA,Value.cells,Value.oneCell',ibin,List.replicate,Option.elim,Nat.reduceAdd,Nat.reduceSub,Nat.reduceMul,Nat.reduceLT,Nat.reduceEqDiff,Nat.reduceLeDiff,Nat.reduceBEq,Int.reduceLE,Int.reduceLT,Int.reduceToNat,Int.reduceBNe,Int.reduceBEq,Int.reduceNeg,Int.reduceEq,Int.reduceNe,Nat.reduceBNe,Int.reduceAdd,Int.reduceSub,Int.reduceMul,Int.reducePow,Nat.reducePow,Int.reduceGT,Int.reduceGE,if_true,if_false,ite_true,ite_false,beq_self_eq_true,BEq.rfl,reduceCtorEq,eq_self,ne_eq,Function.comp_def,beq_iff_eq]; exact hK
end
/-! ### Chapter 5: the index that is none tells nothing. -/
theorem set_new {st : List Ob} {o o' : Ob} : (st ++ [o]).set st.length o' = st ++ [o'] := by
  rw [List.set_append_right _ _ (Nat.le_refl _)]
  simp
theorem rf_done {S : List Ob} {a : Ob} {s : LoopState} {pl' : Nat → Option (List PI)} {t' t : List V} {ps' : List Tmp} {A B : Code} {K : ExK} {v : V} (hs : s ≠ .busy) (hk : K .normal t (S ++ [a, .loop .exhausted none pl' t' ps' A B])) : rfEnd (S.length + 1) K t v (S ++ [a, .loop s none pl' t' ps' A B]) := by
  refine rfEnd_normal (s := s) (pl' := pl') (t' := t') (ps' := ps') (a := A) (b := B) (by simp) hs ?_
  have : (S ++ [a, Ob.loop s none pl' t' ps' A B]).set (S.length + 1) (.loop .exhausted none pl' t' ps' A B) = S ++ [a, .loop .exhausted none pl' t' ps' A B] := by
    rw [List.set_append_right _ _ (by omega), Nat.add_sub_cancel_left]
    rfl
  rw [this]
  exact hk
section
variable {n m : Nat} {st : List Ob} {K : V → List Ob → Prop} {v : V} {x y w h id : Int}
theorem o_Put0 (hv : noIx st v) (hK : ∀ s, Grw st s → K (.sc (.int .i64 1)) s) : acallF Try.prog pl (n + 2) m 21 [v, .sc (.int .i64 id), .agg (rc x y w h)] st K := by
  refine acallF_inF Try.func21 rfl rfl Try.ntmps21 (by simp) ?_
  have g0 := Grw.push st [.cells (rc x y w h)]
  simp only [rc] at g0
  simp only [rc, evf,↓evp,evq,evr,fxa0,fxa1,fxa2,fxa3,fxa4,fxu,fxn,fxl,↓fxp,lgc,absL,fitL,flatL,ares,ares1,ofVal,unSc,aload,afill,splice,abound,asI,elems,IntKind.bits,sortT,eqNil,closedL,allByte,patch,pendOK,numA,Value.cells,Value.oneCell',ibin,List.replicate,Option.elim,Nat.reduceAdd,Nat.reduceSub,Nat.reduceMul,Nat.reduceLT,Nat.reduceEqDiff,Nat.reduceLeDiff,Nat.reduceBEq,Int.reduceLE,Int.reduceLT,Int.reduceToNat,Int.reduceBNe,Int.reduceBEq,Int.reduceNeg,Int.reduceEq,Int.reduceNe,Nat.reduceBNe,Int.reduceAdd,Int.reduceSub,Int.reduceMul,Int.reducePow,Nat.reducePow,Int.reduceGT,Int.reduceGE,if_true,if_false,ite_true,ite_false,beq_self_eq_true,BEq.rfl,reduceCtorEq,eq_self,ne_eq,Function.comp_def,beq_iff_eq]
  refine o_is0 (hv.grw g0) ?_
  simp only [evf,↓evp,evq,evr,fxa0,fxa1,fxa2,fxa3,fxa4,fxu,fxn,fxl,↓fxp,lgc,absL,fitL,flatL,ares,ares1,ofVal,unSc,aload,afill,splice,abound,asI,elems,IntKind.bits,sortT,eqNil,closedL,allByte,patch,pendOK,numA,Value.cells,Value.oneCell',ibin,List.replicate,Option.elim,Nat.reduceAdd,Nat.reduceSub,Nat.reduceMul,Nat.reduceLT,Nat.reduceEqDiff,Nat.reduceLeDiff,Nat.reduceBEq,Int.reduceLE,Int.reduceLT,Int.reduceToNat,Int.reduceBNe,Int.reduceBEq,Int.reduceNeg,Int.reduceEq,Int.reduceNe,Nat.reduceBNe,Int.reduceAdd,Int.reduceSub,Int.reduceMul,Int.reducePow,Nat.reducePow,Int.reduceGT,Int.reduceGE,if_true,if_false,ite_true,ite_false,beq_self_eq_true,BEq.rfl,reduceCtorEq,eq_self,ne_eq,Function.comp_def,beq_iff_eq]
  exact hK _ g0
theorem o_Move0 (hv : noIx st v) (hK : ∀ s, Grw st s → K (.sc (.int .i64 1)) s) : acallF Try.prog pl (n + 2) m 19 [v, .sc (.int .i64 id), .agg (cl x y)] st K := by
  refine acallF_inF Try.func19 rfl rfl Try.ntmps19 (by simp) ?_
  have g0 := Grw.push st [.cells (cl x y)]
  simp only [cl] at g0
  simp only [cl, evf,↓evp,evq,evr,fxa0,fxa1,fxa2,fxa3,fxa4,fxu,fxn,fxl,↓fxp,lgc,absL,fitL,flatL,ares,ares1,ofVal,unSc,aload,afill,splice,abound,asI,elems,IntKind.bits,sortT,eqNil,closedL,allByte,patch,pendOK,numA,Value.cells,Value.oneCell',ibin,List.replicate,Option.elim,Nat.reduceAdd,Nat.reduceSub,Nat.reduceMul,Nat.reduceLT,Nat.reduceEqDiff,Nat.reduceLeDiff,Nat.reduceBEq,Int.reduceLE,Int.reduceLT,Int.reduceToNat,Int.reduceBNe,Int.reduceBEq,Int.reduceNeg,Int.reduceEq,Int.reduceNe,Nat.reduceBNe,Int.reduceAdd,Int.reduceSub,Int.reduceMul,Int.reducePow,Nat.reducePow,Int.reduceGT,Int.reduceGE,if_true,if_false,ite_true,ite_false,beq_self_eq_true,BEq.rfl,reduceCtorEq,eq_self,ne_eq,Function.comp_def,beq_iff_eq]
  refine o_is0 (hv.grw g0) ?_
  simp only [evf,↓evp,evq,evr,fxa0,fxa1,fxa2,fxa3,fxa4,fxu,fxn,fxl,↓fxp,lgc,absL,fitL,flatL,ares,ares1,ofVal,unSc,aload,afill,splice,abound,asI,elems,IntKind.bits,sortT,eqNil,closedL,allByte,patch,pendOK,numA,Value.cells,Value.oneCell',ibin,List.replicate,Option.elim,Nat.reduceAdd,Nat.reduceSub,Nat.reduceMul,Nat.reduceLT,Nat.reduceEqDiff,Nat.reduceLeDiff,Nat.reduceBEq,Int.reduceLE,Int.reduceLT,Int.reduceToNat,Int.reduceBNe,Int.reduceBEq,Int.reduceNeg,Int.reduceEq,Int.reduceNe,Nat.reduceBNe,Int.reduceAdd,Int.reduceSub,Int.reduceMul,Int.reducePow,Nat.reducePow,Int.reduceGT,Int.reduceGE,if_true,if_false,ite_true,ite_false,beq_self_eq_true,BEq.rfl,reduceCtorEq,eq_self,ne_eq,Function.comp_def,beq_iff_eq]
  exact hK _ g0
theorem o_Take0 (hv : noIx st v) (hK : K (.sc (.int .i64 1)) st) : acallF Try.prog pl (n + 2) m 20 [v, .sc (.int .i64 id)] st K := by
  refine acallF_inF Try.func20 rfl rfl Try.ntmps20 (by simp) ?_
  simp only [evf,↓evp,evq,evr,fxa0,fxa1,fxa2,fxa3,fxa4,fxu,fxn,fxl,↓fxp,lgc,absL,fitL,flatL,ares,ares1,ofVal,unSc,aload,afill,splice,abound,asI,elems,IntKind.bits,sortT,eqNil,closedL,allByte,patch,pendOK,numA,Value.cells,Value.oneCell',ibin,List.replicate,Option.elim,Nat.reduceAdd,Nat.reduceSub,Nat.reduceMul,Nat.reduceLT,Nat.reduceEqDiff,Nat.reduceLeDiff,Nat.reduceBEq,Int.reduceLE,Int.reduceLT,Int.reduceToNat,Int.reduceBNe,Int.reduceBEq,Int.reduceNeg,Int.reduceEq,Int.reduceNe,Nat.reduceBNe,Int.reduceAdd,Int.reduceSub,Int.reduceMul,Int.reducePow,Nat.reducePow,Int.reduceGT,Int.reduceGE,if_true,if_false,ite_true,ite_false,beq_self_eq_true,BEq.rfl,reduceCtorEq,eq_self,ne_eq,Function.comp_def,beq_iff_eq]
  refine o_is0 hv ?_
  simp only [evf,↓evp,evq,evr,fxa0,fxa1,fxa2,fxa3,fxa4,fxu,fxn,fxl,↓fxp,lgc,absL,fitL,flatL,ares,ares1,ofVal,unSc,aload,afill,splice,abound,asI,elems,IntKind.bits,sortT,eqNil,closedL,allByte,patch,pendOK,numA,Value.cells,Value.oneCell',ibin,List.replicate,Option.elim,Nat.reduceAdd,Nat.reduceSub,Nat.reduceMul,Nat.reduceLT,Nat.reduceEqDiff,Nat.reduceLeDiff,Nat.reduceBEq,Int.reduceLE,Int.reduceLT,Int.reduceToNat,Int.reduceBNe,Int.reduceBEq,Int.reduceNeg,Int.reduceEq,Int.reduceNe,Nat.reduceBNe,Int.reduceAdd,Int.reduceSub,Int.reduceMul,Int.reducePow,Nat.reducePow,Int.reduceGT,Int.reduceGE,if_true,if_false,ite_true,ite_false,beq_self_eq_true,BEq.rfl,reduceCtorEq,eq_self,ne_eq,Function.comp_def,beq_iff_eq]
  exact hK
theorem o_Free0 (hv : noIx st v) (hK : ∀ s, Grw st s → K (.sc (.bool false)) s) : acallF Try.prog pl (n + 2) m 30 [v, .agg (rc x y w h), .sc (.int .i64 id)] st K := by
  refine acallF_inF Try.func30 rfl rfl Try.ntmps30 (by simp) ?_
  have g0 := Grw.push st [.cells (rc x y w h), .cells [.sc (.int .i64 id)]]
  simp only [rc] at g0
  simp only [rc, evf,↓evp,evq,evr,fxa0,fxa1,fxa2,fxa3,fxa4,fxu,fxn,fxl,↓fxp,lgc,absL,fitL,flatL,ares,ares1,ofVal,unSc,aload,afill,splice,abound,asI,elems,IntKind.bits,sortT,eqNil,closedL,allByte,patch,pendOK,numA,Value.cells,Value.oneCell',ibin,List.replicate,Option.elim,Nat.reduceAdd,Nat.reduceSub,Nat.reduceMul,Nat.reduceLT,Nat.reduceEqDiff,Nat.reduceLeDiff,Nat.reduceBEq,Int.reduceLE,Int.reduceLT,Int.reduceToNat,Int.reduceBNe,Int.reduceBEq,Int.reduceNeg,Int.reduceEq,Int.reduceNe,Nat.reduceBNe,Int.reduceAdd,Int.reduceSub,Int.reduceMul,Int.reducePow,Nat.reducePow,Int.reduceGT,Int.reduceGE,if_true,if_false,ite_true,ite_false,beq_self_eq_true,BEq.rfl,reduceCtorEq,eq_self,ne_eq,Function.comp_def,beq_iff_eq]
  refine o_is0 (hv.grw g0) ?_
  simp only [evf,↓evp,evq,evr,fxa0,fxa1,fxa2,fxa3,fxa4,fxu,fxn,fxl,↓fxp,lgc,absL,fitL,flatL,ares,ares1,ofVal,unSc,aload,afill,splice,abound,asI,elems,IntKind.bits,sortT,eqNil,closedL,allByte,patch,pendOK,numA,Value.cells,Value.oneCell',ibin,List.replicate,Option.elim,Nat.reduceAdd,Nat.reduceSub,Nat.reduceMul,Nat.reduceLT,Nat.reduceEqDiff,Nat.reduceLeDiff,Nat.reduceBEq,Int.reduceLE,Int.reduceLT,Int.reduceToNat,Int.reduceBNe,Int.reduceBEq,Int.reduceNeg,Int.reduceEq,Int.reduceNe,Nat.reduceBNe,Int.reduceAdd,Int.reduceSub,Int.reduceMul,Int.reducePow,Nat.reducePow,Int.reduceGT,Int.reduceGE,if_true,if_false,ite_true,ite_false,beq_self_eq_true,BEq.rfl,reduceCtorEq,eq_self,ne_eq,Function.comp_def,beq_iff_eq]
  exact hK _ g0
theorem o_At0 (hv : noIx st v) (hK : ∀ s, Grw st s → K (.tup [.sc (.int .i64 0), .sc (.bool false)]) s) : acallF Try.prog pl (n + 2) m 24 [v, .agg (cl x y)] st K := by
  refine acallF_inF Try.func24 rfl rfl Try.ntmps24 (by simp) ?_
  have g0 := Grw.push st [.cells (cl x y)]
  simp only [cl] at g0
  simp only [cl, evf,↓evp,evq,evr,fxa0,fxa1,fxa2,fxa3,fxa4,fxu,fxn,fxl,↓fxp,lgc,absL,fitL,flatL,ares,ares1,ofVal,unSc,aload,afill,splice,abound,asI,elems,IntKind.bits,sortT,eqNil,closedL,allByte,patch,pendOK,numA,Value.cells,Value.oneCell',ibin,List.replicate,Option.elim,Nat.reduceAdd,Nat.reduceSub,Nat.reduceMul,Nat.reduceLT,Nat.reduceEqDiff,Nat.reduceLeDiff,Nat.reduceBEq,Int.reduceLE,Int.reduceLT,Int.reduceToNat,Int.reduceBNe,Int.reduceBEq,Int.reduceNeg,Int.reduceEq,Int.reduceNe,Nat.reduceBNe,Int.reduceAdd,Int.reduceSub,Int.reduceMul,Int.reducePow,Nat.reducePow,Int.reduceGT,Int.reduceGE,if_true,if_false,ite_true,ite_false,beq_self_eq_true,BEq.rfl,reduceCtorEq,eq_self,ne_eq,Function.comp_def,beq_iff_eq]
  refine o_is0 (hv.grw g0) ?_
  simp only [evf,↓evp,evq,evr,fxa0,fxa1,fxa2,fxa3,fxa4,fxu,fxn,fxl,↓fxp,lgc,absL,fitL,flatL,ares,ares1,ofVal,unSc,aload,afill,splice,abound,asI,elems,IntKind.bits,sortT,eqNil,closedL,allByte,patch,pendOK,numA,Value.cells,Value.oneCell',ibin,List.replicate,Option.elim,Nat.reduceAdd,Nat.reduceSub,Nat.reduceMul,Nat.reduceLT,Nat.reduceEqDiff,Nat.reduceLeDiff,Nat.reduceBEq,Int.reduceLE,Int.reduceLT,Int.reduceToNat,Int.reduceBNe,Int.reduceBEq,Int.reduceNeg,Int.reduceEq,Int.reduceNe,Nat.reduceBNe,Int.reduceAdd,Int.reduceSub,Int.reduceMul,Int.reducePow,Nat.reducePow,Int.reduceGT,Int.reduceGE,if_true,if_false,ite_true,ite_false,beq_self_eq_true,BEq.rfl,reduceCtorEq,eq_self,ne_eq,Function.comp_def,beq_iff_eq]
  exact hK _ g0
theorem o_Find0 (hv : noIx st v) (hK : ∀ s, Grw st s → K (.tup [.agg (rc 0 0 0 0), .sc (.bool false)]) s) : acallF Try.prog pl (n + 2) m 26 [v, .sc (.int .i64 id)] st K := by
  refine acallF_inF Try.func26 rfl rfl Try.ntmps26 (by simp) ?_
  have g0 := Grw.push st [.cells (rc 0 0 0 0)]
  have x0 : (st ++ [Ob.cells (rc 0 0 0 0)])[st.length]? = some (.cells (rc 0 0 0 0)) := get_new0 _ _
  simp only [rc] at g0 x0
  simp only [evf,↓evp,evq,evr,fxa0,fxa1,fxa2,fxa3,fxa4,fxu,fxn,fxl,↓fxp,lgc,absL,fitL,flatL,ares,ares1,ofVal,unSc,aload,afill,splice,abound,asI,elems,IntKind.bits,sortT,eqNil,closedL,allByte,patch,pendOK,numA,Value.cells,Value.oneCell',ibin,List.replicate,Option.elim,Nat.reduceAdd,Nat.reduceSub,Nat.reduceMul,Nat.reduceLT,Nat.reduceEqDiff,Nat.reduceLeDiff,Nat.reduceBEq,Int.reduceLE,Int.reduceLT,Int.reduceToNat,Int.reduceBNe,Int.reduceBEq,Int.reduceNeg,Int.reduceEq,Int.reduceNe,Nat.reduceBNe,Int.reduceAdd,Int.reduceSub,Int.reduceMul,Int.reducePow,Nat.reducePow,Int.reduceGT,Int.reduceGE,if_true,if_false,ite_true,ite_false,beq_self_eq_true,BEq.rfl,reduceCtorEq,eq_self,ne_eq,Function.comp_def,beq_iff_eq]
  refine o_is0 (hv.grw g0) ?_
  simp only [x0, set_new, evf,↓evp,evq,evr,fxa0,fxa1,fxa2,fxa3,fxa4,fxu,fxn,fxl,↓fxp,lgc,absL,fitL,flatL,ares,ares1,ofVal,unSc,aload,afill,splice,abound,asI,elems,IntKind.bits,sortT,eqNil,closedL,allByte,patch,pendOK,numA,Value.cells,Value.oneCell',ibin,List.replicate,Option.elim,Nat.reduceAdd,Nat.reduceSub,Nat.reduceMul,Nat.reduceLT,Nat.reduceEqDiff,Nat.reduceLeDiff,Nat.reduceBEq,Int.reduceLE,Int.reduceLT,Int.reduceToNat,Int.reduceBNe,Int.reduceBEq,Int.reduceNeg,Int.reduceEq,Int.reduceNe,Nat.reduceBNe,Int.reduceAdd,Int.reduceSub,Int.reduceMul,Int.reducePow,Nat.reducePow,Int.reduceGT,Int.reduceGE,if_true,if_false,ite_true,ite_false,beq_self_eq_true,BEq.rfl,reduceCtorEq,eq_self,ne_eq,Function.comp_def,beq_iff_eq]
  exact hK _ g0
theorem o_Len0 (hv : noIx st v) (hK : K (.sc (.int .i64 0)) st) : acallF Try.prog pl (n + 2) m 31 [v] st K := by
  refine acallF_inF Try.func31 rfl rfl Try.ntmps31 (by simp) ?_
  simp only [evf,↓evp,evq,evr,fxa0,fxa1,fxa2,fxa3,fxa4,fxu,fxn,fxl,↓fxp,lgc,absL,fitL,flatL,ares,ares1,ofVal,unSc,aload,afill,splice,abound,asI,elems,IntKind.bits,sortT,eqNil,closedL,allByte,patch,pendOK,numA,Value.cells,Value.oneCell',ibin,List.replicate,Option.elim,Nat.reduceAdd,Nat.reduceSub,Nat.reduceMul,Nat.reduceLT,Nat.reduceEqDiff,Nat.reduceLeDiff,Nat.reduceBEq,Int.reduceLE,Int.reduceLT,Int.reduceToNat,Int.reduceBNe,Int.reduceBEq,Int.reduceNeg,Int.reduceEq,Int.reduceNe,Nat.reduceBNe,Int.reduceAdd,Int.reduceSub,Int.reduceMul,Int.reducePow,Nat.reducePow,Int.reduceGT,Int.reduceGE,if_true,if_false,ite_true,ite_false,beq_self_eq_true,BEq.rfl,reduceCtorEq,eq_self,ne_eq,Function.comp_def,beq_iff_eq]
  refine o_is0 hv ?_
  simp only [evf,↓evp,evq,evr,fxa0,fxa1,fxa2,fxa3,fxa4,fxu,fxn,fxl,↓fxp,lgc,absL,fitL,flatL,ares,ares1,ofVal,unSc,aload,afill,splice,abound,asI,elems,IntKind.bits,sortT,eqNil,closedL,allByte,patch,pendOK,numA,Value.cells,Value.oneCell',ibin,List.replicate,Option.elim,Nat.reduceAdd,Nat.reduceSub,Nat.reduceMul,Nat.reduceLT,Nat.reduceEqDiff,Nat.reduceLeDiff,Nat.reduceBEq,Int.reduceLE,Int.reduceLT,Int.reduceToNat,Int.reduceBNe,Int.reduceBEq,Int.reduceNeg,Int.reduceEq,Int.reduceNe,Nat.reduceBNe,Int.reduceAdd,Int.reduceSub,Int.reduceMul,Int.reducePow,Nat.reducePow,Int.reduceGT,Int.reduceGE,if_true,if_false,ite_true,ite_false,beq_self_eq_true,BEq.rfl,reduceCtorEq,eq_self,ne_eq,Function.comp_def,beq_iff_eq]
  exact hK
theorem o_All (ho : one v = true) (hc : cellsV v = [v]) (hK : K (.fn (.func 63) [.ref st.length 0]) (st ++ [.cells [v]])) : acallF Try.prog pl (n + 1) m 22 [v] st K := by
  refine acallF_inF Try.func22 rfl rfl Try.ntmps22 (by simp) ?_
  simp only [ho, hc, evf,↓evp,evq,evr,fxa0,fxa1,fxa2,fxa3,fxa4,fxu,fxn,fxl,↓fxp,lgc,absL,fitL,flatL,ares,ares1,ofVal,unSc,aload,afill,splice,abound,asI,elems,IntKind.bits,sortT,eqNil,closedL,allByte,patch,pendOK,numA,Value.cells,Value.oneCell',ibin,List.replicate,Option.elim,Nat.reduceAdd,Nat.reduceSub,Nat.reduceMul,Nat.reduceLT,Nat.reduceEqDiff,Nat.reduceLeDiff,Nat.reduceBEq,Int.reduceLE,Int.reduceLT,Int.reduceToNat,Int.reduceBNe,Int.reduceBEq,Int.reduceNeg,Int.reduceEq,Int.reduceNe,Nat.reduceBNe,Int.reduceAdd,Int.reduceSub,Int.reduceMul,Int.reducePow,Nat.reducePow,Int.reduceGT,Int.reduceGE,if_true,if_false,ite_true,ite_false,beq_self_eq_true,BEq.rfl,reduceCtorEq,eq_self,ne_eq,Function.comp_def,beq_iff_eq]
  exact hK
theorem o_All0 {b l : Nat} (hb : st[b]? = some (.cells [v])) (hv : noIx st v) (hK : K (.tup []) st) : acallF Try.prog pl (n + 2) m 63 [.yl l, .ref b 0] st K := by
  refine acallF_inF Try.func63 rfl rfl Try.ntmps63 (by simp) ?_
  simp only [hb, evf,↓evp,evq,evr,fxa0,fxa1,fxa2,fxa3,fxa4,fxu,fxn,fxl,↓fxp,lgc,absL,fitL,flatL,ares,ares1,ofVal,unSc,aload,afill,splice,abound,asI,elems,IntKind.bits,sortT,eqNil,closedL,allByte,patch,pendOK,numA,Value.cells,Value.oneCell',ibin,List.replicate,Option.elim,Nat.reduceAdd,Nat.reduceSub,Nat.reduceMul,Nat.reduceLT,Nat.reduceEqDiff,Nat.reduceLeDiff,Nat.reduceBEq,Int.reduceLE,Int.reduceLT,Int.reduceToNat,Int.reduceBNe,Int.reduceBEq,Int.reduceNeg,Int.reduceEq,Int.reduceNe,Nat.reduceBNe,Int.reduceAdd,Int.reduceSub,Int.reduceMul,Int.reducePow,Nat.reducePow,Int.reduceGT,Int.reduceGE,if_true,if_false,ite_true,ite_false,beq_self_eq_true,BEq.rfl,reduceCtorEq,eq_self,ne_eq,Function.comp_def,beq_iff_eq]
  refine o_is0 hv ?_
  simp only [evf,↓evp,evq,evr,fxa0,fxa1,fxa2,fxa3,fxa4,fxu,fxn,fxl,↓fxp,lgc,absL,fitL,flatL,ares,ares1,ofVal,unSc,aload,afill,splice,abound,asI,elems,IntKind.bits,sortT,eqNil,closedL,allByte,patch,pendOK,numA,Value.cells,Value.oneCell',ibin,List.replicate,Option.elim,Nat.reduceAdd,Nat.reduceSub,Nat.reduceMul,Nat.reduceLT,Nat.reduceEqDiff,Nat.reduceLeDiff,Nat.reduceBEq,Int.reduceLE,Int.reduceLT,Int.reduceToNat,Int.reduceBNe,Int.reduceBEq,Int.reduceNeg,Int.reduceEq,Int.reduceNe,Nat.reduceBNe,Int.reduceAdd,Int.reduceSub,Int.reduceMul,Int.reducePow,Nat.reducePow,Int.reduceGT,Int.reduceGE,if_true,if_false,ite_true,ite_false,beq_self_eq_true,BEq.rfl,reduceCtorEq,eq_self,ne_eq,Function.comp_def,beq_iff_eq]
  exact hK
theorem noIx.one {st : List Ob} {v : V} (h : noIx st v) : M.one v = true ∧ cellsV v = [v] := by
  cases h <;> exact ⟨rfl, rfl⟩
theorem o_Within0 (hv : noIx st v) (hK : ∀ s, Grw st s → K (.tsl [] 0 true true) s) : acallF Try.prog pl (n + 3) m 28 [v, .agg (rc x y w h)] st K := by
  refine acallF_inF Try.func28 rfl rfl Try.ntmps28 (by simp) ?_
  obtain ⟨ho, hc⟩ := hv.one
  obtain ⟨S, hS⟩ : ∃ S, S = st ++ [.cells (rc x y w h), .cells [.tsl [] 0 true true]] := ⟨_, rfl⟩
  have g0 : Grw st S := by rw [hS]; exact .push _ _
  have c0 : S[st.length + 1]? = some (.cells [.tsl [] 0 true true]) := by rw [hS]; simp
  simp only [rc] at hS
  simp only [rc, evf,↓evp,evq,evr,fxa0,fxa1,fxa2,fxa3,fxa4,fxu,fxn,fxl,↓fxp,lgc,absL,fitL,flatL,ares,ares1,ofVal,unSc,aload,afill,splice,abound,asI,elems,IntKind.bits,sortT,eqNil,closedL,allByte,patch,pendOK,numA,Value.cells,Value.oneCell',ibin,List.replicate,Option.elim,Nat.reduceAdd,Nat.reduceSub,Nat.reduceMul,Nat.reduceLT,Nat.reduceEqDiff,Nat.reduceLeDiff,Nat.reduceBEq,Int.reduceLE,Int.reduceLT,Int.reduceToNat,Int.reduceBNe,Int.reduceBEq,Int.reduceNeg,Int.reduceEq,Int.reduceNe,Nat.reduceBNe,Int.reduceAdd,Int.reduceSub,Int.reduceMul,Int.reducePow,Nat.reducePow,Int.reduceGT,Int.reduceGE,if_true,if_false,ite_true,ite_false,beq_self_eq_true,BEq.rfl,reduceCtorEq,eq_self,ne_eq,Function.comp_def,beq_iff_eq]
  rw [← hS]
  refine o_All ho hc ?_
  simp only [evf,↓evp,evq,evr,fxa0,fxa1,fxa2,fxa3,fxa4,fxu,fxn,fxl,↓fxp,lgc,absL,fitL,flatL,ares,ares1,ofVal,unSc,aload,afill,splice,abound,asI,elems,IntKind.bits,sortT,eqNil,closedL,allByte,patch,pendOK,numA,Value.cells,Value.oneCell',ibin,List.replicate,Option.elim,Nat.reduceAdd,Nat.reduceSub,Nat.reduceMul,Nat.reduceLT,Nat.reduceEqDiff,Nat.reduceLeDiff,Nat.reduceBEq,Int.reduceLE,Int.reduceLT,Int.reduceToNat,Int.reduceBNe,Int.reduceBEq,Int.reduceNeg,Int.reduceEq,Int.reduceNe,Nat.reduceBNe,Int.reduceAdd,Int.reduceSub,Int.reduceMul,Int.reducePow,Nat.reducePow,Int.reduceGT,Int.reduceGE,if_true,if_false,ite_true,ite_false,beq_self_eq_true,BEq.rfl,reduceCtorEq,eq_self,ne_eq,Function.comp_def,beq_iff_eq]
  refine o_All0 (get_new0 _ _) ((hv.grw g0).grw (.push _ _)) ?_
  have c1 : ∀ X, (S ++ X)[st.length + 1]? = some (.cells [.tsl [] 0 true true]) := fun X => Grw.push S X _ _ c0
  refine rf_done (by simp) ?_
  simp only [c1, evf,↓evp,evq,evr,fxa0,fxa1,fxa2,fxa3,fxa4,fxu,fxn,fxl,↓fxp,lgc,absL,fitL,flatL,ares,ares1,ofVal,unSc,aload,afill,splice,abound,asI,elems,IntKind.bits,sortT,eqNil,closedL,allByte,patch,pendOK,numA,Value.cells,Value.oneCell',ibin,List.replicate,Option.elim,Nat.reduceAdd,Nat.reduceSub,Nat.reduceMul,Nat.reduceLT,Nat.reduceEqDiff,Nat.reduceLeDiff,Nat.reduceBEq,Int.reduceLE,Int.reduceLT,Int.reduceToNat,Int.reduceBNe,Int.reduceBEq,Int.reduceNeg,Int.reduceEq,Int.reduceNe,Nat.reduceBNe,Int.reduceAdd,Int.reduceSub,Int.reduceMul,Int.reducePow,Nat.reducePow,Int.reduceGT,Int.reduceGE,if_true,if_false,ite_true,ite_false,beq_self_eq_true,BEq.rfl,reduceCtorEq,eq_self,ne_eq,Function.comp_def,beq_iff_eq]
  exact hK _ (g0.push' _)
end
/-! ### Chapter 3: a rectangle's cells, one by one. -/
theorem yl_fsz {n m N : Nat} {a : List V} {s : List Ob} {K : V → List Ob → Prop} (h : Try.prog.funcs.size = N) (q : acallF Try.prog pl n m Try.prog.funcs.size a s K) : acallF Try.prog pl n m N a s K := h ▸ q
theorem may_facts {x y w h : Int} (hm : mayB x y w h = true) : (-1048576 ≤ x ∧ x ≤ 1048576) ∧ (-1048576 ≤ y ∧ y ≤ 1048576) ∧ (1 ≤ w ∧ w ≤ 1048576) ∧ (1 ≤ h ∧ h ≤ 1048576) ∧ (x + w - 1 ≤ 1048576) ∧ (y + h - 1 ≤ 1048576) := by
  simp only [mayB, nearB, sideB, Bool.and_eq_true, decide_eq_true_eq] at hm
  omega
section
variable {n m : Nat} {st : List Ob} {K : V → List Ob → Prop} {x y : Int}
theorem c_Cells {w h : Int} (hK : K (.fn (.func 106) [.ref st.length 0]) (st ++ [.cells (rc x y w h)])) : acallF Try.prog pl (n + 1) m 82 [.agg (rc x y w h)] st K := by
  refine acallF_inF Try.func82 rfl rfl Try.ntmps82 (by simp) ?_
  simp only [rc] at hK
  simp only [rc, evf,↓evp,evq,evr,fxa0,fxa1,fxa2,fxa3,fxa4,fxu,fxn,fxl,↓fxp,lgc,absL,fitL,flatL,ares,ares1,ofVal,unSc,aload,afill,splice,abound,asI,elems,IntKind.bits,sortT,eqNil,closedL,allByte,patch,pendOK,numA,Value.cells,Value.oneCell',ibin,List.replicate,Option.elim,Nat.reduceAdd,Nat.reduceSub,Nat.reduceMul,Nat.reduceLT,Nat.reduceEqDiff,Nat.reduceLeDiff,Nat.reduceBEq,Int.reduceLE,Int.reduceLT,Int.reduceToNat,Int.reduceBNe,Int.reduceBEq,Int.reduceNeg,Int.reduceEq,Int.reduceNe,Nat.reduceBNe,Int.reduceAdd,Int.reduceSub,Int.reduceMul,Int.reducePow,Nat.reducePow,Int.reduceGT,Int.reduceGE,if_true,if_false,ite_true,ite_false,beq_self_eq_true,BEq.rfl,reduceCtorEq,eq_self,ne_eq,Function.comp_def,beq_iff_eq]
  exact hK
set_option maxHeartbeats 2000000 in
theorem c_Cells1 {l rb W H : Nat} {I : Nat → List Ob → Prop} {J : List Ob → Prop} (hmay : mayB x y W H = true) (hm : W < m) (hm2 : H < m)
    (keep : ∀ k s, I k s → s[rb]? = some (.cells (rc x y W H))) (grow : ∀ k s s', I k s → Grw s s' → I k s') (h0 : I 0 st)
    (step : ∀ (j i : Nat) (s : List Ob) (K' : V → List Ob → Prop), j < H → i < W → I (j * W + i) s → (∀ s', I (j * W + i + 1) s' → K' (.sc (.bool true)) s') → (∀ s', J s' → K' (.sc (.bool false)) s') → acallF Try.prog pl (n + 3) m Try.prog.funcs.size [.yl l, .agg (cl (x + i) (y + j))] s K')
    (hend : ∀ s, I (H * W) s → K (.tup []) s) (hstop : ∀ s, J s → K (.tup []) s) : acallF Try.prog pl (n + 4) m 106 [.yl l, .ref rb 0] st K := by
  refine acallF_inF Try.func106 rfl rfl Try.ntmps106 (by simp) ?_
  have c0 := keep _ _ h0
  obtain ⟨fx, fy, fw, fh, fx2, fy2⟩ := may_facts hmay
  simp only [rc] at c0
  simp only [c0, evf,↓evp,evq,evr,fxa0,fxa1,fxa2,fxa3,fxa4,fxu,fxn,fxl,↓fxp,lgc,absL,fitL,flatL,ares,ares1,ofVal,unSc,aload,afill,splice,abound,asI,elems,IntKind.bits,sortT,eqNil,closedL,allByte,patch,pendOK,numA,Value.cells,Value.oneCell',ibin,List.replicate,Option.elim,Nat.reduceAdd,Nat.reduceSub,Nat.reduceMul,Nat.reduceLT,Nat.reduceEqDiff,Nat.reduceLeDiff,Nat.reduceBEq,Int.reduceLE,Int.reduceLT,Int.reduceToNat,Int.reduceBNe,Int.reduceBEq,Int.reduceNeg,Int.reduceEq,Int.reduceNe,Nat.reduceBNe,Int.reduceAdd,Int.reduceSub,Int.reduceMul,Int.reducePow,Nat.reducePow,Int.reduceGT,Int.reduceGE,if_true,if_false,ite_true,ite_false,beq_self_eq_true,BEq.rfl,reduceCtorEq,eq_self,ne_eq,Function.comp_def,beq_iff_eq]
  refine c_May (n := n) fun s1 g1 => ?_
  have i1 := grow _ _ _ h0 g1
  have c1 := g1 _ _ c0
  simp only [hmay, c1, evf,↓evp,evq,evr,fxa0,fxa1,fxa2,fxa3,fxa4,fxu,fxn,fxl,↓fxp,lgc,absL,fitL,flatL,ares,ares1,ofVal,unSc,aload,afill,splice,abound,asI,elems,IntKind.bits,sortT,eqNil,closedL,allByte,patch,pendOK,numA,Value.cells,Value.oneCell',ibin,List.replicate,Option.elim,Nat.reduceAdd,Nat.reduceSub,Nat.reduceMul,Nat.reduceLT,Nat.reduceEqDiff,Nat.reduceLeDiff,Nat.reduceBEq,Int.reduceLE,Int.reduceLT,Int.reduceToNat,Int.reduceBNe,Int.reduceBEq,Int.reduceNeg,Int.reduceEq,Int.reduceNe,Nat.reduceBNe,Int.reduceAdd,Int.reduceSub,Int.reduceMul,Int.reducePow,Nat.reducePow,Int.reduceGT,Int.reduceGE,if_true,if_false,ite_true,ite_false,beq_self_eq_true,BEq.rfl,reduceCtorEq,eq_self,ne_eq,Function.comp_def,beq_iff_eq]
  refine aloop_forF (fun k f s => ∃ j : Nat, k + j = m ∧ j ≤ H ∧ I (j * W) s ∧ f 0 = .yl l ∧ f 1 = .ref rb 0 ∧ f 9 = .sc (.int .i64 H) ∧ f 10 = .sc (.int .i64 j)) ⟨0, by omega, by omega, by simpa using i1, by simp only [evf, ne_eq, Nat.reduceEqDiff, Nat.reduceLT, not_false_eq_true], by simp only [evf, ne_eq, Nat.reduceEqDiff, Nat.reduceLT, not_false_eq_true], by simp only [evf, ne_eq, Nat.reduceEqDiff, Nat.reduceLT, not_false_eq_true], by simp only [evf, ne_eq, Nat.reduceEqDiff, Nat.reduceLT, not_false_eq_true]; rfl⟩ ?_
  rintro I' hI' k f s ⟨j, hk, hj, hI, f0, f1, f9, f10⟩
  refine ⟨k - 1, by omega, ?_⟩
  by_cases hjl : j < H
  · have d : decide ((j : Int) < H) = true := decide_eq_true (by omega)
    have c2 := keep _ _ hI
    simp only [rc] at c2
    simp only [f0, f1, f9, f10, c2, d, evf,↓evp,evq,evr,fxa0,fxa1,fxa2,fxa3,fxa4,fxu,fxn,fxl,↓fxp,lgc,absL,fitL,flatL,ares,ares1,ofVal,unSc,aload,afill,splice,abound,asI,elems,IntKind.bits,sortT,eqNil,closedL,allByte,patch,pendOK,numA,Value.cells,Value.oneCell',ibin,List.replicate,Option.elim,Nat.reduceAdd,Nat.reduceSub,Nat.reduceMul,Nat.reduceLT,Nat.reduceEqDiff,Nat.reduceLeDiff,Nat.reduceBEq,Int.reduceLE,Int.reduceLT,Int.reduceToNat,Int.reduceBNe,Int.reduceBEq,Int.reduceNeg,Int.reduceEq,Int.reduceNe,Nat.reduceBNe,Int.reduceAdd,Int.reduceSub,Int.reduceMul,Int.reducePow,Nat.reducePow,Int.reduceGT,Int.reduceGE,if_true,if_false,ite_true,ite_false,beq_self_eq_true,BEq.rfl,reduceCtorEq,eq_self,ne_eq,Function.comp_def,beq_iff_eq]
    refine aloop_forF (fun k f s => ∃ i : Nat, k + i = m ∧ i ≤ W ∧ I (j * W + i) s ∧ f 0 = .yl l ∧ f 1 = .ref rb 0 ∧ f 3 = .sc (.int .i64 j) ∧ f 9 = .sc (.int .i64 H) ∧ f 10 = .sc (.int .i64 j) ∧ f 14 = .sc (.int .i64 W) ∧ f 15 = .sc (.int .i64 i)) ⟨0, by omega, by omega, by simpa using hI, by simp only [f0, evf, ne_eq, Nat.reduceEqDiff, Nat.reduceLT, not_false_eq_true], by simp only [f1, evf, ne_eq, Nat.reduceEqDiff, Nat.reduceLT, not_false_eq_true], by simp only [evf, ne_eq, Nat.reduceEqDiff, Nat.reduceLT, not_false_eq_true], by simp only [f9, evf, ne_eq, Nat.reduceEqDiff, Nat.reduceLT, not_false_eq_true], by simp only [f10, evf, ne_eq, Nat.reduceEqDiff, Nat.reduceLT, not_false_eq_true], by simp only [evf, ne_eq, Nat.reduceEqDiff, Nat.reduceLT, not_false_eq_true], by simp only [evf, ne_eq, Nat.reduceEqDiff, Nat.reduceLT, not_false_eq_true]; rfl⟩ ?_
    rintro I2 hI2 k2 f s ⟨i, hk2, hi, hIi, f0, f1, f3, f9, f10, f14, f15⟩
    refine ⟨k2 - 1, by omega, ?_⟩
    by_cases hil : i < W
    · have d2 : decide ((i : Int) < W) = true := decide_eq_true (by omega)
      have c3 := keep _ _ hIi
      simp only [rc] at c3
      have e1 : IntKind.i64.wrap (x + i) = x + i := wi64 (by omega) (by omega)
      have e2 : IntKind.i64.wrap (y + j) = y + j := wi64 (by omega) (by omega)
      have e3 : IntKind.i64.wrap ((i : Int) + 1) = ((i + 1 : Nat) : Int) := by rw [IntWalk.i64_in _ (by omega)]; rfl
      simp only [f0, f1, f3, f9, f10, f14, f15, c3, d2, e1, e2, evf,↓evp,evq,evr,fxa0,fxa1,fxa2,fxa3,fxa4,fxu,fxn,fxl,↓fxp,lgc,absL,fitL,flatL,ares,ares1,ofVal,unSc,aload,afill,splice,abound,asI,elems,IntKind.bits,sortT,eqNil,closedL,allByte,patch,pendOK,numA,Value.cells,Value.oneCell',ibin,List.replicate,Option.elim,Nat.reduceAdd,Nat.reduceSub,Nat.reduceMul,Nat.reduceLT,Nat.reduceEqDiff,Nat.reduceLeDiff,Nat.reduceBEq,Int.reduceLE,Int.reduceLT,Int.reduceToNat,Int.reduceBNe,Int.reduceBEq,Int.reduceNeg,Int.reduceEq,Int.reduceNe,Nat.reduceBNe,Int.reduceAdd,Int.reduceSub,Int.reduceMul,Int.reducePow,Nat.reducePow,Int.reduceGT,Int.reduceGE,if_true,if_false,ite_true,ite_false,beq_self_eq_true,BEq.rfl,reduceCtorEq,eq_self,ne_eq,Function.comp_def,beq_iff_eq]
      refine yl_fsz fsz (step j i s _ hjl hil hIi (fun s' h' => ?_) fun s' h' => ?_)
      · simp only [f0, f1, f3, f9, f10, f14, f15, e3, evf,↓evp,evq,evr,fxa0,fxa1,fxa2,fxa3,fxa4,fxu,fxn,fxl,↓fxp,lgc,absL,fitL,flatL,ares,ares1,ofVal,unSc,aload,afill,splice,abound,asI,elems,IntKind.bits,sortT,eqNil,closedL,allByte,patch,pendOK,numA,Value.cells,Value.oneCell',ibin,List.replicate,Option.elim,Nat.reduceAdd,Nat.reduceSub,Nat.reduceMul,Nat.reduceLT,Nat.reduceEqDiff,Nat.reduceLeDiff,Nat.reduceBEq,Int.reduceLE,Int.reduceLT,Int.reduceToNat,Int.reduceBNe,Int.reduceBEq,Int.reduceNeg,Int.reduceEq,Int.reduceNe,Nat.reduceBNe,Int.reduceAdd,Int.reduceSub,Int.reduceMul,Int.reducePow,Nat.reducePow,Int.reduceGT,Int.reduceGE,if_true,if_false,ite_true,ite_false,beq_self_eq_true,BEq.rfl,reduceCtorEq,eq_self,ne_eq,Function.comp_def,beq_iff_eq]
        exact hI2 _ _ _ ⟨i + 1, by omega, hil, h', by simp only [f0, evf, ne_eq, Nat.reduceEqDiff, Nat.reduceLT, not_false_eq_true], by simp only [f1, evf, ne_eq, Nat.reduceEqDiff, Nat.reduceLT, not_false_eq_true], by simp only [f3, evf, ne_eq, Nat.reduceEqDiff, Nat.reduceLT, not_false_eq_true], by simp only [f9, evf, ne_eq, Nat.reduceEqDiff, Nat.reduceLT, not_false_eq_true], by simp only [f10, evf, ne_eq, Nat.reduceEqDiff, Nat.reduceLT, not_false_eq_true], by simp only [f14, evf, ne_eq, Nat.reduceEqDiff, Nat.reduceLT, not_false_eq_true], by simp only [evf, ne_eq, Nat.reduceEqDiff, Nat.reduceLT, not_false_eq_true]⟩
      · simp only [evf,↓evp,evq,evr,fxa0,fxa1,fxa2,fxa3,fxa4,fxu,fxn,fxl,↓fxp,lgc,absL,fitL,flatL,ares,ares1,ofVal,unSc,aload,afill,splice,abound,asI,elems,IntKind.bits,sortT,eqNil,closedL,allByte,patch,pendOK,numA,Value.cells,Value.oneCell',ibin,List.replicate,Option.elim,Nat.reduceAdd,Nat.reduceSub,Nat.reduceMul,Nat.reduceLT,Nat.reduceEqDiff,Nat.reduceLeDiff,Nat.reduceBEq,Int.reduceLE,Int.reduceLT,Int.reduceToNat,Int.reduceBNe,Int.reduceBEq,Int.reduceNeg,Int.reduceEq,Int.reduceNe,Nat.reduceBNe,Int.reduceAdd,Int.reduceSub,Int.reduceMul,Int.reducePow,Nat.reducePow,Int.reduceGT,Int.reduceGE,if_true,if_false,ite_true,ite_false,beq_self_eq_true,BEq.rfl,reduceCtorEq,eq_self,ne_eq,Function.comp_def,beq_iff_eq]
        exact hstop _ h'
    · have d2 : decide ((i : Int) < W) = false := decide_eq_false (by omega)
      obtain rfl : i = W := by omega
      have e3 : IntKind.i64.wrap ((j : Int) + 1) = ((j + 1 : Nat) : Int) := by rw [IntWalk.i64_in _ (by omega)]; rfl
      simp only [f0, f1, f3, f9, f10, f14, f15, d2, e3, evf,↓evp,evq,evr,fxa0,fxa1,fxa2,fxa3,fxa4,fxu,fxn,fxl,↓fxp,lgc,absL,fitL,flatL,ares,ares1,ofVal,unSc,aload,afill,splice,abound,asI,elems,IntKind.bits,sortT,eqNil,closedL,allByte,patch,pendOK,numA,Value.cells,Value.oneCell',ibin,List.replicate,Option.elim,Nat.reduceAdd,Nat.reduceSub,Nat.reduceMul,Nat.reduceLT,Nat.reduceEqDiff,Nat.reduceLeDiff,Nat.reduceBEq,Int.reduceLE,Int.reduceLT,Int.reduceToNat,Int.reduceBNe,Int.reduceBEq,Int.reduceNeg,Int.reduceEq,Int.reduceNe,Nat.reduceBNe,Int.reduceAdd,Int.reduceSub,Int.reduceMul,Int.reducePow,Nat.reducePow,Int.reduceGT,Int.reduceGE,if_true,if_false,ite_true,ite_false,beq_self_eq_true,BEq.rfl,reduceCtorEq,eq_self,ne_eq,Function.comp_def,beq_iff_eq]
      exact hI' _ _ _ ⟨j + 1, by omega, hjl, by rw [Nat.succ_mul]; exact hIi, by simp only [f0, evf, ne_eq, Nat.reduceEqDiff, Nat.reduceLT, not_false_eq_true], by simp only [f1, evf, ne_eq, Nat.reduceEqDiff, Nat.reduceLT, not_false_eq_true], by simp only [f9, evf, ne_eq, Nat.reduceEqDiff, Nat.reduceLT, not_false_eq_true], by simp only [evf, ne_eq, Nat.reduceEqDiff, Nat.reduceLT, not_false_eq_true]⟩
  · have d : decide ((j : Int) < H) = false := decide_eq_false (by omega)
    obtain rfl : j = H := by omega
    simp only [f0, f1, f9, f10, d, evf,↓evp,evq,evr,fxa0,fxa1,fxa2,fxa3,fxa4,fxu,fxn,fxl,↓fxp,lgc,absL,fitL,flatL,ares,ares1,ofVal,unSc,aload,afill,splice,abound,asI,elems,IntKind.bits,sortT,eqNil,closedL,allByte,patch,pendOK,numA,Value.cells,Value.oneCell',ibin,List.replicate,Option.elim,Nat.reduceAdd,Nat.reduceSub,Nat.reduceMul,Nat.reduceLT,Nat.reduceEqDiff,Nat.reduceLeDiff,Nat.reduceBEq,Int.reduceLE,Int.reduceLT,Int.reduceToNat,Int.reduceBNe,Int.reduceBEq,Int.reduceNeg,Int.reduceEq,Int.reduceNe,Nat.reduceBNe,Int.reduceAdd,Int.reduceSub,Int.reduceMul,Int.reducePow,Nat.reducePow,Int.reduceGT,Int.reduceGE,if_true,if_false,ite_true,ite_false,beq_self_eq_true,BEq.rfl,reduceCtorEq,eq_self,ne_eq,Function.comp_def,beq_iff_eq]
    exact hend _ hI
end
/-! ### Maps with numbers and cells for keys. -/
section
variable {P : Program} {kt e : TypeId}
/-- A number's place. -/
def atI {α : Type} (i : Int) : List (Int × α) → Option Nat
  | [] => none
  | x :: l => if i == x.1 then some 0 else (atI i l).map (· + 1)
theorem findNow_int (i : Int) : ∀ (l : List (Int × V)) (j : Nat), Instr.findNow (.int .i64) (.int .i64 i) (keysOf (l.map fun x => (Value.int .i64 x.1, x.2))) j = some ((atI i l).map fun q => (q + j, .bool false))
  | [], j => rfl
  | x :: l, j => by
    simp only [List.map_cons, keysOf, Instr.findNow, Instr.sameNow, atI, if_true]
    have ih := findNow_int i l (j + 1)
    simp only [keysOf] at ih
    cases h : (i == x.1)
    · simp only [Bool.false_eq_true, if_false]
      rw [ih]
      cases atI i l with
      | none => rfl
      | some q => simp only [Option.map_some]; congr 3; omega
    · simp
theorem afind_int (hk : P.underlying kt = some (.int .i64)) (i : Int) (l : List (Int × V)) : afind P kt (.int .i64 i) (l.map fun x => (Value.int .i64 x.1, x.2)) = some (atI i l) := by
  unfold afind Instr.findKey
  rw [pr_bd, pureRun_underlying hk, Option.bind_some, findNow_int]
  cases h : atI i l with
  | none => rfl
  | some q => rfl
theorem akey_int (hk : P.underlying kt = some (.int .i64)) (b : Bool) (i : Int) : akey P b kt (.int .i64 i) = some () := by
  unfold akey
  show pureRun P (Instr.checkKey b (9999 + 1) kt (.int .i64 i)) = _
  rw [Instr.checkKey, pr_bd, pureRun_underlying hk, Option.bind_some]
  rfl
end
/-- A cell's place. -/
def atC {α : Type} (c : Int × Int) : List ((Int × Int) × α) → Option Nat
  | [] => none
  | x :: l => if c.1 == x.1.1 && c.2 == x.1.2 then some 0 else (atC c l).map (· + 1)
def kc (c : Int × Int) : Value := .agg #[.int .i64 c.1, .int .i64 c.2]
theorem findAsking_cell (c : Int × Int) : ∀ (l : List ((Int × Int) × V)) (j : Nat), pureRun Try.prog (Instr.findAsking 32 (kc c) (keysOf (l.map fun x => (kc x.1, x.2))) j) = some ((atC c l).map fun q => (q + j, .bool false))
  | [], j => rfl
  | x :: l, j => by
    simp only [List.map_cons, keysOf, Instr.findAsking, atC]
    rw [pr_bd]
    have e : pureRun Try.prog (Op.equal 32 (kc c) (kc x.1)) = some (c.1 == x.1.1 && c.2 == x.1.2) := pr_eq2 Try.underlying32 (by kernel_rfl) (by decide) (by decide) rfl rfl Try.underlying3 Try.underlying3 c.1 c.2 x.1.1 x.1.2
    rw [e, Option.bind_some]
    have ih := findAsking_cell c l (j + 1)
    simp only [keysOf] at ih
    cases h : (c.1 == x.1.1 && c.2 == x.1.2)
    · simp only [Bool.false_eq_true, if_false]
      rw [ih]
      cases atC c l with
      | none => rfl
      | some q => simp only [Option.map_some]; congr 3; omega
    · simp [pureRun_pure]
theorem findNow_cell {fs : Array Field} (c : Int × Int) : ∀ (l : List MapEntry) (j : Nat), l ≠ [] → Instr.findNow (.struct fs) (kc c) l j = none := by
  intro l j hl
  cases l with
  | nil => exact absurd rfl hl
  | cons a l => rfl
theorem afind_cell (c : Int × Int) (l : List ((Int × Int) × V)) : afind Try.prog 32 (kc c) (l.map fun x => (kc x.1, x.2)) = some (atC c l) := by
  unfold afind Instr.findKey
  rw [pr_bd, pureRun_underlying Try.underlying32, Option.bind_some]
  cases l with
  | nil => rfl
  | cons x l =>
    rw [findNow_cell c (keysOf ((x :: l).map fun x => (kc x.1, x.2))) 0 (by simp [keysOf])]
    simp only
    rw [findAsking_cell c (x :: l) 0]
    cases atC c (x :: l) <;> rfl
theorem akey_cell (b : Bool) (c : Int × Int) : akey Try.prog b 32 (kc c) = some () := by kernel_rfl
/-! ### Maps with numbers and cells for keys: looked into, turned. -/
def esI (l : List (Int × V)) : List (Value × V) := l.map fun x => (Value.int .i64 x.1, x.2)
def esC (l : List ((Int × Int) × V)) : List (Value × V) := l.map fun x => (kc x.1, x.2)
def getI (i : Int) (l : List (Int × V)) : Option V := (atI i l).bind fun q => (l[q]?).map (·.2)
def getC (c : Int × Int) (l : List ((Int × Int) × V)) : Option V := (atC c l).bind fun q => (l[q]?).map (·.2)
def putI (i : Int) (v : V) (l : List (Int × V)) : List (Int × V) := match atI i l with
  | some q => l.set q (i, v)
  | none => l ++ [(i, v)]
def putC (c : Int × Int) (v : V) (l : List ((Int × Int) × V)) : List ((Int × Int) × V) := match atC c l with
  | some q => l.set q (c, v)
  | none => l ++ [(c, v)]
theorem atI_spec {α : Type} {i : Int} : ∀ {l : List (Int × α)} {q : Nat}, atI i l = some q → ∃ x, l[q]? = some (i, x)
  | [], q, h => by simp [atI] at h
  | x :: l, q, h => by
    unfold atI at h
    split at h
    · rename_i hx
      simp only [Option.some.injEq] at h
      subst h
      have hx : i = x.1 := by simpa using hx
      exact ⟨x.2, by rw [hx]; rfl⟩
    · obtain ⟨r, hr, rfl⟩ := Option.map_eq_some_iff.1 h
      obtain ⟨y, hy⟩ := atI_spec hr
      exact ⟨y, by simpa using hy⟩
theorem atC_spec {α : Type} {c : Int × Int} : ∀ {l : List ((Int × Int) × α)} {q : Nat}, atC c l = some q → ∃ x, l[q]? = some (c, x)
  | [], q, h => by simp [atC] at h
  | x :: l, q, h => by
    unfold atC at h
    split at h
    · rename_i hx
      simp only [Option.some.injEq] at h
      subst h
      have hx : c = x.1 := by
        simp only [Bool.and_eq_true, beq_iff_eq] at hx
        exact Prod.ext hx.1 hx.2
      exact ⟨x.2, by rw [hx]; rfl⟩
    · obtain ⟨r, hr, rfl⟩ := Option.map_eq_some_iff.1 h
      obtain ⟨y, hy⟩ := atC_spec hr
      exact ⟨y, by simpa using hy⟩
theorem same_int (i : Int) : Instr.sameBits 10000 (.int .i64 i) (.int .i64 i) = true := by
  show Instr.sameBits (9999 + 1) _ _ = true
  simp [Instr.sameBits]
theorem same_cell (c : Int × Int) : Instr.sameBits 10000 (kc c) (kc c) = true := by
  show Instr.sameBits (9998 + 1 + 1) _ _ = true
  simp [Instr.sameBits, kc]
section
variable {st : List Ob} {a : Nat} {t e : TypeId}
theorem lk_int {l : List (Int × V)} {z : V} (ht : Try.prog.underlying t = some (.map 3 e)) (hz : azero Try.prog e = some z) (h : st[a]? = some (.map (esI l))) (i : Int) :
    alookup Try.prog st t (.map a) (.sc (.int .i64 i)) true = some (match getI i l with | some v => .tup [v, .sc (.bool true)] | none => .tup [z, .sc (.bool false)]) := by
  unfold alookup
  simp only [ht, toVal, h, akey_int Try.underlying3, esI, afind_int Try.underlying3]
  unfold getI
  cases hq : atI i l with
  | none => simp [hz]
  | some q =>
    obtain ⟨x, hx⟩ := atI_spec hq
    simp [hx]
theorem lk_cell {l : List ((Int × Int) × V)} {z : V} (ht : Try.prog.underlying t = some (.map 32 e)) (hz : azero Try.prog e = some z) (h : st[a]? = some (.map (esC l))) (x y : Int) :
    alookup Try.prog st t (.map a) (.agg [.sc (.int .i64 x), .sc (.int .i64 y)]) true = some (match getC (x, y) l with | some v => .tup [v, .sc (.bool true)] | none => .tup [z, .sc (.bool false)]) := by
  unfold alookup
  have hk : toVal (.agg [.sc (.int .i64 x), .sc (.int .i64 y)]) = some (kc (x, y)) := rfl
  simp only [ht, hk, h, akey_cell, esC, afind_cell]
  unfold getC
  cases hq : atC (x, y) l with
  | none => simp [hz]
  | some q =>
    obtain ⟨x, hx⟩ := atC_spec hq
    simp [hx]
theorem up_int {l : List (Int × V)} {v : V} (ht : Try.prog.underlying t = some (.map 3 e)) (hv : held v = true) (h : st[a]? = some (.map (esI l))) (i : Int) :
    aupdate Try.prog st t (.map a) (.sc (.int .i64 i)) v = some (st.set a (.map (esI (putI i v l)))) := by
  unfold aupdate
  simp only [ht, toVal, h, hv, if_true, akey_int Try.underlying3, esI, afind_int Try.underlying3]
  unfold putI
  cases hq : atI i l with
  | none => simp
  | some q =>
    obtain ⟨x, hx⟩ := atI_spec hq
    simp [hx, same_int, List.map_set]
theorem up_cell {l : List ((Int × Int) × V)} {v : V} (ht : Try.prog.underlying t = some (.map 32 e)) (hv : held v = true) (h : st[a]? = some (.map (esC l))) (x y : Int) :
    aupdate Try.prog st t (.map a) (.agg [.sc (.int .i64 x), .sc (.int .i64 y)]) v = some (st.set a (.map (esC (putC (x, y) v l)))) := by
  unfold aupdate
  have hk : toVal (.agg [.sc (.int .i64 x), .sc (.int .i64 y)]) = some (kc (x, y)) := rfl
  simp only [ht, hk, h, hv, if_true, akey_cell, esC, afind_cell]
  unfold putC
  cases hq : atC (x, y) l with
  | none => simp
  | some q =>
    obtain ⟨x, hx⟩ := atC_spec hq
    simp [hx, same_cell, List.map_set]
end
/-! ### Chapter 5: an index with units: asked, and set. -/
/-- The first loop over a function of a code. -/
def frf : Code → Option (Array Tmp × Code × Code)
  | .rangeFunc _ ps a b => some (ps, a, b)
  | .seq a b => match frf a with
    | some c => some c
    | none => frf b
  | .cond _ a b => match frf a with
    | some c => some c
    | none => frf b
  | .block _ b => frf b
  | .loop b => frf b
  | _ => none
theorem aputs_one {n p : Nat} {f : Nat → V} {v : V} (h : p < n) : aputs (ofF n f) [p] [v] = ofF n (fu f p v) := by
  show aput (ofF n f) (some p) v = _
  exact aput_ofF h
/-- An index, where it lies. -/
structure Ix (s : List Ob) (ix a b : Nat) (us : List (Int × V)) (os : List ((Int × Int) × V)) : Prop where
  ix : s[ix]? = some (.cells [.map a, .map b])
  us : s[a]? = some (.map (esI us))
  os : s[b]? = some (.map (esC os))
section
variable {n m : Nat} {st s : List Ob} {K : V → List Ob → Prop} {ix a b : Nat} {us : List (Int × V)} {os : List ((Int × Int) × V)} {x y w h id : Int}
theorem Ix.grw (h : Ix st ix a b us os) (k : Grw st s) : Ix s ix a b us os := ⟨k _ _ h.ix, k _ _ h.us, k _ _ h.os⟩
theorem o_is1 (hi : Ix st ix a b us os) (hK : K (.sc (.bool true)) st) : acallF Try.prog pl (n + 1) m 57 [.ref ix 0] st K := by
  refine acallF_inF Try.func57 rfl rfl Try.ntmps57 (by simp) ?_
  have h1 := hi.ix
  simp only [h1, evf,↓evp,evq,evr,fxa0,fxa1,fxa2,fxa3,fxa4,fxu,fxn,fxl,↓fxp,lgc,absL,fitL,flatL,ares,ares1,ofVal,unSc,aload,afill,splice,abound,asI,elems,IntKind.bits,sortT,eqNil,closedL,allByte,patch,pendOK,numA,Value.cells,Value.oneCell',ibin,List.replicate,Option.elim,Nat.reduceAdd,Nat.reduceSub,Nat.reduceMul,Nat.reduceLT,Nat.reduceEqDiff,Nat.reduceLeDiff,Nat.reduceBEq,Int.reduceLE,Int.reduceLT,Int.reduceToNat,Int.reduceBNe,Int.reduceBEq,Int.reduceNeg,Int.reduceEq,Int.reduceNe,Nat.reduceBNe,Int.reduceAdd,Int.reduceSub,Int.reduceMul,Int.reducePow,Nat.reducePow,Int.reduceGT,Int.reduceGE,if_true,if_false,ite_true,ite_false,beq_self_eq_true,BEq.rfl,reduceCtorEq,eq_self,ne_eq,Function.comp_def,beq_iff_eq]
  exact hK
theorem o_Len1 (hi : Ix st ix a b us os) (hK : K (.sc (.int .i64 us.length)) st) : acallF Try.prog pl (n + 2) m 31 [.ref ix 0] st K := by
  refine acallF_inF Try.func31 rfl rfl Try.ntmps31 (by simp) ?_
  have h1 := hi.ix
  have h2 := mlen_at Try.underlying59 hi.us
  simp only [esI, List.length_map] at h2
  simp only [evf,↓evp,evq,evr,fxa0,fxa1,fxa2,fxa3,fxa4,fxu,fxn,fxl,↓fxp,lgc,absL,fitL,flatL,ares,ares1,ofVal,unSc,aload,afill,splice,abound,asI,elems,IntKind.bits,sortT,eqNil,closedL,allByte,patch,pendOK,numA,Value.cells,Value.oneCell',ibin,List.replicate,Option.elim,Nat.reduceAdd,Nat.reduceSub,Nat.reduceMul,Nat.reduceLT,Nat.reduceEqDiff,Nat.reduceLeDiff,Nat.reduceBEq,Int.reduceLE,Int.reduceLT,Int.reduceToNat,Int.reduceBNe,Int.reduceBEq,Int.reduceNeg,Int.reduceEq,Int.reduceNe,Nat.reduceBNe,Int.reduceAdd,Int.reduceSub,Int.reduceMul,Int.reducePow,Nat.reducePow,Int.reduceGT,Int.reduceGE,if_true,if_false,ite_true,ite_false,beq_self_eq_true,BEq.rfl,reduceCtorEq,eq_self,ne_eq,Function.comp_def,beq_iff_eq]
  refine o_is1 hi ?_
  simp only [h1, h2, evf,↓evp,evq,evr,fxa0,fxa1,fxa2,fxa3,fxa4,fxu,fxn,fxl,↓fxp,lgc,absL,fitL,flatL,ares,ares1,ofVal,unSc,aload,afill,splice,abound,asI,elems,IntKind.bits,sortT,eqNil,closedL,allByte,patch,pendOK,numA,Value.cells,Value.oneCell',ibin,List.replicate,Option.elim,Nat.reduceAdd,Nat.reduceSub,Nat.reduceMul,Nat.reduceLT,Nat.reduceEqDiff,Nat.reduceLeDiff,Nat.reduceBEq,Int.reduceLE,Int.reduceLT,Int.reduceToNat,Int.reduceBNe,Int.reduceBEq,Int.reduceNeg,Int.reduceEq,Int.reduceNe,Nat.reduceBNe,Int.reduceAdd,Int.reduceSub,Int.reduceMul,Int.reducePow,Nat.reducePow,Int.reduceGT,Int.reduceGE,if_true,if_false,ite_true,ite_false,beq_self_eq_true,BEq.rfl,reduceCtorEq,eq_self,ne_eq,Function.comp_def,beq_iff_eq]
  exact hK
theorem o_At1 (hi : Ix st ix a b us os) (hK : ∀ s, Grw st s → K (match getC (x, y) os with | some v => .tup [v, .sc (.bool true)] | none => .tup [.sc (.int .i64 0), .sc (.bool false)]) s) : acallF Try.prog pl (n + 2) m 24 [.ref ix 0, .agg (cl x y)] st K := by
  refine acallF_inF Try.func24 rfl rfl Try.ntmps24 (by simp) ?_
  have g0 := Grw.push st [.cells (cl x y)]
  have c0 : (st ++ [Ob.cells (cl x y)])[st.length]? = some (.cells (cl x y)) := get_new0 _ _
  have hi0 := hi.grw g0
  have h1 := hi0.ix
  have h2 := lk_cell (e := 3) (z := .sc (.int .i64 0)) Try.underlying60 (by kernel_rfl) hi0.os x y
  simp only [cl] at g0 c0 h1 h2
  simp only [cl, evf,↓evp,evq,evr,fxa0,fxa1,fxa2,fxa3,fxa4,fxu,fxn,fxl,↓fxp,lgc,absL,fitL,flatL,ares,ares1,ofVal,unSc,aload,afill,splice,abound,asI,elems,IntKind.bits,sortT,eqNil,closedL,allByte,patch,pendOK,numA,Value.cells,Value.oneCell',ibin,List.replicate,Option.elim,Nat.reduceAdd,Nat.reduceSub,Nat.reduceMul,Nat.reduceLT,Nat.reduceEqDiff,Nat.reduceLeDiff,Nat.reduceBEq,Int.reduceLE,Int.reduceLT,Int.reduceToNat,Int.reduceBNe,Int.reduceBEq,Int.reduceNeg,Int.reduceEq,Int.reduceNe,Nat.reduceBNe,Int.reduceAdd,Int.reduceSub,Int.reduceMul,Int.reducePow,Nat.reducePow,Int.reduceGT,Int.reduceGE,if_true,if_false,ite_true,ite_false,beq_self_eq_true,BEq.rfl,reduceCtorEq,eq_self,ne_eq,Function.comp_def,beq_iff_eq]
  simp only [cl] at hi0
  refine o_is1 hi0 ?_
  cases hq : getC (x, y) os with
  | none =>
    rw [hq] at hK h2
    simp only [h1, h2, c0, evf,↓evp,evq,evr,fxa0,fxa1,fxa2,fxa3,fxa4,fxu,fxn,fxl,↓fxp,lgc,absL,fitL,flatL,ares,ares1,ofVal,unSc,aload,afill,splice,abound,asI,elems,IntKind.bits,sortT,eqNil,closedL,allByte,patch,pendOK,numA,Value.cells,Value.oneCell',ibin,List.replicate,Option.elim,Nat.reduceAdd,Nat.reduceSub,Nat.reduceMul,Nat.reduceLT,Nat.reduceEqDiff,Nat.reduceLeDiff,Nat.reduceBEq,Int.reduceLE,Int.reduceLT,Int.reduceToNat,Int.reduceBNe,Int.reduceBEq,Int.reduceNeg,Int.reduceEq,Int.reduceNe,Nat.reduceBNe,Int.reduceAdd,Int.reduceSub,Int.reduceMul,Int.reducePow,Nat.reducePow,Int.reduceGT,Int.reduceGE,if_true,if_false,ite_true,ite_false,beq_self_eq_true,BEq.rfl,reduceCtorEq,eq_self,ne_eq,Function.comp_def,beq_iff_eq]
    exact hK _ g0
  | some v =>
    rw [hq] at hK h2
    simp only [h1, h2, c0, evf,↓evp,evq,evr,fxa0,fxa1,fxa2,fxa3,fxa4,fxu,fxn,fxl,↓fxp,lgc,absL,fitL,flatL,ares,ares1,ofVal,unSc,aload,afill,splice,abound,asI,elems,IntKind.bits,sortT,eqNil,closedL,allByte,patch,pendOK,numA,Value.cells,Value.oneCell',ibin,List.replicate,Option.elim,Nat.reduceAdd,Nat.reduceSub,Nat.reduceMul,Nat.reduceLT,Nat.reduceEqDiff,Nat.reduceLeDiff,Nat.reduceBEq,Int.reduceLE,Int.reduceLT,Int.reduceToNat,Int.reduceBNe,Int.reduceBEq,Int.reduceNeg,Int.reduceEq,Int.reduceNe,Nat.reduceBNe,Int.reduceAdd,Int.reduceSub,Int.reduceMul,Int.reducePow,Nat.reducePow,Int.reduceGT,Int.reduceGE,if_true,if_false,ite_true,ite_false,beq_self_eq_true,BEq.rfl,reduceCtorEq,eq_self,ne_eq,Function.comp_def,beq_iff_eq]
    exact hK _ g0
set_option maxHeartbeats 2000000 in
/-- A round of 'set'. -/
theorem set_yl {ps : Array Tmp} {asg body : Code} (hc : frf (Try.f60.body.getD .skip) = some (ps, asg, body)) {F : Nat → V} {t3 t4 lid : Nat} {p : Option Code} (q3 : F 3 = .ref t3 0) (q4 : F 4 = .ref t4 0)
    (h3 : s[t3]? = some (.cells [.ref ix 0])) (h4 : s[t4]? = some (.cells [.sc (.int .i64 id)])) (hix : s[ix]? = some (.cells [.map a, .map b])) (hb : s[b]? = some (.map (esC os)))
    (hl : s[lid]? = some (.loop .ready p (pl 60) (ofF 22 F) ps.toList asg body))
    (hK : ∀ s', s'[b]? = some (.map (esC (putC (x, y) (.sc (.int .i64 id)) os))) → s'[lid]? = some (.loop .ready none (pl 60) (ofF 22 F) ps.toList asg body) → (∀ j o, j ≠ b → j ≠ lid → s[j]? = some o → s'[j]? = some o) → K (.sc (.bool true)) s') :
    acallF Try.prog pl (n + 1) m Try.prog.funcs.size [.yl lid, .agg (cl x y)] s K := by
  simp only [Try.f60, Option.getD_some, frf, Option.some.injEq, Prod.mk.injEq] at hc
  obtain ⟨rfl, rfl, rfl⟩ := hc
  have hbl : b ≠ lid := fun he => by subst he; rw [hb] at hl; cases hl
  refine acallF_yl hl rfl ?_
  rw [show (#[15] : Array Tmp).toList = [15] from rfl, aputs_one (by decide)]
  simp only [cl, evf,↓evp,evq,evr,fxa0,fxa1,fxa2,fxa3,fxa4,fxu,fxn,fxl,↓fxp,lgc,absL,fitL,flatL,ares,ares1,ofVal,unSc,aload,afill,splice,abound,asI,elems,IntKind.bits,sortT,eqNil,closedL,allByte,patch,pendOK,numA,Value.cells,Value.oneCell',ibin,List.replicate,Option.elim,Nat.reduceAdd,Nat.reduceSub,Nat.reduceMul,Nat.reduceLT,Nat.reduceEqDiff,Nat.reduceLeDiff,Nat.reduceBEq,Int.reduceLE,Int.reduceLT,Int.reduceToNat,Int.reduceBNe,Int.reduceBEq,Int.reduceNeg,Int.reduceEq,Int.reduceNe,Nat.reduceBNe,Int.reduceAdd,Int.reduceSub,Int.reduceMul,Int.reducePow,Nat.reducePow,Int.reduceGT,Int.reduceGE,if_true,if_false,ite_true,ite_false,beq_self_eq_true,BEq.rfl,reduceCtorEq,eq_self,ne_eq,Function.comp_def,beq_iff_eq]
  have g0 := Grw.push s [.cells [.sc (.int .i64 x), .sc (.int .i64 y)]]
  have c6 : (s ++ [Ob.cells [V.sc (.int .i64 x), V.sc (.int .i64 y)]])[s.length]? = some (.cells [V.sc (.int .i64 x), V.sc (.int .i64 y)]) := get_new0 _ _
  refine rdMid_ok (g0 _ _ hl) ?_
  generalize hs1 : (s ++ [Ob.cells [V.sc (.int .i64 x), V.sc (.int .i64 y)]]) = s1 at g0 c6
  have nl : s.length ≠ lid := fun he => by subst he; rw [List.getElem?_eq_none (Nat.le_refl _)] at hl; cases hl
  have lt : lid < s1.length := (List.getElem?_eq_some_iff.1 (g0 _ _ hl)).1
  have n3 : t3 ≠ lid := fun he => by subst he; rw [h3] at hl; cases hl
  have n4 : t4 ≠ lid := fun he => by subst he; rw [h4] at hl; cases hl
  have ni : ix ≠ lid := fun he => by subst he; rw [hix] at hl; cases hl
  generalize hs2 : s1.set lid _ = s2
  have k : ∀ j o, j ≠ lid → s1[j]? = some o → s2[j]? = some o := fun j o hj ho => by rw [← hs2, List.getElem?_set_ne (Ne.symm hj)]; exact ho
  have d3 := k _ _ n3 (g0 _ _ h3)
  have d4 := k _ _ n4 (g0 _ _ h4)
  have di := k _ _ ni (g0 _ _ hix)
  have db := k _ _ hbl (g0 _ _ hb)
  have d6 := k _ _ nl c6
  have up := up_cell (e := 3) (v := .sc (.int .i64 id)) Try.underlying60 rfl db x y
  simp only [q3, q4, d3, d4, di, d6, up, evf,↓evp,evq,evr,fxa0,fxa1,fxa2,fxa3,fxa4,fxu,fxn,fxl,↓fxp,lgc,absL,fitL,flatL,ares,ares1,ofVal,unSc,aload,afill,splice,abound,asI,elems,IntKind.bits,sortT,eqNil,closedL,allByte,patch,pendOK,numA,Value.cells,Value.oneCell',ibin,List.replicate,Option.elim,Nat.reduceAdd,Nat.reduceSub,Nat.reduceMul,Nat.reduceLT,Nat.reduceEqDiff,Nat.reduceLeDiff,Nat.reduceBEq,Int.reduceLE,Int.reduceLT,Int.reduceToNat,Int.reduceBNe,Int.reduceBEq,Int.reduceNeg,Int.reduceEq,Int.reduceNe,Nat.reduceBNe,Int.reduceAdd,Int.reduceSub,Int.reduceMul,Int.reducePow,Nat.reducePow,Int.reduceGT,Int.reduceGE,if_true,if_false,ite_true,ite_false,beq_self_eq_true,BEq.rfl,reduceCtorEq,eq_self,ne_eq,Function.comp_def,beq_iff_eq]
  have dl : ∀ o, s1.set lid o = s2 → s2[lid]? = some o := fun o ho => by rw [← ho]; exact List.getElem?_set_self lt
  have dl := dl _ hs2
  have lb : b < s2.length := (List.getElem?_eq_some_iff.1 db).1
  refine rdEnd_normal (by rw [List.getElem?_set_ne hbl]; exact dl) ?_
  refine hK _ ?_ ?_ ?_
  · rw [List.getElem?_set_ne (Ne.symm hbl), List.getElem?_set_self lb]
  · rw [List.getElem?_set_self (by rw [List.length_set, ← hs2, List.length_set]; exact lt)]
  · intro j o hj hjl ho
    rw [List.getElem?_set_ne (Ne.symm hjl), List.getElem?_set_ne (Ne.symm hj)]
    exact k _ _ hjl (g0 _ _ ho)
end
/-! ### Chapter 5: an index with units: set, met, put. -/
/-- Cells filled, row by row. -/
def fillC (v : V) (x y : Int) (W : Nat) (os : List ((Int × Int) × V)) : Nat → List ((Int × Int) × V)
  | 0 => os
  | k + 1 => putC (x + (k % W : Nat), y + (k / W : Nat)) v (fillC v x y W os k)
/-- Nothing has turned but two. -/
def Kp (a b : Nat) (s s' : List Ob) : Prop := ∀ j o, j ≠ a → j ≠ b → s[j]? = some o → s'[j]? = some o
section
variable {n m : Nat} {st s : List Ob} {K : V → List Ob → Prop} {ix a b : Nat} {us : List (Int × V)} {os : List ((Int × Int) × V)} {x y id : Int} {W H : Nat}
theorem Ix.nixa (h : Ix st ix a b us os) : ix ≠ a := fun he => by have h1 := h.ix; rw [he, h.us] at h1; cases h1
theorem Ix.nixb (h : Ix st ix a b us os) : ix ≠ b := fun he => by have h1 := h.ix; rw [he, h.os] at h1; cases h1
set_option maxHeartbeats 1000000 in
theorem set_loop {ps : Array Tmp} {asg body : Code} (hc : frf (Try.f60.body.getD .skip) = some (ps, asg, body)) {F : Nat → V} {t3 t4 lid rb : Nat} (q3 : F 3 = .ref t3 0) (q4 : F 4 = .ref t4 0)
    (hmay : mayB x y W H = true) (hm : W < m) (hm2 : H < m)
    (h3 : s[t3]? = some (.cells [.ref ix 0])) (h4 : s[t4]? = some (.cells [.sc (.int .i64 id)])) (hix : s[ix]? = some (.cells [.map a, .map b])) (hb : s[b]? = some (.map (esC os))) (hr : s[rb]? = some (.cells (rc x y W H)))
    (hl : s[lid]? = some (.loop .ready none (pl 60) (ofF 22 F) ps.toList asg body))
    (hK : ∀ s', s'[b]? = some (.map (esC (fillC (.sc (.int .i64 id)) x y W os (H * W)))) → s'[lid]? = some (.loop .ready none (pl 60) (ofF 22 F) ps.toList asg body) → Kp b lid s s' → K (.tup []) s') :
    acallF Try.prog pl (n + 4) m 106 [.yl lid, .ref rb 0] s K := by
  have hbl : b ≠ lid := fun he => by subst he; rw [hb] at hl; cases hl
  have nb : ∀ (j : Nat) (c : List V), s[j]? = some (.cells c) → j ≠ b := fun j c hj he => by subst he; rw [hb] at hj; cases hj
  have nl : ∀ (j : Nat) (c : List V), s[j]? = some (.cells c) → j ≠ lid := fun j c hj he => by subst he; rw [hl] at hj; cases hj
  refine c_Cells1 (x := x) (y := y) (W := W) (H := H) (I := fun k s' => s'[b]? = some (.map (esC (fillC (.sc (.int .i64 id)) x y W os k))) ∧ s'[lid]? = some (.loop .ready none (pl 60) (ofF 22 F) ps.toList asg body) ∧ Kp b lid s s') (J := fun _ => False)
    hmay hm hm2 (fun k s' h => h.2.2 _ _ (nb _ _ hr) (nl _ _ hr) hr) (fun k s1 s2 h g => ⟨g _ _ h.1, g _ _ h.2.1, fun j o h1 h2 h3 => g _ _ (h.2.2 j o h1 h2 h3)⟩) ⟨hb, hl, fun j o _ _ h => h⟩ ?_ (fun s' h => hK s' h.1 h.2.1 h.2.2) (fun s' h => h.elim)
  intro j i s' K' hj hi ⟨e1, e2, e3⟩ hK1 hK2
  refine set_yl (n := n + 2) hc q3 q4 (e3 _ _ (nb _ _ h3) (nl _ _ h3) h3) (e3 _ _ (nb _ _ h4) (nl _ _ h4) h4) (e3 _ _ (nb _ _ hix) (nl _ _ hix) hix) e1 e2 ?_
  intro s2 k1 k2 k3
  refine hK1 _ ⟨?_, k2, fun j o h1 h2 h3 => k3 j o h1 h2 (e3 j o h1 h2 h3)⟩
  rw [k1]
  simp only [fillC]
  rw [show (j * W + i) % W = i by rw [Nat.mul_comm, Nat.mul_add_mod, Nat.mod_eq_of_lt hi], show (j * W + i) / W = j by rw [Nat.mul_comm, Nat.mul_add_div (by omega), Nat.div_eq_of_lt hi, Nat.add_zero]]
set_option maxHeartbeats 1000000 in
theorem o_set (hi : Ix st ix a b us os) (hab : a ≠ b) (hmay : mayB x y W H = true) (hm : W < m) (hm2 : H < m)
    (hK : ∀ s, Ix s ix a b (putI id (.agg (rc x y W H)) us) (fillC (.sc (.int .i64 id)) x y W os (H * W)) → Kp a b st s → K (.tup []) s) : acallF Try.prog pl (n + 5) m 60 [.ref ix 0, .sc (.int .i64 id), .agg (rc x y W H)] st K := by
  refine acallF_inF Try.func60 rfl rfl Try.ntmps60 (by simp) ?_
  have g1 := Grw.push st [Ob.cells [V.ref ix 0], Ob.cells [V.sc (Value.int IntKind.i64 id)], Ob.cells (rc x y W H)]
  have c0 : (st ++ [Ob.cells [V.ref ix 0], Ob.cells [V.sc (Value.int IntKind.i64 id)], Ob.cells (rc x y W H)])[st.length]? = some (.cells [V.ref ix 0]) := get_new0 _ _
  have c1 : (st ++ [Ob.cells [V.ref ix 0], Ob.cells [V.sc (Value.int IntKind.i64 id)], Ob.cells (rc x y W H)])[st.length + 1]? = some (.cells [V.sc (Value.int IntKind.i64 id)]) := get_new _ _ 1
  have c2 : (st ++ [Ob.cells [V.ref ix 0], Ob.cells [V.sc (Value.int IntKind.i64 id)], Ob.cells (rc x y W H)])[st.length + 2]? = some (.cells (rc x y W H)) := get_new _ _ 2
  have hi1 := hi.grw g1
  have i1 := hi1.ix
  have up := up_int (e := 34) (v := .agg (rc x y W H)) Try.underlying59 rfl hi1.us id
  have ha : a < st.length := (List.getElem?_eq_some_iff.1 hi.us).1
  have c2' : ∀ o, ((st ++ [Ob.cells [V.ref ix 0], Ob.cells [V.sc (Value.int IntKind.i64 id)], Ob.cells (rc x y W H)]).set a o)[st.length + 2]? = some (.cells (rc x y W H)) := fun o => by rw [List.getElem?_set_ne (by omega)]; exact c2
  simp only [rc] at c0 c1 c2 g1 i1 up hi1 c2'
  simp only [rc, c0, c1, c2, i1, up, c2', evf,↓evp,evq,evr,fxa0,fxa1,fxa2,fxa3,fxa4,fxu,fxn,fxl,↓fxp,lgc,absL,fitL,flatL,ares,ares1,ofVal,unSc,aload,afill,splice,abound,asI,elems,IntKind.bits,sortT,eqNil,closedL,allByte,patch,pendOK,numA,Value.cells,Value.oneCell',ibin,List.replicate,Option.elim,Nat.reduceAdd,Nat.reduceSub,Nat.reduceMul,Nat.reduceLT,Nat.reduceEqDiff,Nat.reduceLeDiff,Nat.reduceBEq,Int.reduceLE,Int.reduceLT,Int.reduceToNat,Int.reduceBNe,Int.reduceBEq,Int.reduceNeg,Int.reduceEq,Int.reduceNe,Nat.reduceBNe,Int.reduceAdd,Int.reduceSub,Int.reduceMul,Int.reducePow,Nat.reducePow,Int.reduceGT,Int.reduceGE,if_true,if_false,ite_true,ite_false,beq_self_eq_true,BEq.rfl,reduceCtorEq,eq_self,ne_eq,Function.comp_def,beq_iff_eq]
  refine c_Cells ?_
  generalize hs3 : (st ++ [Ob.cells [V.ref ix 0], Ob.cells [V.sc (Value.int IntKind.i64 id)], Ob.cells [V.sc (.int .i64 x), V.sc (.int .i64 y), V.sc (.int .i64 W), V.sc (.int .i64 H)]]) = s3 at c0 c1 c2 g1 i1 up hi1 c2'
  simp only [evf,↓evp,evq,evr,fxa0,fxa1,fxa2,fxa3,fxa4,fxu,fxn,fxl,↓fxp,lgc,absL,fitL,flatL,ares,ares1,ofVal,unSc,aload,afill,splice,abound,asI,elems,IntKind.bits,sortT,eqNil,closedL,allByte,patch,pendOK,numA,Value.cells,Value.oneCell',ibin,List.replicate,Option.elim,Nat.reduceAdd,Nat.reduceSub,Nat.reduceMul,Nat.reduceLT,Nat.reduceEqDiff,Nat.reduceLeDiff,Nat.reduceBEq,Int.reduceLE,Int.reduceLT,Int.reduceToNat,Int.reduceBNe,Int.reduceBEq,Int.reduceNeg,Int.reduceEq,Int.reduceNe,Nat.reduceBNe,Int.reduceAdd,Int.reduceSub,Int.reduceMul,Int.reducePow,Nat.reducePow,Int.reduceGT,Int.reduceGE,if_true,if_false,ite_true,ite_false,beq_self_eq_true,BEq.rfl,reduceCtorEq,eq_self,ne_eq,Function.comp_def,beq_iff_eq]
  generalize hs4 : s3.set a _ = s4
  have lt3 : st.length + 3 = s3.length := by rw [← hs3]; simp
  have k4 : ∀ j o, j ≠ a → s3[j]? = some o → s4[j]? = some o := fun j o hj ho => by rw [← hs4, List.getElem?_set_ne (Ne.symm hj)]; exact ho
  have u4 : s4[a]? = some (.map (esI (putI id (.agg (rc x y W H)) us))) := by rw [← hs4, List.getElem?_set_self (by omega)]; rfl
  have g5 := fun X => Grw.push s4 X
  refine set_loop (n := n) rfl (t3 := st.length) (t4 := st.length + 1) (ix := ix) (a := a) (b := b) (os := os) (id := id) (by simp only [evf, ne_eq, Nat.reduceEqDiff, Nat.reduceLT, not_false_eq_true]) (by simp only [evf, ne_eq, Nat.reduceEqDiff, Nat.reduceLT, not_false_eq_true]) hmay hm hm2 (g5 _ _ _ (k4 _ _ (by omega) c0)) (g5 _ _ _ (k4 _ _ (by omega) c1)) (g5 _ _ _ (k4 _ _ hi.nixa i1)) (g5 _ _ _ (k4 _ _ (Ne.symm hab) hi1.os)) (get_new0 _ _) (get_new _ _ 1) ?_
  intro s' j1 j2 j3
  refine rfEnd_normal j2 (by decide) ?_
  simp only [evf,↓evp,evq,evr,fxa0,fxa1,fxa2,fxa3,fxa4,fxu,fxn,fxl,↓fxp,lgc,absL,fitL,flatL,ares,ares1,ofVal,unSc,aload,afill,splice,abound,asI,elems,IntKind.bits,sortT,eqNil,closedL,allByte,patch,pendOK,numA,Value.cells,Value.oneCell',ibin,List.replicate,Option.elim,Nat.reduceAdd,Nat.reduceSub,Nat.reduceMul,Nat.reduceLT,Nat.reduceEqDiff,Nat.reduceLeDiff,Nat.reduceBEq,Int.reduceLE,Int.reduceLT,Int.reduceToNat,Int.reduceBNe,Int.reduceBEq,Int.reduceNeg,Int.reduceEq,Int.reduceNe,Nat.reduceBNe,Int.reduceAdd,Int.reduceSub,Int.reduceMul,Int.reducePow,Nat.reducePow,Int.reduceGT,Int.reduceGE,if_true,if_false,ite_true,ite_false,beq_self_eq_true,BEq.rfl,reduceCtorEq,eq_self,ne_eq,Function.comp_def,beq_iff_eq]
  have ls : st.length ≤ s4.length := by rw [← hs4, List.length_set, ← hs3]; simp
  have hb : b < st.length := (List.getElem?_eq_some_iff.1 hi.os).1
  have hx : ix < st.length := (List.getElem?_eq_some_iff.1 hi.ix).1
  have fin : ∀ (z : Ob) j o, j ≠ s4.length + 1 → s'[j]? = some o → (s'.set (s4.length + 1) z)[j]? = some o := fun z j o hj ho => by rw [List.getElem?_set_ne (Ne.symm hj)]; exact ho
  refine hK _ ⟨fin _ _ _ (by omega) (j3 _ _ hi.nixb (by omega) (g5 _ _ _ (k4 _ _ hi.nixa i1))), fin _ _ _ (by omega) (j3 _ _ hab (by omega) (g5 _ _ _ u4)), fin _ _ _ (by omega) j1⟩ ?_
  intro j o ja jb hj
  have lj : j < st.length := (List.getElem?_eq_some_iff.1 hj).1
  exact fin _ _ _ (by omega) (j3 _ _ jb (by omega) (g5 _ _ _ (k4 _ _ ja (g1 _ _ hj))))
end
/-! ### Chapter 5: an index with units: nobody met. -/
section
variable {n m : Nat} {st s : List Ob} {K : V → List Ob → Prop} {ix a b : Nat} {us : List (Int × V)} {os : List ((Int × Int) × V)} {x y id : Int} {W H : Nat}
set_option maxHeartbeats 2000000 in
/-- A round of 'meets' at a free cell. -/
theorem meets_yl {ps : Array Tmp} {asg body : Code} (hc : frf (Try.f61.body.getD .skip) = some (ps, asg, body)) {F : Nat → V} {t3 lid : Nat} {p : Option Code} (q3 : F 3 = .ref t3 0)
    (h3 : s[t3]? = some (.cells [.ref ix 0])) (hix : s[ix]? = some (.cells [.map a, .map b])) (hb : s[b]? = some (.map (esC os))) (hfree : getC (x, y) os = none)
    (hl : s[lid]? = some (.loop .ready p (pl 61) (ofF 60 F) ps.toList asg body))
    (hK : ∀ s', s'[lid]? = some (.loop .ready none (pl 61) (ofF 60 F) ps.toList asg body) → (∀ j o, j ≠ lid → s[j]? = some o → s'[j]? = some o) → K (.sc (.bool true)) s') :
    acallF Try.prog pl (n + 1) m Try.prog.funcs.size [.yl lid, .agg (cl x y)] s K := by
  simp only [Try.f61, Option.getD_some, frf, Option.some.injEq, Prod.mk.injEq] at hc
  obtain ⟨rfl, rfl, rfl⟩ := hc
  have hbl : b ≠ lid := fun he => by subst he; rw [hb] at hl; cases hl
  refine acallF_yl hl rfl ?_
  rw [show (#[22] : Array Tmp).toList = [22] from rfl, aputs_one (by decide)]
  simp only [cl, evf,↓evp,evq,evr,fxa0,fxa1,fxa2,fxa3,fxa4,fxu,fxn,fxl,↓fxp,lgc,absL,fitL,flatL,ares,ares1,ofVal,unSc,aload,afill,splice,abound,asI,elems,IntKind.bits,sortT,eqNil,closedL,allByte,patch,pendOK,numA,Value.cells,Value.oneCell',ibin,List.replicate,Option.elim,Nat.reduceAdd,Nat.reduceSub,Nat.reduceMul,Nat.reduceLT,Nat.reduceEqDiff,Nat.reduceLeDiff,Nat.reduceBEq,Int.reduceLE,Int.reduceLT,Int.reduceToNat,Int.reduceBNe,Int.reduceBEq,Int.reduceNeg,Int.reduceEq,Int.reduceNe,Nat.reduceBNe,Int.reduceAdd,Int.reduceSub,Int.reduceMul,Int.reducePow,Nat.reducePow,Int.reduceGT,Int.reduceGE,if_true,if_false,ite_true,ite_false,beq_self_eq_true,BEq.rfl,reduceCtorEq,eq_self,ne_eq,Function.comp_def,beq_iff_eq]
  have g0 := Grw.push s [.cells [.sc (.int .i64 x), .sc (.int .i64 y)]]
  have c6 : (s ++ [Ob.cells [V.sc (.int .i64 x), V.sc (.int .i64 y)]])[s.length]? = some (.cells [V.sc (.int .i64 x), V.sc (.int .i64 y)]) := get_new0 _ _
  refine rdMid_ok (g0 _ _ hl) ?_
  generalize hs1 : (s ++ [Ob.cells [V.sc (.int .i64 x), V.sc (.int .i64 y)]]) = s1 at g0 c6
  have nl : s.length ≠ lid := fun he => by subst he; rw [List.getElem?_eq_none (Nat.le_refl _)] at hl; cases hl
  have lt : lid < s1.length := (List.getElem?_eq_some_iff.1 (g0 _ _ hl)).1
  have n3 : t3 ≠ lid := fun he => by subst he; rw [h3] at hl; cases hl
  have ni : ix ≠ lid := fun he => by subst he; rw [hix] at hl; cases hl
  generalize hs2 : s1.set lid _ = s2
  have k : ∀ j o, j ≠ lid → s1[j]? = some o → s2[j]? = some o := fun j o hj ho => by rw [← hs2, List.getElem?_set_ne (Ne.symm hj)]; exact ho
  have d3 := k _ _ n3 (g0 _ _ h3)
  have di := k _ _ ni (g0 _ _ hix)
  have db := k _ _ hbl (g0 _ _ hb)
  have d6 := k _ _ nl c6
  have look := lk_cell (e := 3) (z := .sc (.int .i64 0)) Try.underlying60 (by kernel_rfl) db x y
  simp only [hfree] at look
  have dl : ∀ o, s1.set lid o = s2 → s2[lid]? = some o := fun o ho => by rw [← ho]; exact List.getElem?_set_self lt
  have dl := dl _ hs2
  have ll : lid < s2.length := (List.getElem?_eq_some_iff.1 dl).1
  simp only [q3, d3, di, d6, look, evf,↓evp,evq,evr,fxa0,fxa1,fxa2,fxa3,fxa4,fxu,fxn,fxl,↓fxp,lgc,absL,fitL,flatL,ares,ares1,ofVal,unSc,aload,afill,splice,abound,asI,elems,IntKind.bits,sortT,eqNil,closedL,allByte,patch,pendOK,numA,Value.cells,Value.oneCell',ibin,List.replicate,Option.elim,Nat.reduceAdd,Nat.reduceSub,Nat.reduceMul,Nat.reduceLT,Nat.reduceEqDiff,Nat.reduceLeDiff,Nat.reduceBEq,Int.reduceLE,Int.reduceLT,Int.reduceToNat,Int.reduceBNe,Int.reduceBEq,Int.reduceNeg,Int.reduceEq,Int.reduceNe,Nat.reduceBNe,Int.reduceAdd,Int.reduceSub,Int.reduceMul,Int.reducePow,Nat.reducePow,Int.reduceGT,Int.reduceGE,if_true,if_false,ite_true,ite_false,beq_self_eq_true,BEq.rfl,reduceCtorEq,eq_self,ne_eq,Function.comp_def,beq_iff_eq]
  refine rdEnd_normal dl ?_
  refine hK _ ?_ ?_
  · rw [List.getElem?_set_self ll]
  · intro j o hjl ho
    rw [List.getElem?_set_ne (Ne.symm hjl)]
    exact k _ _ hjl (g0 _ _ ho)
set_option maxHeartbeats 1000000 in
theorem meets_loop {ps : Array Tmp} {asg body : Code} (hc : frf (Try.f61.body.getD .skip) = some (ps, asg, body)) {F : Nat → V} {t3 lid rb : Nat} (q3 : F 3 = .ref t3 0)
    (hmay : mayB x y W H = true) (hm : W < m) (hm2 : H < m) (hfree : ∀ j i : Nat, j < H → i < W → getC (x + i, y + j) os = none)
    (h3 : s[t3]? = some (.cells [.ref ix 0])) (hix : s[ix]? = some (.cells [.map a, .map b])) (hb : s[b]? = some (.map (esC os))) (hr : s[rb]? = some (.cells (rc x y W H)))
    (hl : s[lid]? = some (.loop .ready none (pl 61) (ofF 60 F) ps.toList asg body))
    (hK : ∀ s', s'[lid]? = some (.loop .ready none (pl 61) (ofF 60 F) ps.toList asg body) → (∀ j o, j ≠ lid → s[j]? = some o → s'[j]? = some o) → K (.tup []) s') :
    acallF Try.prog pl (n + 4) m 106 [.yl lid, .ref rb 0] s K := by
  have nl : ∀ (j : Nat) (c : List V), s[j]? = some (.cells c) → j ≠ lid := fun j c hj he => by subst he; rw [hl] at hj; cases hj
  have hbl : b ≠ lid := fun he => by subst he; rw [hb] at hl; cases hl
  refine c_Cells1 (x := x) (y := y) (W := W) (H := H) (I := fun k s' => s'[lid]? = some (.loop .ready none (pl 61) (ofF 60 F) ps.toList asg body) ∧ (∀ j o, j ≠ lid → s[j]? = some o → s'[j]? = some o)) (J := fun _ => False)
    hmay hm hm2 (fun k s' h => h.2 _ _ (nl _ _ hr) hr) (fun k s1 s2 h g => ⟨g _ _ h.1, fun j o h1 h3 => g _ _ (h.2 j o h1 h3)⟩) ⟨hl, fun j o _ h => h⟩ ?_ (fun s' h => hK s' h.1 h.2) (fun s' h => h.elim)
  intro j i s' K' hj hi ⟨e2, e3⟩ hK1 hK2
  refine meets_yl (n := n + 2) hc q3 (e3 _ _ (nl _ _ h3) h3) (e3 _ _ (nl _ _ hix) hix) (e3 _ _ hbl hb) (hfree j i hj hi) e2 ?_
  intro s2 k2 k3
  exact hK1 _ ⟨k2, fun j o h2 h3 => k3 j o h2 (e3 j o h2 h3)⟩
set_option maxHeartbeats 1000000 in
theorem o_meets0 {so : V} (ho : one so = true) (hs : cellsV so = [so]) (hi : Ix st ix a b us os) (hsm : W * H ≤ 64) (hmay : mayB x y W H = true) (hm : W < m) (hm2 : H < m) (hfree : ∀ j i : Nat, j < H → i < W → getC (x + i, y + j) os = none)
    (hK : ∀ s, Grw st s → K (.sc (.bool false)) s) : acallF Try.prog pl (n + 5) m 61 [.ref ix 0, .agg (rc x y W H), so] st K := by
  refine acallF_inF Try.func61 rfl rfl Try.ntmps61 (by simp) ?_
  have g1 := Grw.push st [Ob.cells [V.ref ix 0], Ob.cells (rc x y W H), Ob.cells [so], Ob.cells [.sc (.bool false)]]
  have c0 : (st ++ [Ob.cells [V.ref ix 0], Ob.cells (rc x y W H), Ob.cells [so], Ob.cells [.sc (.bool false)]])[st.length]? = some (.cells [V.ref ix 0]) := get_new0 _ _
  have c1 : (st ++ [Ob.cells [V.ref ix 0], Ob.cells (rc x y W H), Ob.cells [so], Ob.cells [.sc (.bool false)]])[st.length + 1]? = some (.cells (rc x y W H)) := get_new _ _ 1
  have c3 : (st ++ [Ob.cells [V.ref ix 0], Ob.cells (rc x y W H), Ob.cells [so], Ob.cells [.sc (.bool false)]])[st.length + 3]? = some (.cells [.sc (.bool false)]) := get_new _ _ 3
  have hi1 := hi.grw g1
  have i1 := hi1.ix
  have e1 : IntKind.i64.wrap ((W : Int) * H) = ((W * H : Nat) : Int) := by rw [show (W : Int) * H = ((W * H : Nat) : Int) from (Int.natCast_mul _ _).symm, IntWalk.i64_in _ (by omega)]
  have d1 : decide (((W * H : Nat) : Int) ≤ 64) = true := decide_eq_true (by omega)
  simp only [rc] at c0 c1 c3 g1 i1 hi1
  simp only [rc, ho, hs, c0, c1, c3, i1, e1, d1, evf,↓evp,evq,evr,fxa0,fxa1,fxa2,fxa3,fxa4,fxu,fxn,fxl,↓fxp,lgc,absL,fitL,flatL,ares,ares1,ofVal,unSc,aload,afill,splice,abound,asI,elems,IntKind.bits,sortT,eqNil,closedL,allByte,patch,pendOK,numA,Value.cells,Value.oneCell',ibin,List.replicate,Option.elim,Nat.reduceAdd,Nat.reduceSub,Nat.reduceMul,Nat.reduceLT,Nat.reduceEqDiff,Nat.reduceLeDiff,Nat.reduceBEq,Int.reduceLE,Int.reduceLT,Int.reduceToNat,Int.reduceBNe,Int.reduceBEq,Int.reduceNeg,Int.reduceEq,Int.reduceNe,Nat.reduceBNe,Int.reduceAdd,Int.reduceSub,Int.reduceMul,Int.reducePow,Nat.reducePow,Int.reduceGT,Int.reduceGE,if_true,if_false,ite_true,ite_false,beq_self_eq_true,BEq.rfl,reduceCtorEq,eq_self,ne_eq,Function.comp_def,beq_iff_eq]
  refine c_Cells ?_
  generalize hs3 : (st ++ [Ob.cells [V.ref ix 0], Ob.cells [V.sc (.int .i64 x), V.sc (.int .i64 y), V.sc (.int .i64 W), V.sc (.int .i64 H)], Ob.cells [so], Ob.cells [.sc (.bool false)]]) = s3 at c0 c1 c3 g1 i1 hi1
  simp only [evf,↓evp,evq,evr,fxa0,fxa1,fxa2,fxa3,fxa4,fxu,fxn,fxl,↓fxp,lgc,absL,fitL,flatL,ares,ares1,ofVal,unSc,aload,afill,splice,abound,asI,elems,IntKind.bits,sortT,eqNil,closedL,allByte,patch,pendOK,numA,Value.cells,Value.oneCell',ibin,List.replicate,Option.elim,Nat.reduceAdd,Nat.reduceSub,Nat.reduceMul,Nat.reduceLT,Nat.reduceEqDiff,Nat.reduceLeDiff,Nat.reduceBEq,Int.reduceLE,Int.reduceLT,Int.reduceToNat,Int.reduceBNe,Int.reduceBEq,Int.reduceNeg,Int.reduceEq,Int.reduceNe,Nat.reduceBNe,Int.reduceAdd,Int.reduceSub,Int.reduceMul,Int.reducePow,Nat.reducePow,Int.reduceGT,Int.reduceGE,if_true,if_false,ite_true,ite_false,beq_self_eq_true,BEq.rfl,reduceCtorEq,eq_self,ne_eq,Function.comp_def,beq_iff_eq]
  have lt3 : st.length + 4 = s3.length := by rw [← hs3]; simp
  have g5 := fun X => Grw.push s3 X
  refine meets_loop (n := n) rfl (t3 := st.length) (ix := ix) (a := a) (b := b) (os := os) (by simp only [evf, ne_eq, Nat.reduceEqDiff, Nat.reduceLT, not_false_eq_true]) hmay hm hm2 hfree (g5 _ _ _ c0) (g5 _ _ _ i1) (g5 _ _ _ hi1.os) (get_new0 _ _) (get_new _ _ 1) ?_
  intro s' j2 j3
  have fin : ∀ (z : Ob) j o, j ≠ s3.length + 1 → s'[j]? = some o → (s'.set (s3.length + 1) z)[j]? = some o := fun z j o hj ho => by rw [List.getElem?_set_ne (Ne.symm hj)]; exact ho
  refine rfEnd_normal j2 (by decide) ?_
  generalize hs6 : s'.set (s3.length + 1) _ = s6
  have c6 : s6[st.length + 3]? = some (.cells [.sc (.bool false)]) := by rw [← hs6]; exact fin _ _ _ (by omega) (j3 _ _ (by omega) (g5 _ _ _ c3))
  have l6 : st.length + 3 < s6.length := (List.getElem?_eq_some_iff.1 c6).1
  have c7 : ∀ o, (s6.set (st.length + 3) o)[st.length + 3]? = some o := fun o => List.getElem?_set_self l6
  simp only [c6, c7, evf,↓evp,evq,evr,fxa0,fxa1,fxa2,fxa3,fxa4,fxu,fxn,fxl,↓fxp,lgc,absL,fitL,flatL,ares,ares1,ofVal,unSc,aload,afill,splice,abound,asI,elems,IntKind.bits,sortT,eqNil,closedL,allByte,patch,pendOK,numA,Value.cells,Value.oneCell',ibin,List.replicate,Option.elim,Nat.reduceAdd,Nat.reduceSub,Nat.reduceMul,Nat.reduceLT,Nat.reduceEqDiff,Nat.reduceLeDiff,Nat.reduceBEq,Int.reduceLE,Int.reduceLT,Int.reduceToNat,Int.reduceBNe,Int.reduceBEq,Int.reduceNeg,Int.reduceEq,Int.reduceNe,Nat.reduceBNe,Int.reduceAdd,Int.reduceSub,Int.reduceMul,Int.reducePow,Nat.reducePow,Int.reduceGT,Int.reduceGE,if_true,if_false,ite_true,ite_false,beq_self_eq_true,BEq.rfl,reduceCtorEq,eq_self,ne_eq,Function.comp_def,beq_iff_eq]
  refine hK _ ?_
  intro j o hj
  have lj : j < st.length := (List.getElem?_eq_some_iff.1 hj).1
  rw [List.getElem?_set_ne (by omega), ← hs6]
  exact fin _ _ _ (by omega) (j3 _ _ (by omega) (g5 _ _ _ (g1 _ _ hj)))
end
/-! ### Chapter 5: an index with units: put; awake. -/
section
variable {n m : Nat} {st s : List Ob} {K : V → List Ob → Prop} {ix a b : Nat} {us : List (Int × V)} {os : List ((Int × Int) × V)} {x y id : Int} {W H : Nat}
set_option maxHeartbeats 1000000 in
theorem o_Put1 (hi : Ix st ix a b us os) (hab : a ≠ b) (hu : us.length < 256) (hid : getI id us = none) (hW : W ≤ 4) (hH : H ≤ 4) (hmay : mayB x y W H = true) (hm : 4 < m) (hfree : ∀ j i : Nat, j < H → i < W → getC (x + i, y + j) os = none)
    (hK : ∀ s, Ix s ix a b (putI id (.agg (rc x y W H)) us) (fillC (.sc (.int .i64 id)) x y W os (H * W)) → Kp a b st s → K (.sc (.int .i64 0)) s) : acallF Try.prog pl (n + 6) m 21 [.ref ix 0, .sc (.int .i64 id), .agg (rc x y W H)] st K := by
  refine acallF_inF Try.func21 rfl rfl Try.ntmps21 (by simp) ?_
  have g1 := Grw.push st [Ob.cells (rc x y W H)]
  have c0 : (st ++ [Ob.cells (rc x y W H)])[st.length]? = some (.cells (rc x y W H)) := get_new0 _ _
  have hi1 := hi.grw g1
  have i1 := hi1.ix
  have dW : decide ((W : Int) > 4) = false := decide_eq_false (by omega)
  have dH : decide ((H : Int) > 4) = false := decide_eq_false (by omega)
  simp only [rc] at c0 g1 i1 hi1
  simp only [rc, evf,↓evp,evq,evr,fxa0,fxa1,fxa2,fxa3,fxa4,fxu,fxn,fxl,↓fxp,lgc,absL,fitL,flatL,ares,ares1,ofVal,unSc,aload,afill,splice,abound,asI,elems,IntKind.bits,sortT,eqNil,closedL,allByte,patch,pendOK,numA,Value.cells,Value.oneCell',ibin,List.replicate,Option.elim,Nat.reduceAdd,Nat.reduceSub,Nat.reduceMul,Nat.reduceLT,Nat.reduceEqDiff,Nat.reduceLeDiff,Nat.reduceBEq,Int.reduceLE,Int.reduceLT,Int.reduceToNat,Int.reduceBNe,Int.reduceBEq,Int.reduceNeg,Int.reduceEq,Int.reduceNe,Nat.reduceBNe,Int.reduceAdd,Int.reduceSub,Int.reduceMul,Int.reducePow,Nat.reducePow,Int.reduceGT,Int.reduceGE,if_true,if_false,ite_true,ite_false,beq_self_eq_true,BEq.rfl,reduceCtorEq,eq_self,ne_eq,Function.comp_def,beq_iff_eq]
  refine o_is1 (n := n + 4) hi1 ?_
  simp only [c0, evf,↓evp,evq,evr,fxa0,fxa1,fxa2,fxa3,fxa4,fxu,fxn,fxl,↓fxp,lgc,absL,fitL,flatL,ares,ares1,ofVal,unSc,aload,afill,splice,abound,asI,elems,IntKind.bits,sortT,eqNil,closedL,allByte,patch,pendOK,numA,Value.cells,Value.oneCell',ibin,List.replicate,Option.elim,Nat.reduceAdd,Nat.reduceSub,Nat.reduceMul,Nat.reduceLT,Nat.reduceEqDiff,Nat.reduceLeDiff,Nat.reduceBEq,Int.reduceLE,Int.reduceLT,Int.reduceToNat,Int.reduceBNe,Int.reduceBEq,Int.reduceNeg,Int.reduceEq,Int.reduceNe,Nat.reduceBNe,Int.reduceAdd,Int.reduceSub,Int.reduceMul,Int.reducePow,Nat.reducePow,Int.reduceGT,Int.reduceGE,if_true,if_false,ite_true,ite_false,beq_self_eq_true,BEq.rfl,reduceCtorEq,eq_self,ne_eq,Function.comp_def,beq_iff_eq]
  refine c_May (n := n + 2) fun s2 g2 => ?_
  have c2 := g2 _ _ c0
  have hi2 := hi1.grw g2
  have i2 := hi2.ix
  have l2 := lk_int (e := 34) (z := .agg [.sc (.int .i64 0), .sc (.int .i64 0), .sc (.int .i64 0), .sc (.int .i64 0)]) Try.underlying59 (by kernel_rfl) hi2.us id
  simp only [hid] at l2
  have g3 := Grw.push s2 [Ob.cells [V.sc (Value.int IntKind.i64 0), V.sc (Value.int IntKind.i64 0), V.sc (Value.int IntKind.i64 0), V.sc (Value.int IntKind.i64 0)]]
  have c3 := g3 _ _ c2
  have hi3 := hi2.grw g3
  have i3 := hi3.ix
  have n3 := mlen_at Try.underlying59 hi3.us
  simp only [esI, List.length_map] at n3
  have dl : decide ((us.length : Int) ≥ 256) = false := decide_eq_false (by omega)
  simp only [hmay, c2, dW, dH, i2, l2, i3, n3, dl, c3, evf,↓evp,evq,evr,fxa0,fxa1,fxa2,fxa3,fxa4,fxu,fxn,fxl,↓fxp,lgc,absL,fitL,flatL,ares,ares1,ofVal,unSc,aload,afill,splice,abound,asI,elems,IntKind.bits,sortT,eqNil,closedL,allByte,patch,pendOK,numA,Value.cells,Value.oneCell',ibin,List.replicate,Option.elim,Nat.reduceAdd,Nat.reduceSub,Nat.reduceMul,Nat.reduceLT,Nat.reduceEqDiff,Nat.reduceLeDiff,Nat.reduceBEq,Int.reduceLE,Int.reduceLT,Int.reduceToNat,Int.reduceBNe,Int.reduceBEq,Int.reduceNeg,Int.reduceEq,Int.reduceNe,Nat.reduceBNe,Int.reduceAdd,Int.reduceSub,Int.reduceMul,Int.reducePow,Nat.reducePow,Int.reduceGT,Int.reduceGE,if_true,if_false,ite_true,ite_false,beq_self_eq_true,BEq.rfl,reduceCtorEq,eq_self,ne_eq,Function.comp_def,beq_iff_eq]
  refine o_meets0 (n := n) rfl rfl hi3 (by have := Nat.mul_le_mul hW hH; omega) hmay (by omega) (by omega) hfree fun s4 g4 => ?_
  have c4 := g4 _ _ c3
  simp only [c4, evf,↓evp,evq,evr,fxa0,fxa1,fxa2,fxa3,fxa4,fxu,fxn,fxl,↓fxp,lgc,absL,fitL,flatL,ares,ares1,ofVal,unSc,aload,afill,splice,abound,asI,elems,IntKind.bits,sortT,eqNil,closedL,allByte,patch,pendOK,numA,Value.cells,Value.oneCell',ibin,List.replicate,Option.elim,Nat.reduceAdd,Nat.reduceSub,Nat.reduceMul,Nat.reduceLT,Nat.reduceEqDiff,Nat.reduceLeDiff,Nat.reduceBEq,Int.reduceLE,Int.reduceLT,Int.reduceToNat,Int.reduceBNe,Int.reduceBEq,Int.reduceNeg,Int.reduceEq,Int.reduceNe,Nat.reduceBNe,Int.reduceAdd,Int.reduceSub,Int.reduceMul,Int.reducePow,Nat.reducePow,Int.reduceGT,Int.reduceGE,if_true,if_false,ite_true,ite_false,beq_self_eq_true,BEq.rfl,reduceCtorEq,eq_self,ne_eq,Function.comp_def,beq_iff_eq]
  refine o_set (n := n) (hi3.grw g4) hab hmay (by omega) (by omega) fun s5 h5 k5 => ?_
  simp only [evf,↓evp,evq,evr,fxa0,fxa1,fxa2,fxa3,fxa4,fxu,fxn,fxl,↓fxp,lgc,absL,fitL,flatL,ares,ares1,ofVal,unSc,aload,afill,splice,abound,asI,elems,IntKind.bits,sortT,eqNil,closedL,allByte,patch,pendOK,numA,Value.cells,Value.oneCell',ibin,List.replicate,Option.elim,Nat.reduceAdd,Nat.reduceSub,Nat.reduceMul,Nat.reduceLT,Nat.reduceEqDiff,Nat.reduceLeDiff,Nat.reduceBEq,Int.reduceLE,Int.reduceLT,Int.reduceToNat,Int.reduceBNe,Int.reduceBEq,Int.reduceNeg,Int.reduceEq,Int.reduceNe,Nat.reduceBNe,Int.reduceAdd,Int.reduceSub,Int.reduceMul,Int.reducePow,Nat.reducePow,Int.reduceGT,Int.reduceGE,if_true,if_false,ite_true,ite_false,beq_self_eq_true,BEq.rfl,reduceCtorEq,eq_self,ne_eq,Function.comp_def,beq_iff_eq]
  exact hK _ h5 fun j o ja jb h => k5 j o ja jb (g4 _ _ (g3 _ _ (g2 _ _ (g1 _ _ h))))
theorem o_New (hK : ∀ s, Ix s (st.length + 2) st.length (st.length + 1) [] [] → Grw st s → K (.ref (st.length + 2) 0) s) : acallF Try.prog pl (n + 1) m 16 [] st K := by
  refine acallF_inF Try.func16 rfl rfl Try.ntmps16 (by simp) ?_
  simp only [evf,↓evp,evq,evr,fxa0,fxa1,fxa2,fxa3,fxa4,fxu,fxn,fxl,↓fxp,lgc,absL,fitL,flatL,ares,ares1,ofVal,unSc,aload,afill,splice,abound,asI,elems,IntKind.bits,sortT,eqNil,closedL,allByte,patch,pendOK,numA,Value.cells,Value.oneCell',ibin,List.replicate,Option.elim,Nat.reduceAdd,Nat.reduceSub,Nat.reduceMul,Nat.reduceLT,Nat.reduceEqDiff,Nat.reduceLeDiff,Nat.reduceBEq,Int.reduceLE,Int.reduceLT,Int.reduceToNat,Int.reduceBNe,Int.reduceBEq,Int.reduceNeg,Int.reduceEq,Int.reduceNe,Nat.reduceBNe,Int.reduceAdd,Int.reduceSub,Int.reduceMul,Int.reducePow,Nat.reducePow,Int.reduceGT,Int.reduceGE,if_true,if_false,ite_true,ite_false,beq_self_eq_true,BEq.rfl,reduceCtorEq,eq_self,ne_eq,Function.comp_def,beq_iff_eq]
  exact hK _ ⟨get_new _ _ 2, get_new _ _ 0, get_new _ _ 1⟩ (Grw.push _ _)
set_option maxHeartbeats 1000000 in
theorem awake5 (hm : 4 < m) (hK : ∀ s, Grw st s → K (.sc (.bool true)) s) : acallF Try.prog pl (n + 7) m 15 [] st K := by
  refine acallF_inF Try.func15 rfl rfl Try.ntmps15 (by simp) ?_
  simp only [evf,↓evp,evq,evr,fxa0,fxa1,fxa2,fxa3,fxa4,fxu,fxn,fxl,↓fxp,lgc,absL,fitL,flatL,ares,ares1,ofVal,unSc,aload,afill,splice,abound,asI,elems,IntKind.bits,sortT,eqNil,closedL,allByte,patch,pendOK,numA,Value.cells,Value.oneCell',ibin,List.replicate,Option.elim,Nat.reduceAdd,Nat.reduceSub,Nat.reduceMul,Nat.reduceLT,Nat.reduceEqDiff,Nat.reduceLeDiff,Nat.reduceBEq,Int.reduceLE,Int.reduceLT,Int.reduceToNat,Int.reduceBNe,Int.reduceBEq,Int.reduceNeg,Int.reduceEq,Int.reduceNe,Nat.reduceBNe,Int.reduceAdd,Int.reduceSub,Int.reduceMul,Int.reducePow,Nat.reducePow,Int.reduceGT,Int.reduceGE,if_true,if_false,ite_true,ite_false,beq_self_eq_true,BEq.rfl,reduceCtorEq,eq_self,ne_eq,Function.comp_def,beq_iff_eq]
  refine o_New (n := n + 5) fun s1 h1 g1 => ?_
  simp only [evf,↓evp,evq,evr,fxa0,fxa1,fxa2,fxa3,fxa4,fxu,fxn,fxl,↓fxp,lgc,absL,fitL,flatL,ares,ares1,ofVal,unSc,aload,afill,splice,abound,asI,elems,IntKind.bits,sortT,eqNil,closedL,allByte,patch,pendOK,numA,Value.cells,Value.oneCell',ibin,List.replicate,Option.elim,Nat.reduceAdd,Nat.reduceSub,Nat.reduceMul,Nat.reduceLT,Nat.reduceEqDiff,Nat.reduceLeDiff,Nat.reduceBEq,Int.reduceLE,Int.reduceLT,Int.reduceToNat,Int.reduceBNe,Int.reduceBEq,Int.reduceNeg,Int.reduceEq,Int.reduceNe,Nat.reduceBNe,Int.reduceAdd,Int.reduceSub,Int.reduceMul,Int.reducePow,Nat.reducePow,Int.reduceGT,Int.reduceGE,if_true,if_false,ite_true,ite_false,beq_self_eq_true,BEq.rfl,reduceCtorEq,eq_self,ne_eq,Function.comp_def,beq_iff_eq]
  refine o_Put1 (n := n) (x := 1) (y := 1) (W := 2) (H := 2) (id := 7) h1 (by omega) (by decide) rfl (by decide) (by decide) (by decide) hm (fun j i _ _ => rfl) fun s2 h2 k2 => ?_
  simp only [evf,↓evp,evq,evr,fxa0,fxa1,fxa2,fxa3,fxa4,fxu,fxn,fxl,↓fxp,lgc,absL,fitL,flatL,ares,ares1,ofVal,unSc,aload,afill,splice,abound,asI,elems,IntKind.bits,sortT,eqNil,closedL,allByte,patch,pendOK,numA,Value.cells,Value.oneCell',ibin,List.replicate,Option.elim,Nat.reduceAdd,Nat.reduceSub,Nat.reduceMul,Nat.reduceLT,Nat.reduceEqDiff,Nat.reduceLeDiff,Nat.reduceBEq,Int.reduceLE,Int.reduceLT,Int.reduceToNat,Int.reduceBNe,Int.reduceBEq,Int.reduceNeg,Int.reduceEq,Int.reduceNe,Nat.reduceBNe,Int.reduceAdd,Int.reduceSub,Int.reduceMul,Int.reducePow,Nat.reducePow,Int.reduceGT,Int.reduceGE,if_true,if_false,ite_true,ite_false,beq_self_eq_true,BEq.rfl,reduceCtorEq,eq_self,ne_eq,Function.comp_def,beq_iff_eq]
  refine o_At1 (n := n + 4) h2 fun s3 g3 => ?_
  simp only [show getC (2, 2) (fillC (V.sc (Value.int IntKind.i64 7)) 1 1 2 [] (2 * 2)) = some (.sc (.int .i64 7)) from by rfl, evf,↓evp,evq,evr,fxa0,fxa1,fxa2,fxa3,fxa4,fxu,fxn,fxl,↓fxp,lgc,absL,fitL,flatL,ares,ares1,ofVal,unSc,aload,afill,splice,abound,asI,elems,IntKind.bits,sortT,eqNil,closedL,allByte,patch,pendOK,numA,Value.cells,Value.oneCell',ibin,List.replicate,Option.elim,Nat.reduceAdd,Nat.reduceSub,Nat.reduceMul,Nat.reduceLT,Nat.reduceEqDiff,Nat.reduceLeDiff,Nat.reduceBEq,Int.reduceLE,Int.reduceLT,Int.reduceToNat,Int.reduceBNe,Int.reduceBEq,Int.reduceNeg,Int.reduceEq,Int.reduceNe,Nat.reduceBNe,Int.reduceAdd,Int.reduceSub,Int.reduceMul,Int.reducePow,Nat.reducePow,Int.reduceGT,Int.reduceGE,if_true,if_false,ite_true,ite_false,beq_self_eq_true,BEq.rfl,reduceCtorEq,eq_self,ne_eq,Function.comp_def,beq_iff_eq]
  refine o_Len1 (n := n + 4) (h2.grw g3) ?_
  simp only [evf,↓evp,evq,evr,fxa0,fxa1,fxa2,fxa3,fxa4,fxu,fxn,fxl,↓fxp,lgc,absL,fitL,flatL,ares,ares1,ofVal,unSc,aload,afill,splice,abound,asI,elems,IntKind.bits,sortT,eqNil,closedL,allByte,patch,pendOK,numA,Value.cells,Value.oneCell',ibin,List.replicate,Option.elim,Nat.reduceAdd,Nat.reduceSub,Nat.reduceMul,Nat.reduceLT,Nat.reduceEqDiff,Nat.reduceLeDiff,Nat.reduceBEq,Int.reduceLE,Int.reduceLT,Int.reduceToNat,Int.reduceBNe,Int.reduceBEq,Int.reduceNeg,Int.reduceEq,Int.reduceNe,Nat.reduceBNe,Int.reduceAdd,Int.reduceSub,Int.reduceMul,Int.reducePow,Nat.reducePow,Int.reduceGT,Int.reduceGE,if_true,if_false,ite_true,ite_false,beq_self_eq_true,BEq.rfl,reduceCtorEq,eq_self,ne_eq,Function.comp_def,beq_iff_eq]
  refine hK _ ?_
  intro j o h
  have lj : j < st.length := (List.getElem?_eq_some_iff.1 h).1
  exact g3 _ _ (k2 _ _ (by omega) (by omega) (g1 _ _ h))
end
end Go.Proofs.Ytgmccnnjpejigaa
