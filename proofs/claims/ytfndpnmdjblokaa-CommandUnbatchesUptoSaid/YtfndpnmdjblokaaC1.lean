/- Chapter 24's tests: numbers, cells, rectangles, shapes. -/
import Derived.Test.YtfndpnmdjblokaaW4
set_option linter.unusedVariables false
set_option linter.unusedSimpArgs false
set_option maxRecDepth 10000
namespace Go.Proofs.Ytfndpnmdjblokaa
open Go Go.M Go.RowKit
attribute [local congr] acallF_cong aloop_cong bcase_cong resK_cong valK_cong wantK_cong callK_cong xputK_cong qputK_cong
attribute [local irreducible] seqK blockK loopK nextK bcase resK valK wantK funK putK dputK xputK qputK callK aops aop acode adraw aloop acallF acall invK
section
variable {n m : Nat} {st : List Ob} {K : V → List Ob → Prop}
def withinB (n least most : Int) : Bool := decide (n ≥ least) && decide (n ≤ most)
theorem c_within {x a b : Int} (h : K (.sc (.bool (withinB x a b))) st) : acallF Try.prog pl (n + 1) m 71 [.sc (.int .i64 x), .sc (.int .i64 a), .sc (.int .i64 b)] st K := by
  rw [acallF_eq Try.func71 rfl]
  unfold withinB at h
  cases e1 : decide (x ≥ a) <;> simp only [e1, Bool.false_and, Bool.true_and] at h <;> simp only [e1, ↓evp,evq,evr,fxa0,fxa1,fxa2,fxa3,fxu,fxn,fxl,↓fxp,lgc,absL,fitL,flatL,aput,ares,ares1,ofVal,unSc,aload,afill,splice,abound,asI,elems,IntKind.bits,sortT,eqNil,closedL,allByte,patch,pendOK,numA,Value.cells,Value.oneCell',ibin,List.replicate,Option.elim,Nat.reduceAdd,Nat.reduceSub,Nat.reduceMul,Nat.reduceLT,Nat.reduceEqDiff,Nat.reduceLeDiff,Nat.reduceBEq,Int.reduceLE,Int.reduceLT,Int.reduceToNat,Int.reduceBNe,Int.reduceBEq,Int.reduceNeg,Int.reduceEq,Int.reduceNe,Nat.reduceBNe,Int.reduceAdd,Int.reduceSub,Int.reduceMul,Int.reducePow,Nat.reducePow,Int.reduceGT,Int.reduceGE,if_true,if_false,ite_true,ite_false,beq_self_eq_true,BEq.rfl,reduceCtorEq,eq_self,ne_eq,Function.comp_def,beq_iff_eq] <;> exact h
theorem q_within {x a b : Int} (h : K (.sc (.bool (withinB x a b))) st) : acallF Try.prog pl (n + 1) m 73 [.sc (.int .i64 x), .sc (.int .i64 a), .sc (.int .i64 b)] st K := by
  rw [acallF_eq Try.func73 rfl]
  unfold withinB at h
  cases e1 : decide (x ≥ a) <;> simp only [e1, Bool.false_and, Bool.true_and] at h <;> simp only [e1, ↓evp,evq,evr,fxa0,fxa1,fxa2,fxa3,fxu,fxn,fxl,↓fxp,lgc,absL,fitL,flatL,aput,ares,ares1,ofVal,unSc,aload,afill,splice,abound,asI,elems,IntKind.bits,sortT,eqNil,closedL,allByte,patch,pendOK,numA,Value.cells,Value.oneCell',ibin,List.replicate,Option.elim,Nat.reduceAdd,Nat.reduceSub,Nat.reduceMul,Nat.reduceLT,Nat.reduceEqDiff,Nat.reduceLeDiff,Nat.reduceBEq,Int.reduceLE,Int.reduceLT,Int.reduceToNat,Int.reduceBNe,Int.reduceBEq,Int.reduceNeg,Int.reduceEq,Int.reduceNe,Nat.reduceBNe,Int.reduceAdd,Int.reduceSub,Int.reduceMul,Int.reducePow,Nat.reducePow,Int.reduceGT,Int.reduceGE,if_true,if_false,ite_true,ite_false,beq_self_eq_true,BEq.rfl,reduceCtorEq,eq_self,ne_eq,Function.comp_def,beq_iff_eq] <;> exact h
theorem cell_side {x : Int} (h : K (.sc (.bool (withinB x 1 1048576))) st) : acallF Try.prog pl (n + 1) m 99 [.sc (.int .i64 x)] st K := by
  rw [acallF_eq Try.func99 rfl]
  unfold withinB at h
  cases e1 : decide (x ≥ 1) <;> simp only [e1, Bool.false_and, Bool.true_and] at h <;> simp only [e1, ↓evp,evq,evr,fxa0,fxa1,fxa2,fxa3,fxu,fxn,fxl,↓fxp,lgc,absL,fitL,flatL,aput,ares,ares1,ofVal,unSc,aload,afill,splice,abound,asI,elems,IntKind.bits,sortT,eqNil,closedL,allByte,patch,pendOK,numA,Value.cells,Value.oneCell',ibin,List.replicate,Option.elim,Nat.reduceAdd,Nat.reduceSub,Nat.reduceMul,Nat.reduceLT,Nat.reduceEqDiff,Nat.reduceLeDiff,Nat.reduceBEq,Int.reduceLE,Int.reduceLT,Int.reduceToNat,Int.reduceBNe,Int.reduceBEq,Int.reduceNeg,Int.reduceEq,Int.reduceNe,Nat.reduceBNe,Int.reduceAdd,Int.reduceSub,Int.reduceMul,Int.reducePow,Nat.reducePow,Int.reduceGT,Int.reduceGE,if_true,if_false,ite_true,ite_false,beq_self_eq_true,BEq.rfl,reduceCtorEq,eq_self,ne_eq,Function.comp_def,beq_iff_eq] <;> exact h
theorem cell_near {x : Int} (h : K (.sc (.bool (withinB x (-1048576) 1048576))) st) : acallF Try.prog pl (n + 1) m 100 [.sc (.int .i64 x)] st K := by
  rw [acallF_eq Try.func100 rfl]
  unfold withinB at h
  cases e1 : decide (x ≥ -1048576) <;> simp only [e1, Bool.false_and, Bool.true_and] at h <;> simp only [e1, ↓evp,evq,evr,fxa0,fxa1,fxa2,fxa3,fxu,fxn,fxl,↓fxp,lgc,absL,fitL,flatL,aput,ares,ares1,ofVal,unSc,aload,afill,splice,abound,asI,elems,IntKind.bits,sortT,eqNil,closedL,allByte,patch,pendOK,numA,Value.cells,Value.oneCell',ibin,List.replicate,Option.elim,Nat.reduceAdd,Nat.reduceSub,Nat.reduceMul,Nat.reduceLT,Nat.reduceEqDiff,Nat.reduceLeDiff,Nat.reduceBEq,Int.reduceLE,Int.reduceLT,Int.reduceToNat,Int.reduceBNe,Int.reduceBEq,Int.reduceNeg,Int.reduceEq,Int.reduceNe,Nat.reduceBNe,Int.reduceAdd,Int.reduceSub,Int.reduceMul,Int.reducePow,Nat.reducePow,Int.reduceGT,Int.reduceGE,if_true,if_false,ite_true,ite_false,beq_self_eq_true,BEq.rfl,reduceCtorEq,eq_self,ne_eq,Function.comp_def,beq_iff_eq] <;> exact h
/-- A cell's two cells. -/
def cl (x y : Int) : V := .agg [.sc (.int .i64 x), .sc (.int .i64 y)]
def nearB (x y : Int) : Bool := withinB x (-1048576) 1048576 && withinB y (-1048576) 1048576
theorem cell_Near {x y : Int} (h : ∀ s, Grw st s → K (.sc (.bool (nearB x y))) s) : acallF Try.prog pl (n + 2) m 98 [cl x y] st K := by
  rw [acallF_eq Try.func98 rfl]
  unfold nearB at h
  simp only [cl, ↓evp,evq,evr,fxa0,fxa1,fxa2,fxa3,fxu,fxn,fxl,↓fxp,lgc,absL,fitL,flatL,aput,ares,ares1,ofVal,unSc,aload,afill,splice,abound,asI,elems,IntKind.bits,sortT,eqNil,closedL,allByte,patch,pendOK,numA,Value.cells,Value.oneCell',ibin,List.replicate,Option.elim,Nat.reduceAdd,Nat.reduceSub,Nat.reduceMul,Nat.reduceLT,Nat.reduceEqDiff,Nat.reduceLeDiff,Nat.reduceBEq,Int.reduceLE,Int.reduceLT,Int.reduceToNat,Int.reduceBNe,Int.reduceBEq,Int.reduceNeg,Int.reduceEq,Int.reduceNe,Nat.reduceBNe,Int.reduceAdd,Int.reduceSub,Int.reduceMul,Int.reducePow,Nat.reducePow,Int.reduceGT,Int.reduceGE,if_true,if_false,ite_true,ite_false,beq_self_eq_true,BEq.rfl,reduceCtorEq,eq_self,ne_eq,Function.comp_def,beq_iff_eq]
  refine cell_near ?_
  cases e1 : withinB x (-1048576) 1048576 <;> simp only [e1, Bool.false_and, Bool.true_and] at h <;> simp only [e1, ↓evp,evq,evr,fxa0,fxa1,fxa2,fxa3,fxu,fxn,fxl,↓fxp,lgc,absL,fitL,flatL,aput,ares,ares1,ofVal,unSc,aload,afill,splice,abound,asI,elems,IntKind.bits,sortT,eqNil,closedL,allByte,patch,pendOK,numA,Value.cells,Value.oneCell',ibin,List.replicate,Option.elim,Nat.reduceAdd,Nat.reduceSub,Nat.reduceMul,Nat.reduceLT,Nat.reduceEqDiff,Nat.reduceLeDiff,Nat.reduceBEq,Int.reduceLE,Int.reduceLT,Int.reduceToNat,Int.reduceBNe,Int.reduceBEq,Int.reduceNeg,Int.reduceEq,Int.reduceNe,Nat.reduceBNe,Int.reduceAdd,Int.reduceSub,Int.reduceMul,Int.reducePow,Nat.reducePow,Int.reduceGT,Int.reduceGE,if_true,if_false,ite_true,ite_false,beq_self_eq_true,BEq.rfl,reduceCtorEq,eq_self,ne_eq,Function.comp_def,beq_iff_eq]
  · exact h _ (.push _ _)
  · refine cell_near ?_
    simp only [↓evp,evq,evr,fxa0,fxa1,fxa2,fxa3,fxu,fxn,fxl,↓fxp,lgc,absL,fitL,flatL,aput,ares,ares1,ofVal,unSc,aload,afill,splice,abound,asI,elems,IntKind.bits,sortT,eqNil,closedL,allByte,patch,pendOK,numA,Value.cells,Value.oneCell',ibin,List.replicate,Option.elim,Nat.reduceAdd,Nat.reduceSub,Nat.reduceMul,Nat.reduceLT,Nat.reduceEqDiff,Nat.reduceLeDiff,Nat.reduceBEq,Int.reduceLE,Int.reduceLT,Int.reduceToNat,Int.reduceBNe,Int.reduceBEq,Int.reduceNeg,Int.reduceEq,Int.reduceNe,Nat.reduceBNe,Int.reduceAdd,Int.reduceSub,Int.reduceMul,Int.reducePow,Nat.reducePow,Int.reduceGT,Int.reduceGE,if_true,if_false,ite_true,ite_false,beq_self_eq_true,BEq.rfl,reduceCtorEq,eq_self,ne_eq,Function.comp_def,beq_iff_eq]
    exact h _ (.push _ _)
def rc (x y w h : Int) : V := .agg [.sc (.int .i64 x), .sc (.int .i64 y), .sc (.int .i64 w), .sc (.int .i64 h)]
def lastN (x w : Int) : Int := IntKind.i64.wrap (IntKind.i64.wrap (x + w) - 1)
theorem cell_last {x y w h : Int} (hK : ∀ s, Grw st s → K (cl (lastN x w) (lastN y h)) s) : acallF Try.prog pl (n + 1) m 96 [rc x y w h] st K := by
  rw [acallF_eq Try.func96 rfl]
  simp only [rc, ↓evp,evq,evr,fxa0,fxa1,fxa2,fxa3,fxu,fxn,fxl,↓fxp,lgc,absL,fitL,flatL,aput,ares,ares1,ofVal,unSc,aload,afill,splice,abound,asI,elems,IntKind.bits,sortT,eqNil,closedL,allByte,patch,pendOK,numA,Value.cells,Value.oneCell',ibin,List.replicate,Option.elim,Nat.reduceAdd,Nat.reduceSub,Nat.reduceMul,Nat.reduceLT,Nat.reduceEqDiff,Nat.reduceLeDiff,Nat.reduceBEq,Int.reduceLE,Int.reduceLT,Int.reduceToNat,Int.reduceBNe,Int.reduceBEq,Int.reduceNeg,Int.reduceEq,Int.reduceNe,Nat.reduceBNe,Int.reduceAdd,Int.reduceSub,Int.reduceMul,Int.reducePow,Nat.reducePow,Int.reduceGT,Int.reduceGE,if_true,if_false,ite_true,ite_false,beq_self_eq_true,BEq.rfl,reduceCtorEq,eq_self,ne_eq,Function.comp_def,beq_iff_eq]
  exact hK _ (.push _ _)
def mayB (x y w h : Int) : Bool := nearB x y && withinB w 1 1048576 && withinB h 1 1048576 && nearB (lastN x w) (lastN y h)
theorem cell_May {x y w h : Int} (hK : ∀ s, Grw st s → K (.sc (.bool (mayB x y w h))) s) : acallF Try.prog pl (n + 3) m 95 [rc x y w h] st K := by
  rw [acallF_eq Try.func95 rfl]
  unfold mayB at hK
  simp only [rc, ↓evp,evq,evr,fxa0,fxa1,fxa2,fxa3,fxu,fxn,fxl,↓fxp,lgc,absL,fitL,flatL,aput,ares,ares1,ofVal,unSc,aload,afill,splice,abound,asI,elems,IntKind.bits,sortT,eqNil,closedL,allByte,patch,pendOK,numA,Value.cells,Value.oneCell',ibin,List.replicate,Option.elim,Nat.reduceAdd,Nat.reduceSub,Nat.reduceMul,Nat.reduceLT,Nat.reduceEqDiff,Nat.reduceLeDiff,Nat.reduceBEq,Int.reduceLE,Int.reduceLT,Int.reduceToNat,Int.reduceBNe,Int.reduceBEq,Int.reduceNeg,Int.reduceEq,Int.reduceNe,Nat.reduceBNe,Int.reduceAdd,Int.reduceSub,Int.reduceMul,Int.reducePow,Nat.reducePow,Int.reduceGT,Int.reduceGE,if_true,if_false,ite_true,ite_false,beq_self_eq_true,BEq.rfl,reduceCtorEq,eq_self,ne_eq,Function.comp_def,beq_iff_eq]
  refine cell_Near fun s1 h1 => ?_
  have hc1 := h1 _ _ (get_new0 st [.cells [.sc (.int .i64 x), .sc (.int .i64 y), .sc (.int .i64 w), .sc (.int .i64 h)]])
  have hg := (Grw.push st [.cells [.sc (.int .i64 x), .sc (.int .i64 y), .sc (.int .i64 w), .sc (.int .i64 h)]]).trans h1
  cases e1 : nearB x y
  · simp only [e1, Bool.false_and] at hK
    simp only [e1, ↓evp,evq,evr,fxa0,fxa1,fxa2,fxa3,fxu,fxn,fxl,↓fxp,lgc,absL,fitL,flatL,aput,ares,ares1,ofVal,unSc,aload,afill,splice,abound,asI,elems,IntKind.bits,sortT,eqNil,closedL,allByte,patch,pendOK,numA,Value.cells,Value.oneCell',ibin,List.replicate,Option.elim,Nat.reduceAdd,Nat.reduceSub,Nat.reduceMul,Nat.reduceLT,Nat.reduceEqDiff,Nat.reduceLeDiff,Nat.reduceBEq,Int.reduceLE,Int.reduceLT,Int.reduceToNat,Int.reduceBNe,Int.reduceBEq,Int.reduceNeg,Int.reduceEq,Int.reduceNe,Nat.reduceBNe,Int.reduceAdd,Int.reduceSub,Int.reduceMul,Int.reducePow,Nat.reducePow,Int.reduceGT,Int.reduceGE,if_true,if_false,ite_true,ite_false,beq_self_eq_true,BEq.rfl,reduceCtorEq,eq_self,ne_eq,Function.comp_def,beq_iff_eq]
    exact hK _ hg
  simp only [e1, Bool.true_and] at hK
  simp only [e1, hc1, ↓evp,evq,evr,fxa0,fxa1,fxa2,fxa3,fxu,fxn,fxl,↓fxp,lgc,absL,fitL,flatL,aput,ares,ares1,ofVal,unSc,aload,afill,splice,abound,asI,elems,IntKind.bits,sortT,eqNil,closedL,allByte,patch,pendOK,numA,Value.cells,Value.oneCell',ibin,List.replicate,Option.elim,Nat.reduceAdd,Nat.reduceSub,Nat.reduceMul,Nat.reduceLT,Nat.reduceEqDiff,Nat.reduceLeDiff,Nat.reduceBEq,Int.reduceLE,Int.reduceLT,Int.reduceToNat,Int.reduceBNe,Int.reduceBEq,Int.reduceNeg,Int.reduceEq,Int.reduceNe,Nat.reduceBNe,Int.reduceAdd,Int.reduceSub,Int.reduceMul,Int.reducePow,Nat.reducePow,Int.reduceGT,Int.reduceGE,if_true,if_false,ite_true,ite_false,beq_self_eq_true,BEq.rfl,reduceCtorEq,eq_self,ne_eq,Function.comp_def,beq_iff_eq]
  refine cell_side ?_
  cases e2 : withinB w 1 1048576
  · simp only [e2, Bool.false_and] at hK
    simp only [e2, ↓evp,evq,evr,fxa0,fxa1,fxa2,fxa3,fxu,fxn,fxl,↓fxp,lgc,absL,fitL,flatL,aput,ares,ares1,ofVal,unSc,aload,afill,splice,abound,asI,elems,IntKind.bits,sortT,eqNil,closedL,allByte,patch,pendOK,numA,Value.cells,Value.oneCell',ibin,List.replicate,Option.elim,Nat.reduceAdd,Nat.reduceSub,Nat.reduceMul,Nat.reduceLT,Nat.reduceEqDiff,Nat.reduceLeDiff,Nat.reduceBEq,Int.reduceLE,Int.reduceLT,Int.reduceToNat,Int.reduceBNe,Int.reduceBEq,Int.reduceNeg,Int.reduceEq,Int.reduceNe,Nat.reduceBNe,Int.reduceAdd,Int.reduceSub,Int.reduceMul,Int.reducePow,Nat.reducePow,Int.reduceGT,Int.reduceGE,if_true,if_false,ite_true,ite_false,beq_self_eq_true,BEq.rfl,reduceCtorEq,eq_self,ne_eq,Function.comp_def,beq_iff_eq]
    exact hK _ hg
  simp only [e2, Bool.true_and] at hK
  simp only [e2, hc1, ↓evp,evq,evr,fxa0,fxa1,fxa2,fxa3,fxu,fxn,fxl,↓fxp,lgc,absL,fitL,flatL,aput,ares,ares1,ofVal,unSc,aload,afill,splice,abound,asI,elems,IntKind.bits,sortT,eqNil,closedL,allByte,patch,pendOK,numA,Value.cells,Value.oneCell',ibin,List.replicate,Option.elim,Nat.reduceAdd,Nat.reduceSub,Nat.reduceMul,Nat.reduceLT,Nat.reduceEqDiff,Nat.reduceLeDiff,Nat.reduceBEq,Int.reduceLE,Int.reduceLT,Int.reduceToNat,Int.reduceBNe,Int.reduceBEq,Int.reduceNeg,Int.reduceEq,Int.reduceNe,Nat.reduceBNe,Int.reduceAdd,Int.reduceSub,Int.reduceMul,Int.reducePow,Nat.reducePow,Int.reduceGT,Int.reduceGE,if_true,if_false,ite_true,ite_false,beq_self_eq_true,BEq.rfl,reduceCtorEq,eq_self,ne_eq,Function.comp_def,beq_iff_eq]
  refine cell_side ?_
  cases e3 : withinB h 1 1048576
  · simp only [e3, Bool.false_and] at hK
    simp only [e3, ↓evp,evq,evr,fxa0,fxa1,fxa2,fxa3,fxu,fxn,fxl,↓fxp,lgc,absL,fitL,flatL,aput,ares,ares1,ofVal,unSc,aload,afill,splice,abound,asI,elems,IntKind.bits,sortT,eqNil,closedL,allByte,patch,pendOK,numA,Value.cells,Value.oneCell',ibin,List.replicate,Option.elim,Nat.reduceAdd,Nat.reduceSub,Nat.reduceMul,Nat.reduceLT,Nat.reduceEqDiff,Nat.reduceLeDiff,Nat.reduceBEq,Int.reduceLE,Int.reduceLT,Int.reduceToNat,Int.reduceBNe,Int.reduceBEq,Int.reduceNeg,Int.reduceEq,Int.reduceNe,Nat.reduceBNe,Int.reduceAdd,Int.reduceSub,Int.reduceMul,Int.reducePow,Nat.reducePow,Int.reduceGT,Int.reduceGE,if_true,if_false,ite_true,ite_false,beq_self_eq_true,BEq.rfl,reduceCtorEq,eq_self,ne_eq,Function.comp_def,beq_iff_eq]
    exact hK _ hg
  simp only [e3, Bool.true_and] at hK
  simp only [e3, hc1, ↓evp,evq,evr,fxa0,fxa1,fxa2,fxa3,fxu,fxn,fxl,↓fxp,lgc,absL,fitL,flatL,aput,ares,ares1,ofVal,unSc,aload,afill,splice,abound,asI,elems,IntKind.bits,sortT,eqNil,closedL,allByte,patch,pendOK,numA,Value.cells,Value.oneCell',ibin,List.replicate,Option.elim,Nat.reduceAdd,Nat.reduceSub,Nat.reduceMul,Nat.reduceLT,Nat.reduceEqDiff,Nat.reduceLeDiff,Nat.reduceBEq,Int.reduceLE,Int.reduceLT,Int.reduceToNat,Int.reduceBNe,Int.reduceBEq,Int.reduceNeg,Int.reduceEq,Int.reduceNe,Nat.reduceBNe,Int.reduceAdd,Int.reduceSub,Int.reduceMul,Int.reducePow,Nat.reducePow,Int.reduceGT,Int.reduceGE,if_true,if_false,ite_true,ite_false,beq_self_eq_true,BEq.rfl,reduceCtorEq,eq_self,ne_eq,Function.comp_def,beq_iff_eq]
  refine cell_last fun s2 h2 => ?_
  simp only [↓evp,evq,evr,fxa0,fxa1,fxa2,fxa3,fxu,fxn,fxl,↓fxp,lgc,absL,fitL,flatL,aput,ares,ares1,ofVal,unSc,aload,afill,splice,abound,asI,elems,IntKind.bits,sortT,eqNil,closedL,allByte,patch,pendOK,numA,Value.cells,Value.oneCell',ibin,List.replicate,Option.elim,Nat.reduceAdd,Nat.reduceSub,Nat.reduceMul,Nat.reduceLT,Nat.reduceEqDiff,Nat.reduceLeDiff,Nat.reduceBEq,Int.reduceLE,Int.reduceLT,Int.reduceToNat,Int.reduceBNe,Int.reduceBEq,Int.reduceNeg,Int.reduceEq,Int.reduceNe,Nat.reduceBNe,Int.reduceAdd,Int.reduceSub,Int.reduceMul,Int.reducePow,Nat.reducePow,Int.reduceGT,Int.reduceGE,if_true,if_false,ite_true,ite_false,beq_self_eq_true,BEq.rfl,reduceCtorEq,eq_self,ne_eq,Function.comp_def,beq_iff_eq]
  refine cell_Near fun s3 h3 => ?_
  simp only [↓evp,evq,evr,fxa0,fxa1,fxa2,fxa3,fxu,fxn,fxl,↓fxp,lgc,absL,fitL,flatL,aput,ares,ares1,ofVal,unSc,aload,afill,splice,abound,asI,elems,IntKind.bits,sortT,eqNil,closedL,allByte,patch,pendOK,numA,Value.cells,Value.oneCell',ibin,List.replicate,Option.elim,Nat.reduceAdd,Nat.reduceSub,Nat.reduceMul,Nat.reduceLT,Nat.reduceEqDiff,Nat.reduceLeDiff,Nat.reduceBEq,Int.reduceLE,Int.reduceLT,Int.reduceToNat,Int.reduceBNe,Int.reduceBEq,Int.reduceNeg,Int.reduceEq,Int.reduceNe,Nat.reduceBNe,Int.reduceAdd,Int.reduceSub,Int.reduceMul,Int.reducePow,Nat.reducePow,Int.reduceGT,Int.reduceGE,if_true,if_false,ite_true,ite_false,beq_self_eq_true,BEq.rfl,reduceCtorEq,eq_self,ne_eq,Function.comp_def,beq_iff_eq]
  exact hK _ (hg.trans (h2.trans h3))
def hasB (x y w h a b : Int) : Bool := mayB x y w h && withinB a x (lastN x w) && withinB b y (lastN y h)
theorem cell_Has {x y w h a b : Int} (hK : ∀ s, Grw st s → K (.sc (.bool (hasB x y w h a b))) s) : acallF Try.prog pl (n + 4) m 91 [rc x y w h, cl a b] st K := by
  rw [acallF_eq Try.func91 rfl]
  unfold hasB withinB at hK
  simp only [rc, cl, ↓evp,evq,evr,fxa0,fxa1,fxa2,fxa3,fxu,fxn,fxl,↓fxp,lgc,absL,fitL,flatL,aput,ares,ares1,ofVal,unSc,aload,afill,splice,abound,asI,elems,IntKind.bits,sortT,eqNil,closedL,allByte,patch,pendOK,numA,Value.cells,Value.oneCell',ibin,List.replicate,Option.elim,Nat.reduceAdd,Nat.reduceSub,Nat.reduceMul,Nat.reduceLT,Nat.reduceEqDiff,Nat.reduceLeDiff,Nat.reduceBEq,Int.reduceLE,Int.reduceLT,Int.reduceToNat,Int.reduceBNe,Int.reduceBEq,Int.reduceNeg,Int.reduceEq,Int.reduceNe,Nat.reduceBNe,Int.reduceAdd,Int.reduceSub,Int.reduceMul,Int.reducePow,Nat.reducePow,Int.reduceGT,Int.reduceGE,if_true,if_false,ite_true,ite_false,beq_self_eq_true,BEq.rfl,reduceCtorEq,eq_self,ne_eq,Function.comp_def,beq_iff_eq]
  have hg0 := Grw.push st [.cells [.sc (.int .i64 x), .sc (.int .i64 y), .sc (.int .i64 w), .sc (.int .i64 h)], .cells [.sc (.int .i64 a), .sc (.int .i64 b)]]
  have ha := get_new0 st [.cells [.sc (.int .i64 x), .sc (.int .i64 y), .sc (.int .i64 w), .sc (.int .i64 h)], .cells [.sc (.int .i64 a), .sc (.int .i64 b)]]
  have hb := get_new st [.cells [.sc (.int .i64 x), .sc (.int .i64 y), .sc (.int .i64 w), .sc (.int .i64 h)], .cells [.sc (.int .i64 a), .sc (.int .i64 b)]] 1
  simp only [List.getElem?_cons_zero, List.getElem?_cons_succ] at ha hb
  refine cell_May fun s1 h1 => ?_
  cases e1 : mayB x y w h
  · simp only [e1, Bool.false_and] at hK
    simp only [e1, ↓evp,evq,evr,fxa0,fxa1,fxa2,fxa3,fxu,fxn,fxl,↓fxp,lgc,absL,fitL,flatL,aput,ares,ares1,ofVal,unSc,aload,afill,splice,abound,asI,elems,IntKind.bits,sortT,eqNil,closedL,allByte,patch,pendOK,numA,Value.cells,Value.oneCell',ibin,List.replicate,Option.elim,Nat.reduceAdd,Nat.reduceSub,Nat.reduceMul,Nat.reduceLT,Nat.reduceEqDiff,Nat.reduceLeDiff,Nat.reduceBEq,Int.reduceLE,Int.reduceLT,Int.reduceToNat,Int.reduceBNe,Int.reduceBEq,Int.reduceNeg,Int.reduceEq,Int.reduceNe,Nat.reduceBNe,Int.reduceAdd,Int.reduceSub,Int.reduceMul,Int.reducePow,Nat.reducePow,Int.reduceGT,Int.reduceGE,if_true,if_false,ite_true,ite_false,beq_self_eq_true,BEq.rfl,reduceCtorEq,eq_self,ne_eq,Function.comp_def,beq_iff_eq]
    exact hK _ (hg0.trans h1)
  simp only [e1, Bool.true_and] at hK
  have ha1 := h1 _ _ ha
  have hb1 := h1 _ _ hb
  simp only [e1, ha1, ↓evp,evq,evr,fxa0,fxa1,fxa2,fxa3,fxu,fxn,fxl,↓fxp,lgc,absL,fitL,flatL,aput,ares,ares1,ofVal,unSc,aload,afill,splice,abound,asI,elems,IntKind.bits,sortT,eqNil,closedL,allByte,patch,pendOK,numA,Value.cells,Value.oneCell',ibin,List.replicate,Option.elim,Nat.reduceAdd,Nat.reduceSub,Nat.reduceMul,Nat.reduceLT,Nat.reduceEqDiff,Nat.reduceLeDiff,Nat.reduceBEq,Int.reduceLE,Int.reduceLT,Int.reduceToNat,Int.reduceBNe,Int.reduceBEq,Int.reduceNeg,Int.reduceEq,Int.reduceNe,Nat.reduceBNe,Int.reduceAdd,Int.reduceSub,Int.reduceMul,Int.reducePow,Nat.reducePow,Int.reduceGT,Int.reduceGE,if_true,if_false,ite_true,ite_false,beq_self_eq_true,BEq.rfl,reduceCtorEq,eq_self,ne_eq,Function.comp_def,beq_iff_eq]
  refine cell_last fun s2 h2 => ?_
  have hg2 := hg0.trans (h1.trans (h2.trans (.push _ [.cells [.sc (.int .i64 (lastN x w)), .sc (.int .i64 (lastN y h))]])))
  have ha2 := Grw.push s2 [.cells [.sc (.int .i64 (lastN x w)), .sc (.int .i64 (lastN y h))]] _ _ (h2 _ _ ha1)
  have hb2 := Grw.push s2 [.cells [.sc (.int .i64 (lastN x w)), .sc (.int .i64 (lastN y h))]] _ _ (h2 _ _ hb1)
  cases e2 : decide (a ≥ x)
  · simp only [e2, Bool.false_and] at hK
    simp only [cl, ha2, hb2, e2, ↓evp,evq,evr,fxa0,fxa1,fxa2,fxa3,fxu,fxn,fxl,↓fxp,lgc,absL,fitL,flatL,aput,ares,ares1,ofVal,unSc,aload,afill,splice,abound,asI,elems,IntKind.bits,sortT,eqNil,closedL,allByte,patch,pendOK,numA,Value.cells,Value.oneCell',ibin,List.replicate,Option.elim,Nat.reduceAdd,Nat.reduceSub,Nat.reduceMul,Nat.reduceLT,Nat.reduceEqDiff,Nat.reduceLeDiff,Nat.reduceBEq,Int.reduceLE,Int.reduceLT,Int.reduceToNat,Int.reduceBNe,Int.reduceBEq,Int.reduceNeg,Int.reduceEq,Int.reduceNe,Nat.reduceBNe,Int.reduceAdd,Int.reduceSub,Int.reduceMul,Int.reducePow,Nat.reducePow,Int.reduceGT,Int.reduceGE,if_true,if_false,ite_true,ite_false,beq_self_eq_true,BEq.rfl,reduceCtorEq,eq_self,ne_eq,Function.comp_def,beq_iff_eq]
    exact hK _ hg2
  cases e3 : decide (a ≤ lastN x w)
  · simp only [e2, e3, Bool.false_and, Bool.and_false] at hK
    simp only [cl, ha2, hb2, e2, e3, ↓evp,evq,evr,fxa0,fxa1,fxa2,fxa3,fxu,fxn,fxl,↓fxp,lgc,absL,fitL,flatL,aput,ares,ares1,ofVal,unSc,aload,afill,splice,abound,asI,elems,IntKind.bits,sortT,eqNil,closedL,allByte,patch,pendOK,numA,Value.cells,Value.oneCell',ibin,List.replicate,Option.elim,Nat.reduceAdd,Nat.reduceSub,Nat.reduceMul,Nat.reduceLT,Nat.reduceEqDiff,Nat.reduceLeDiff,Nat.reduceBEq,Int.reduceLE,Int.reduceLT,Int.reduceToNat,Int.reduceBNe,Int.reduceBEq,Int.reduceNeg,Int.reduceEq,Int.reduceNe,Nat.reduceBNe,Int.reduceAdd,Int.reduceSub,Int.reduceMul,Int.reducePow,Nat.reducePow,Int.reduceGT,Int.reduceGE,if_true,if_false,ite_true,ite_false,beq_self_eq_true,BEq.rfl,reduceCtorEq,eq_self,ne_eq,Function.comp_def,beq_iff_eq]
    exact hK _ hg2
  cases e4 : decide (b ≥ y)
  · simp only [e2, e3, e4, Bool.false_and, Bool.and_false, Bool.true_and] at hK
    simp only [cl, ha2, hb2, e2, e3, e4, ↓evp,evq,evr,fxa0,fxa1,fxa2,fxa3,fxu,fxn,fxl,↓fxp,lgc,absL,fitL,flatL,aput,ares,ares1,ofVal,unSc,aload,afill,splice,abound,asI,elems,IntKind.bits,sortT,eqNil,closedL,allByte,patch,pendOK,numA,Value.cells,Value.oneCell',ibin,List.replicate,Option.elim,Nat.reduceAdd,Nat.reduceSub,Nat.reduceMul,Nat.reduceLT,Nat.reduceEqDiff,Nat.reduceLeDiff,Nat.reduceBEq,Int.reduceLE,Int.reduceLT,Int.reduceToNat,Int.reduceBNe,Int.reduceBEq,Int.reduceNeg,Int.reduceEq,Int.reduceNe,Nat.reduceBNe,Int.reduceAdd,Int.reduceSub,Int.reduceMul,Int.reducePow,Nat.reducePow,Int.reduceGT,Int.reduceGE,if_true,if_false,ite_true,ite_false,beq_self_eq_true,BEq.rfl,reduceCtorEq,eq_self,ne_eq,Function.comp_def,beq_iff_eq]
    exact hK _ hg2
  simp only [e2, e3, e4, Bool.true_and] at hK
  simp only [cl, ha2, hb2, e2, e3, e4, ↓evp,evq,evr,fxa0,fxa1,fxa2,fxa3,fxu,fxn,fxl,↓fxp,lgc,absL,fitL,flatL,aput,ares,ares1,ofVal,unSc,aload,afill,splice,abound,asI,elems,IntKind.bits,sortT,eqNil,closedL,allByte,patch,pendOK,numA,Value.cells,Value.oneCell',ibin,List.replicate,Option.elim,Nat.reduceAdd,Nat.reduceSub,Nat.reduceMul,Nat.reduceLT,Nat.reduceEqDiff,Nat.reduceLeDiff,Nat.reduceBEq,Int.reduceLE,Int.reduceLT,Int.reduceToNat,Int.reduceBNe,Int.reduceBEq,Int.reduceNeg,Int.reduceEq,Int.reduceNe,Nat.reduceBNe,Int.reduceAdd,Int.reduceSub,Int.reduceMul,Int.reducePow,Nat.reducePow,Int.reduceGT,Int.reduceGE,if_true,if_false,ite_true,ite_false,beq_self_eq_true,BEq.rfl,reduceCtorEq,eq_self,ne_eq,Function.comp_def,beq_iff_eq]
  exact hK _ hg2
def shapeB (c z : Int) : Bool := decide (c ≥ 0) && decide (c < 4) && decide (z ≥ 1) && decide (z ≤ 4)
theorem class_May {c z : Int} (hK : ∀ s, Grw st s → K (.sc (.bool (shapeB c z))) s) : acallF Try.prog pl (n + 1) m 92 [cl c z] st K := by
  rw [acallF_eq Try.func92 rfl]
  unfold shapeB at hK
  cases e1 : decide (c ≥ 0)
  · simp only [e1, Bool.false_and] at hK
    simp only [cl, e1, ↓evp,evq,evr,fxa0,fxa1,fxa2,fxa3,fxu,fxn,fxl,↓fxp,lgc,absL,fitL,flatL,aput,ares,ares1,ofVal,unSc,aload,afill,splice,abound,asI,elems,IntKind.bits,sortT,eqNil,closedL,allByte,patch,pendOK,numA,Value.cells,Value.oneCell',ibin,List.replicate,Option.elim,Nat.reduceAdd,Nat.reduceSub,Nat.reduceMul,Nat.reduceLT,Nat.reduceEqDiff,Nat.reduceLeDiff,Nat.reduceBEq,Int.reduceLE,Int.reduceLT,Int.reduceToNat,Int.reduceBNe,Int.reduceBEq,Int.reduceNeg,Int.reduceEq,Int.reduceNe,Nat.reduceBNe,Int.reduceAdd,Int.reduceSub,Int.reduceMul,Int.reducePow,Nat.reducePow,Int.reduceGT,Int.reduceGE,if_true,if_false,ite_true,ite_false,beq_self_eq_true,BEq.rfl,reduceCtorEq,eq_self,ne_eq,Function.comp_def,beq_iff_eq]
    exact hK _ (.push _ _)
  cases e2 : decide (c < 4)
  · simp only [e1, e2, Bool.false_and, Bool.and_false] at hK
    simp only [cl, e1, e2, ↓evp,evq,evr,fxa0,fxa1,fxa2,fxa3,fxu,fxn,fxl,↓fxp,lgc,absL,fitL,flatL,aput,ares,ares1,ofVal,unSc,aload,afill,splice,abound,asI,elems,IntKind.bits,sortT,eqNil,closedL,allByte,patch,pendOK,numA,Value.cells,Value.oneCell',ibin,List.replicate,Option.elim,Nat.reduceAdd,Nat.reduceSub,Nat.reduceMul,Nat.reduceLT,Nat.reduceEqDiff,Nat.reduceLeDiff,Nat.reduceBEq,Int.reduceLE,Int.reduceLT,Int.reduceToNat,Int.reduceBNe,Int.reduceBEq,Int.reduceNeg,Int.reduceEq,Int.reduceNe,Nat.reduceBNe,Int.reduceAdd,Int.reduceSub,Int.reduceMul,Int.reducePow,Nat.reducePow,Int.reduceGT,Int.reduceGE,if_true,if_false,ite_true,ite_false,beq_self_eq_true,BEq.rfl,reduceCtorEq,eq_self,ne_eq,Function.comp_def,beq_iff_eq]
    exact hK _ (.push _ _)
  cases e3 : decide (z ≥ 1)
  · simp only [e1, e2, e3, Bool.false_and, Bool.and_false] at hK
    simp only [cl, e1, e2, e3, ↓evp,evq,evr,fxa0,fxa1,fxa2,fxa3,fxu,fxn,fxl,↓fxp,lgc,absL,fitL,flatL,aput,ares,ares1,ofVal,unSc,aload,afill,splice,abound,asI,elems,IntKind.bits,sortT,eqNil,closedL,allByte,patch,pendOK,numA,Value.cells,Value.oneCell',ibin,List.replicate,Option.elim,Nat.reduceAdd,Nat.reduceSub,Nat.reduceMul,Nat.reduceLT,Nat.reduceEqDiff,Nat.reduceLeDiff,Nat.reduceBEq,Int.reduceLE,Int.reduceLT,Int.reduceToNat,Int.reduceBNe,Int.reduceBEq,Int.reduceNeg,Int.reduceEq,Int.reduceNe,Nat.reduceBNe,Int.reduceAdd,Int.reduceSub,Int.reduceMul,Int.reducePow,Nat.reducePow,Int.reduceGT,Int.reduceGE,if_true,if_false,ite_true,ite_false,beq_self_eq_true,BEq.rfl,reduceCtorEq,eq_self,ne_eq,Function.comp_def,beq_iff_eq]
    exact hK _ (.push _ _)
  simp only [e1, e2, e3, Bool.true_and] at hK
  simp only [cl, e1, e2, e3, ↓evp,evq,evr,fxa0,fxa1,fxa2,fxa3,fxu,fxn,fxl,↓fxp,lgc,absL,fitL,flatL,aput,ares,ares1,ofVal,unSc,aload,afill,splice,abound,asI,elems,IntKind.bits,sortT,eqNil,closedL,allByte,patch,pendOK,numA,Value.cells,Value.oneCell',ibin,List.replicate,Option.elim,Nat.reduceAdd,Nat.reduceSub,Nat.reduceMul,Nat.reduceLT,Nat.reduceEqDiff,Nat.reduceLeDiff,Nat.reduceBEq,Int.reduceLE,Int.reduceLT,Int.reduceToNat,Int.reduceBNe,Int.reduceBEq,Int.reduceNeg,Int.reduceEq,Int.reduceNe,Nat.reduceBNe,Int.reduceAdd,Int.reduceSub,Int.reduceMul,Int.reducePow,Nat.reducePow,Int.reduceGT,Int.reduceGE,if_true,if_false,ite_true,ite_false,beq_self_eq_true,BEq.rfl,reduceCtorEq,eq_self,ne_eq,Function.comp_def,beq_iff_eq]
  exact hK _ (.push _ _)
theorem r06_May {c z : Int} (hK : ∀ s, Grw st s → K (.sc (.bool (shapeB c z))) s) : acallF Try.prog pl (n + 1) m 77 [cl c z] st K := by
  rw [acallF_eq Try.func77 rfl]
  unfold shapeB at hK
  cases e1 : decide (c ≥ 0)
  · simp only [e1, Bool.false_and] at hK
    simp only [cl, e1, ↓evp,evq,evr,fxa0,fxa1,fxa2,fxa3,fxu,fxn,fxl,↓fxp,lgc,absL,fitL,flatL,aput,ares,ares1,ofVal,unSc,aload,afill,splice,abound,asI,elems,IntKind.bits,sortT,eqNil,closedL,allByte,patch,pendOK,numA,Value.cells,Value.oneCell',ibin,List.replicate,Option.elim,Nat.reduceAdd,Nat.reduceSub,Nat.reduceMul,Nat.reduceLT,Nat.reduceEqDiff,Nat.reduceLeDiff,Nat.reduceBEq,Int.reduceLE,Int.reduceLT,Int.reduceToNat,Int.reduceBNe,Int.reduceBEq,Int.reduceNeg,Int.reduceEq,Int.reduceNe,Nat.reduceBNe,Int.reduceAdd,Int.reduceSub,Int.reduceMul,Int.reducePow,Nat.reducePow,Int.reduceGT,Int.reduceGE,if_true,if_false,ite_true,ite_false,beq_self_eq_true,BEq.rfl,reduceCtorEq,eq_self,ne_eq,Function.comp_def,beq_iff_eq]
    exact hK _ (.push _ _)
  cases e2 : decide (c < 4)
  · simp only [e1, e2, Bool.false_and, Bool.and_false] at hK
    simp only [cl, e1, e2, ↓evp,evq,evr,fxa0,fxa1,fxa2,fxa3,fxu,fxn,fxl,↓fxp,lgc,absL,fitL,flatL,aput,ares,ares1,ofVal,unSc,aload,afill,splice,abound,asI,elems,IntKind.bits,sortT,eqNil,closedL,allByte,patch,pendOK,numA,Value.cells,Value.oneCell',ibin,List.replicate,Option.elim,Nat.reduceAdd,Nat.reduceSub,Nat.reduceMul,Nat.reduceLT,Nat.reduceEqDiff,Nat.reduceLeDiff,Nat.reduceBEq,Int.reduceLE,Int.reduceLT,Int.reduceToNat,Int.reduceBNe,Int.reduceBEq,Int.reduceNeg,Int.reduceEq,Int.reduceNe,Nat.reduceBNe,Int.reduceAdd,Int.reduceSub,Int.reduceMul,Int.reducePow,Nat.reducePow,Int.reduceGT,Int.reduceGE,if_true,if_false,ite_true,ite_false,beq_self_eq_true,BEq.rfl,reduceCtorEq,eq_self,ne_eq,Function.comp_def,beq_iff_eq]
    exact hK _ (.push _ _)
  cases e3 : decide (z ≥ 1)
  · simp only [e1, e2, e3, Bool.false_and, Bool.and_false] at hK
    simp only [cl, e1, e2, e3, ↓evp,evq,evr,fxa0,fxa1,fxa2,fxa3,fxu,fxn,fxl,↓fxp,lgc,absL,fitL,flatL,aput,ares,ares1,ofVal,unSc,aload,afill,splice,abound,asI,elems,IntKind.bits,sortT,eqNil,closedL,allByte,patch,pendOK,numA,Value.cells,Value.oneCell',ibin,List.replicate,Option.elim,Nat.reduceAdd,Nat.reduceSub,Nat.reduceMul,Nat.reduceLT,Nat.reduceEqDiff,Nat.reduceLeDiff,Nat.reduceBEq,Int.reduceLE,Int.reduceLT,Int.reduceToNat,Int.reduceBNe,Int.reduceBEq,Int.reduceNeg,Int.reduceEq,Int.reduceNe,Nat.reduceBNe,Int.reduceAdd,Int.reduceSub,Int.reduceMul,Int.reducePow,Nat.reducePow,Int.reduceGT,Int.reduceGE,if_true,if_false,ite_true,ite_false,beq_self_eq_true,BEq.rfl,reduceCtorEq,eq_self,ne_eq,Function.comp_def,beq_iff_eq]
    exact hK _ (.push _ _)
  simp only [e1, e2, e3, Bool.true_and] at hK
  simp only [cl, e1, e2, e3, ↓evp,evq,evr,fxa0,fxa1,fxa2,fxa3,fxu,fxn,fxl,↓fxp,lgc,absL,fitL,flatL,aput,ares,ares1,ofVal,unSc,aload,afill,splice,abound,asI,elems,IntKind.bits,sortT,eqNil,closedL,allByte,patch,pendOK,numA,Value.cells,Value.oneCell',ibin,List.replicate,Option.elim,Nat.reduceAdd,Nat.reduceSub,Nat.reduceMul,Nat.reduceLT,Nat.reduceEqDiff,Nat.reduceLeDiff,Nat.reduceBEq,Int.reduceLE,Int.reduceLT,Int.reduceToNat,Int.reduceBNe,Int.reduceBEq,Int.reduceNeg,Int.reduceEq,Int.reduceNe,Nat.reduceBNe,Int.reduceAdd,Int.reduceSub,Int.reduceMul,Int.reducePow,Nat.reducePow,Int.reduceGT,Int.reduceGE,if_true,if_false,ite_true,ite_false,beq_self_eq_true,BEq.rfl,reduceCtorEq,eq_self,ne_eq,Function.comp_def,beq_iff_eq]
  exact hK _ (.push _ _)
end
end Go.Proofs.Ytfndpnmdjblokaa
