/- Chapter 24's fixed question: one command's bytes. -/
import Derived.Test.YtfndpnmdjblokaaC4
set_option linter.unusedVariables false
set_option linter.unusedSimpArgs false
set_option maxRecDepth 10000
namespace Go.Proofs.Ytfndpnmdjblokaa
open Go Go.M Go.RowKit
attribute [local congr] acallF_cong aloop_cong bcase_cong resK_cong valK_cong wantK_cong callK_cong xputK_cong qputK_cong
attribute [local irreducible] seqK blockK loopK nextK bcase resK valK wantK funK putK dputK xputK qputK callK aops aop acode adraw aloop acallF acall invK
section
variable {n m : Nat} {st : List Ob} {K : V → List Ob → Prop}
def razeV : List V := [.sc (.int .i64 300), .sc (.int .i64 1), .sc (.int .i64 0), .sc (.int .i64 4), .tsl [] 0 true true, .sc (.int .i64 0), .sc (.int .i64 0), .sc (.int .i64 0), .sc (.int .i64 0), .sc (.int .i64 5), .sc (.int .i64 0), .sc (.int .i64 0)]
theorem nil_is : Rd Try.prog st 3 (.tsl [] 0 true true) (is []) ([] : List Int).length := ⟨rfl, ⟨fun b hb => (by cases hb), fun _ => rfl⟩, fun s hs => (by simp [is])⟩
theorem wi64 {n : Int} (h1 : -9223372036854775808 ≤ n) (h2 : n < 9223372036854775808) : IntKind.i64.wrap n = n := IntWalk.i64_in _ (by omega)
/-- A row of numbers. -/
theorem row_at {s : List Ob} {id : Nat} {l : List Nat} (h : s[id]? = some (.row 3 (is (ns l)) l.length 0 false)) : Rd Try.prog s 3 (.sl id 0 l.length false) (is (ns l)) l.length := by
  refine ⟨?_, ⟨fun b hb => (by cases hb), fun hh => by cases hh⟩, fun s hs => by rw [sz3] at hs; cases hs; simp [is, ns]⟩
  simp only [elems, h, sz3]
  rw [if_pos ⟨trivial, Nat.zero_le _⟩]
  simp only [Nat.zero_mul, List.drop_zero, Nat.mul_one]
  rw [List.take_of_length_le (by simp [is, ns])]
set_option maxHeartbeats 2000000 in
theorem raze_parts (hm : 6 < m) (hK : ∀ s', Grw st s' → K (.sc (.bool true)) s') :
    acallF Try.prog pl (n + 6) m 72 [.agg razeV, .agg [bb false, bb false, bb false, bb true, bb false]] st K := by
  rw [acallF_eq Try.func72 rfl]
  have g0 := Grw.push st [.cells razeV, .cells [bb false, bb false, bb false, bb true, bb false], .gone]
  have b0 : (st ++ [Ob.cells razeV, .cells [bb false, bb false, bb false, bb true, bb false], .gone])[st.length]? = some (.cells razeV) := get_new0 _ _
  have b1 : (st ++ [Ob.cells razeV, .cells [bb false, bb false, bb false, bb true, bb false], .gone])[st.length + 1]? = some (.cells [bb false, bb false, bb false, bb true, bb false]) := get_new _ _ 1
  have b2 : (st ++ [Ob.cells razeV, .cells [bb false, bb false, bb false, bb true, bb false], .gone])[st.length + 2]? = some .gone := get_new _ _ 2
  simp only [razeV, bb] at g0 b0 b1 b2
  simp only [razeV, bb, ↓evp,evq,evr,fxa0,fxa1,fxa2,fxa3,fxu,fxn,fxl,↓fxp,lgc,absL,fitL,flatL,aput,ares,ares1,ofVal,unSc,aload,afill,splice,abound,asI,elems,IntKind.bits,sortT,eqNil,closedL,allByte,patch,pendOK,numA,Value.cells,Value.oneCell',ibin,List.replicate,Option.elim,Nat.reduceAdd,Nat.reduceSub,Nat.reduceMul,Nat.reduceLT,Nat.reduceEqDiff,Nat.reduceLeDiff,Nat.reduceBEq,Int.reduceLE,Int.reduceLT,Int.reduceToNat,Int.reduceBNe,Int.reduceBEq,Int.reduceNeg,Int.reduceEq,Int.reduceNe,Nat.reduceBNe,Int.reduceAdd,Int.reduceSub,Int.reduceMul,Int.reducePow,Nat.reducePow,Int.reduceGT,Int.reduceGE,if_true,if_false,ite_true,ite_false,beq_self_eq_true,BEq.rfl,reduceCtorEq,eq_self,ne_eq,Function.comp_def,beq_iff_eq]
  have q0 : ((0 : Int) == 0) = true := rfl
  have q5 : ((5 : Int) == 0) = false := rfl
  refine c_units nil_is (by simp) (by simp only [List.length_nil]; omega) ?_
  have u0 : unitsB [] = false := by decide
  simp only [u0, q0, q5, cmp_Cell, ↓evp,evq,evr,fxa0,fxa1,fxa2,fxa3,fxu,fxn,fxl,↓fxp,lgc,absL,fitL,flatL,aput,ares,ares1,ofVal,unSc,aload,afill,splice,abound,asI,elems,IntKind.bits,sortT,eqNil,closedL,allByte,patch,pendOK,numA,Value.cells,Value.oneCell',ibin,List.replicate,Option.elim,Nat.reduceAdd,Nat.reduceSub,Nat.reduceMul,Nat.reduceLT,Nat.reduceEqDiff,Nat.reduceLeDiff,Nat.reduceBEq,Int.reduceLE,Int.reduceLT,Int.reduceToNat,Int.reduceBNe,Int.reduceBEq,Int.reduceNeg,Int.reduceEq,Int.reduceNe,Nat.reduceBNe,Int.reduceAdd,Int.reduceSub,Int.reduceMul,Int.reducePow,Nat.reducePow,Int.reduceGT,Int.reduceGE,if_true,if_false,ite_true,ite_false,beq_self_eq_true,BEq.rfl,reduceCtorEq,eq_self,ne_eq,Function.comp_def,beq_iff_eq]
  refine cell_Has fun s1 h1 => ?_
  have g1 := g0.trans h1
  have b01 := h1 _ _ b0
  have b11 := h1 _ _ b1
  have b21 := h1 _ _ b2
  have v0 : hasB 0 0 128 128 0 0 = true := by decide
  simp only [v0, g1, h1, b01, b11, q0, q5, cmp_Cell, ↓evp,evq,evr,fxa0,fxa1,fxa2,fxa3,fxu,fxn,fxl,↓fxp,lgc,absL,fitL,flatL,aput,ares,ares1,ofVal,unSc,aload,afill,splice,abound,asI,elems,IntKind.bits,sortT,eqNil,closedL,allByte,patch,pendOK,numA,Value.cells,Value.oneCell',ibin,List.replicate,Option.elim,Nat.reduceAdd,Nat.reduceSub,Nat.reduceMul,Nat.reduceLT,Nat.reduceEqDiff,Nat.reduceLeDiff,Nat.reduceBEq,Int.reduceLE,Int.reduceLT,Int.reduceToNat,Int.reduceBNe,Int.reduceBEq,Int.reduceNeg,Int.reduceEq,Int.reduceNe,Nat.reduceBNe,Int.reduceAdd,Int.reduceSub,Int.reduceMul,Int.reducePow,Nat.reducePow,Int.reduceGT,Int.reduceGE,if_true,if_false,ite_true,ite_false,beq_self_eq_true,BEq.rfl,reduceCtorEq,eq_self,ne_eq,Function.comp_def,beq_iff_eq]
  refine c_within ?_
  have v1 : withinB 0 1 8 = false := by decide
  simp only [v1, g1, h1, b01, b11, q0, q5, cmp_Cell, ↓evp,evq,evr,fxa0,fxa1,fxa2,fxa3,fxu,fxn,fxl,↓fxp,lgc,absL,fitL,flatL,aput,ares,ares1,ofVal,unSc,aload,afill,splice,abound,asI,elems,IntKind.bits,sortT,eqNil,closedL,allByte,patch,pendOK,numA,Value.cells,Value.oneCell',ibin,List.replicate,Option.elim,Nat.reduceAdd,Nat.reduceSub,Nat.reduceMul,Nat.reduceLT,Nat.reduceEqDiff,Nat.reduceLeDiff,Nat.reduceBEq,Int.reduceLE,Int.reduceLT,Int.reduceToNat,Int.reduceBNe,Int.reduceBEq,Int.reduceNeg,Int.reduceEq,Int.reduceNe,Nat.reduceBNe,Int.reduceAdd,Int.reduceSub,Int.reduceMul,Int.reducePow,Nat.reducePow,Int.reduceGT,Int.reduceGE,if_true,if_false,ite_true,ite_false,beq_self_eq_true,BEq.rfl,reduceCtorEq,eq_self,ne_eq,Function.comp_def,beq_iff_eq]
  refine c_within ?_
  have v2 : withinB 5 1 2147483647 = true := by decide
  simp only [v2, g1, h1, b01, b11, q0, q5, cmp_Cell, cmp_Shape, ↓evp,evq,evr,fxa0,fxa1,fxa2,fxa3,fxu,fxn,fxl,↓fxp,lgc,absL,fitL,flatL,aput,ares,ares1,ofVal,unSc,aload,afill,splice,abound,asI,elems,IntKind.bits,sortT,eqNil,closedL,allByte,patch,pendOK,numA,Value.cells,Value.oneCell',ibin,List.replicate,Option.elim,Nat.reduceAdd,Nat.reduceSub,Nat.reduceMul,Nat.reduceLT,Nat.reduceEqDiff,Nat.reduceLeDiff,Nat.reduceBEq,Int.reduceLE,Int.reduceLT,Int.reduceToNat,Int.reduceBNe,Int.reduceBEq,Int.reduceNeg,Int.reduceEq,Int.reduceNe,Nat.reduceBNe,Int.reduceAdd,Int.reduceSub,Int.reduceMul,Int.reducePow,Nat.reducePow,Int.reduceGT,Int.reduceGE,if_true,if_false,ite_true,ite_false,beq_self_eq_true,BEq.rfl,reduceCtorEq,eq_self,ne_eq,Function.comp_def,beq_iff_eq]
  refine class_May fun s2 h2 => ?_
  have v3 : shapeB 0 0 = false := by decide
  have b02 := h2 _ _ b01
  have b12 := h2 _ _ b11
  have b22 := h2 _ _ b21
  have g2 := g1.trans h2
  have hgs := fun x => get_set b22 x
  have z0 : ∀ X, (s2.set (st.length + 2) X)[st.length]? = some (.cells razeV) := fun X => by rw [List.getElem?_set_ne (by omega)]; exact b02
  have z1 : ∀ X, (s2.set (st.length + 2) X)[st.length + 1]? = some (.cells [bb false, bb false, bb false, bb true, bb false]) := fun X => by rw [List.getElem?_set_ne (by omega)]; exact b12
  simp only [razeV, bb] at z0 z1
  obtain ⟨m', rfl⟩ : ∃ m', m = m' + 6 := ⟨m - 6, by omega⟩
  simp only [v3, g2, h2, b02, b12, b22, q0, q5, cmp_Cell, cmp_Shape, hgs, z0, z1, List.set_set, ↓evp,evq,evr,fxa0,fxa1,fxa2,fxa3,fxu,fxn,fxl,↓fxp,lgc,absL,fitL,flatL,aput,ares,ares1,ofVal,unSc,aload,afill,splice,abound,asI,elems,IntKind.bits,sortT,eqNil,closedL,allByte,patch,pendOK,numA,Value.cells,Value.oneCell',ibin,List.replicate,Option.elim,Nat.reduceAdd,Nat.reduceSub,Nat.reduceMul,Nat.reduceLT,Nat.reduceEqDiff,Nat.reduceLeDiff,Nat.reduceBEq,Int.reduceLE,Int.reduceLT,Int.reduceToNat,Int.reduceBNe,Int.reduceBEq,Int.reduceNeg,Int.reduceEq,Int.reduceNe,Nat.reduceBNe,Int.reduceAdd,Int.reduceSub,Int.reduceMul,Int.reducePow,Nat.reducePow,Int.reduceGT,Int.reduceGE,if_true,if_false,ite_true,ite_false,beq_self_eq_true,BEq.rfl,reduceCtorEq,eq_self,ne_eq,Function.comp_def,beq_iff_eq]
  simp only [hgs, ↓aloop_succ, wi64, ↓evp,evq,evr,fxa0,fxa1,fxa2,fxa3,fxu,fxn,fxl,↓fxp,lgc,absL,fitL,flatL,aput,ares,ares1,ofVal,unSc,aload,afill,splice,abound,asI,elems,IntKind.bits,sortT,eqNil,closedL,allByte,patch,pendOK,numA,Value.cells,Value.oneCell',ibin,List.replicate,Option.elim,Nat.reduceAdd,Nat.reduceSub,Nat.reduceMul,Nat.reduceLT,Nat.reduceEqDiff,Nat.reduceLeDiff,Nat.reduceBEq,Int.reduceLE,Int.reduceLT,Int.reduceToNat,Int.reduceBNe,Int.reduceBEq,Int.reduceNeg,Int.reduceEq,Int.reduceNe,Nat.reduceBNe,Int.reduceAdd,Int.reduceSub,Int.reduceMul,Int.reducePow,Nat.reducePow,Int.reduceGT,Int.reduceGE,if_true,if_false,ite_true,ite_false,beq_self_eq_true,BEq.rfl,reduceCtorEq,eq_self,ne_eq,Function.comp_def,beq_iff_eq]
  exact hK _ ((g2.set' (by omega) _).push' _)
set_option maxHeartbeats 1000000 in
theorem raze_Check (hm : 6 < m) (hK : ∀ s', Grw st s' → K (.sc (.int .i64 0)) s') : acallF Try.prog pl (n + 7) m 31 [.agg razeV] st K := by
  rw [acallF_eq Try.func31 rfl]
  have g0 := Grw.push st [.cells razeV]
  have b0 : (st ++ [Ob.cells razeV])[st.length]? = some (.cells razeV) := get_new0 _ _
  simp only [razeV] at g0 b0
  simp only [razeV, ↓evp,evq,evr,fxa0,fxa1,fxa2,fxa3,fxu,fxn,fxl,↓fxp,lgc,absL,fitL,flatL,aput,ares,ares1,ofVal,unSc,aload,afill,splice,abound,asI,elems,IntKind.bits,sortT,eqNil,closedL,allByte,patch,pendOK,numA,Value.cells,Value.oneCell',ibin,List.replicate,Option.elim,Nat.reduceAdd,Nat.reduceSub,Nat.reduceMul,Nat.reduceLT,Nat.reduceEqDiff,Nat.reduceLeDiff,Nat.reduceBEq,Int.reduceLE,Int.reduceLT,Int.reduceToNat,Int.reduceBNe,Int.reduceBEq,Int.reduceNeg,Int.reduceEq,Int.reduceNe,Nat.reduceBNe,Int.reduceAdd,Int.reduceSub,Int.reduceMul,Int.reducePow,Nat.reducePow,Int.reduceGT,Int.reduceGE,if_true,if_false,ite_true,ite_false,beq_self_eq_true,BEq.rfl,reduceCtorEq,eq_self,ne_eq,Function.comp_def,beq_iff_eq]
  refine c_of fun s1 h1 => ?_
  have b1 := h1 _ _ b0
  have k4 : kindV 4 = [bb false, bb false, bb false, bb true, bb false] := rfl
  have w4 : withinB 4 1 5 = true := by decide
  have b2 := Grw.push s1 [.cells [bb false, bb false, bb false, bb true, bb false]] _ _ b1
  have g2 := (g0.trans h1).push' [.cells [bb false, bb false, bb false, bb true, bb false]]
  simp only [bb] at b2 g2
  simp only [k4, w4, bb, b1, b2, ↓evp,evq,evr,fxa0,fxa1,fxa2,fxa3,fxu,fxn,fxl,↓fxp,lgc,absL,fitL,flatL,aput,ares,ares1,ofVal,unSc,aload,afill,splice,abound,asI,elems,IntKind.bits,sortT,eqNil,closedL,allByte,patch,pendOK,numA,Value.cells,Value.oneCell',ibin,List.replicate,Option.elim,Nat.reduceAdd,Nat.reduceSub,Nat.reduceMul,Nat.reduceLT,Nat.reduceEqDiff,Nat.reduceLeDiff,Nat.reduceBEq,Int.reduceLE,Int.reduceLT,Int.reduceToNat,Int.reduceBNe,Int.reduceBEq,Int.reduceNeg,Int.reduceEq,Int.reduceNe,Nat.reduceBNe,Int.reduceAdd,Int.reduceSub,Int.reduceMul,Int.reducePow,Nat.reducePow,Int.reduceGT,Int.reduceGE,if_true,if_false,ite_true,ite_false,beq_self_eq_true,BEq.rfl,reduceCtorEq,eq_self,ne_eq,Function.comp_def,beq_iff_eq]
  refine c_within ?_
  have v1 : withinB 300 0 2147483647 = true := by decide
  simp only [v1, b2, ↓evp,evq,evr,fxa0,fxa1,fxa2,fxa3,fxu,fxn,fxl,↓fxp,lgc,absL,fitL,flatL,aput,ares,ares1,ofVal,unSc,aload,afill,splice,abound,asI,elems,IntKind.bits,sortT,eqNil,closedL,allByte,patch,pendOK,numA,Value.cells,Value.oneCell',ibin,List.replicate,Option.elim,Nat.reduceAdd,Nat.reduceSub,Nat.reduceMul,Nat.reduceLT,Nat.reduceEqDiff,Nat.reduceLeDiff,Nat.reduceBEq,Int.reduceLE,Int.reduceLT,Int.reduceToNat,Int.reduceBNe,Int.reduceBEq,Int.reduceNeg,Int.reduceEq,Int.reduceNe,Nat.reduceBNe,Int.reduceAdd,Int.reduceSub,Int.reduceMul,Int.reducePow,Nat.reducePow,Int.reduceGT,Int.reduceGE,if_true,if_false,ite_true,ite_false,beq_self_eq_true,BEq.rfl,reduceCtorEq,eq_self,ne_eq,Function.comp_def,beq_iff_eq]
  refine c_within ?_
  have v2 : withinB 1 0 7 = true := by decide
  simp only [v2, b2, ↓evp,evq,evr,fxa0,fxa1,fxa2,fxa3,fxu,fxn,fxl,↓fxp,lgc,absL,fitL,flatL,aput,ares,ares1,ofVal,unSc,aload,afill,splice,abound,asI,elems,IntKind.bits,sortT,eqNil,closedL,allByte,patch,pendOK,numA,Value.cells,Value.oneCell',ibin,List.replicate,Option.elim,Nat.reduceAdd,Nat.reduceSub,Nat.reduceMul,Nat.reduceLT,Nat.reduceEqDiff,Nat.reduceLeDiff,Nat.reduceBEq,Int.reduceLE,Int.reduceLT,Int.reduceToNat,Int.reduceBNe,Int.reduceBEq,Int.reduceNeg,Int.reduceEq,Int.reduceNe,Nat.reduceBNe,Int.reduceAdd,Int.reduceSub,Int.reduceMul,Int.reducePow,Nat.reducePow,Int.reduceGT,Int.reduceGE,if_true,if_false,ite_true,ite_false,beq_self_eq_true,BEq.rfl,reduceCtorEq,eq_self,ne_eq,Function.comp_def,beq_iff_eq]
  refine c_within ?_
  have v3 : withinB 0 0 2147483647 = true := by decide
  simp only [v3, b2, ↓evp,evq,evr,fxa0,fxa1,fxa2,fxa3,fxu,fxn,fxl,↓fxp,lgc,absL,fitL,flatL,aput,ares,ares1,ofVal,unSc,aload,afill,splice,abound,asI,elems,IntKind.bits,sortT,eqNil,closedL,allByte,patch,pendOK,numA,Value.cells,Value.oneCell',ibin,List.replicate,Option.elim,Nat.reduceAdd,Nat.reduceSub,Nat.reduceMul,Nat.reduceLT,Nat.reduceEqDiff,Nat.reduceLeDiff,Nat.reduceBEq,Int.reduceLE,Int.reduceLT,Int.reduceToNat,Int.reduceBNe,Int.reduceBEq,Int.reduceNeg,Int.reduceEq,Int.reduceNe,Nat.reduceBNe,Int.reduceAdd,Int.reduceSub,Int.reduceMul,Int.reducePow,Nat.reducePow,Int.reduceGT,Int.reduceGE,if_true,if_false,ite_true,ite_false,beq_self_eq_true,BEq.rfl,reduceCtorEq,eq_self,ne_eq,Function.comp_def,beq_iff_eq]
  refine raze_parts hm fun s3 h3 => ?_
  simp only [↓evp,evq,evr,fxa0,fxa1,fxa2,fxa3,fxu,fxn,fxl,↓fxp,lgc,absL,fitL,flatL,aput,ares,ares1,ofVal,unSc,aload,afill,splice,abound,asI,elems,IntKind.bits,sortT,eqNil,closedL,allByte,patch,pendOK,numA,Value.cells,Value.oneCell',ibin,List.replicate,Option.elim,Nat.reduceAdd,Nat.reduceSub,Nat.reduceMul,Nat.reduceLT,Nat.reduceEqDiff,Nat.reduceLeDiff,Nat.reduceBEq,Int.reduceLE,Int.reduceLT,Int.reduceToNat,Int.reduceBNe,Int.reduceBEq,Int.reduceNeg,Int.reduceEq,Int.reduceNe,Nat.reduceBNe,Int.reduceAdd,Int.reduceSub,Int.reduceMul,Int.reducePow,Nat.reducePow,Int.reduceGT,Int.reduceGE,if_true,if_false,ite_true,ite_false,beq_self_eq_true,BEq.rfl,reduceCtorEq,eq_self,ne_eq,Function.comp_def,beq_iff_eq]
  exact hK _ (g2.trans h3)
set_option maxHeartbeats 1000000 in
theorem raze_Encode (hm : 12 < m) (hK : ∀ w s', Grw st s' → Rd Try.prog s' 5 w (bs [4, 172, 2, 1, 0, 5]) 6 → K (.tup [w, .sc (.int .i64 0)]) s') : acallF Try.prog pl (n + 8) m 37 [.agg razeV] st K := by
  rw [acallF_eq Try.func37 rfl]
  have g0 := Grw.push st [.cells razeV]
  have b0 : (st ++ [Ob.cells razeV])[st.length]? = some (.cells razeV) := get_new0 _ _
  simp only [razeV] at g0 b0
  simp only [razeV, ↓evp,evq,evr,fxa0,fxa1,fxa2,fxa3,fxu,fxn,fxl,↓fxp,lgc,absL,fitL,flatL,aput,ares,ares1,ofVal,unSc,aload,afill,splice,abound,asI,elems,IntKind.bits,sortT,eqNil,closedL,allByte,patch,pendOK,numA,Value.cells,Value.oneCell',ibin,List.replicate,Option.elim,Nat.reduceAdd,Nat.reduceSub,Nat.reduceMul,Nat.reduceLT,Nat.reduceEqDiff,Nat.reduceLeDiff,Nat.reduceBEq,Int.reduceLE,Int.reduceLT,Int.reduceToNat,Int.reduceBNe,Int.reduceBEq,Int.reduceNeg,Int.reduceEq,Int.reduceNe,Nat.reduceBNe,Int.reduceAdd,Int.reduceSub,Int.reduceMul,Int.reducePow,Nat.reducePow,Int.reduceGT,Int.reduceGE,if_true,if_false,ite_true,ite_false,beq_self_eq_true,BEq.rfl,reduceCtorEq,eq_self,ne_eq,Function.comp_def,beq_iff_eq]
  refine raze_Check (by omega) fun s1 h1 => ?_
  have b1 := h1 _ _ b0
  simp only [b1, ↓evp,evq,evr,fxa0,fxa1,fxa2,fxa3,fxu,fxn,fxl,↓fxp,lgc,absL,fitL,flatL,aput,ares,ares1,ofVal,unSc,aload,afill,splice,abound,asI,elems,IntKind.bits,sortT,eqNil,closedL,allByte,patch,pendOK,numA,Value.cells,Value.oneCell',ibin,List.replicate,Option.elim,Nat.reduceAdd,Nat.reduceSub,Nat.reduceMul,Nat.reduceLT,Nat.reduceEqDiff,Nat.reduceLeDiff,Nat.reduceBEq,Int.reduceLE,Int.reduceLT,Int.reduceToNat,Int.reduceBNe,Int.reduceBEq,Int.reduceNeg,Int.reduceEq,Int.reduceNe,Nat.reduceBNe,Int.reduceAdd,Int.reduceSub,Int.reduceMul,Int.reducePow,Nat.reducePow,Int.reduceGT,Int.reduceGE,if_true,if_false,ite_true,ite_false,beq_self_eq_true,BEq.rfl,reduceCtorEq,eq_self,ne_eq,Function.comp_def,beq_iff_eq]
  refine c_of fun s2 h2 => ?_
  have k4 : kindV 4 = [bb false, bb false, bb false, bb true, bb false] := rfl
  have b2 := Grw.push s2 [.cells [bb false, bb false, bb false, bb true, bb false]] _ _ (h2 _ _ b1)
  have g2 := (g0.trans (h1.trans h2)).push' [.cells [bb false, bb false, bb false, bb true, bb false]]
  simp only [bb] at b2 g2
  simp only [k4, bb, b2, ↓evp,evq,evr,fxa0,fxa1,fxa2,fxa3,fxu,fxn,fxl,↓fxp,lgc,absL,fitL,flatL,aput,ares,ares1,ofVal,unSc,aload,afill,splice,abound,asI,elems,IntKind.bits,sortT,eqNil,closedL,allByte,patch,pendOK,numA,Value.cells,Value.oneCell',ibin,List.replicate,Option.elim,Nat.reduceAdd,Nat.reduceSub,Nat.reduceMul,Nat.reduceLT,Nat.reduceEqDiff,Nat.reduceLeDiff,Nat.reduceBEq,Int.reduceLE,Int.reduceLT,Int.reduceToNat,Int.reduceBNe,Int.reduceBEq,Int.reduceNeg,Int.reduceEq,Int.reduceNe,Nat.reduceBNe,Int.reduceAdd,Int.reduceSub,Int.reduceMul,Int.reducePow,Nat.reducePow,Int.reduceGT,Int.reduceGE,if_true,if_false,ite_true,ite_false,beq_self_eq_true,BEq.rfl,reduceCtorEq,eq_self,ne_eq,Function.comp_def,beq_iff_eq]
  have kc := get_new0 s2 [.cells [bb false, bb false, bb false, bb true, bb false]]
  simp only [List.getElem?_cons_zero, bb] at kc
  have u4 : uvb 4 = [4] := uvb_lt (by omega)
  have u1 : uvb 1 = [1] := uvb_lt (by omega)
  have u0 : uvb 0 = [0] := uvb_lt (by omega)
  have u5 : uvb 5 = [5] := uvb_lt (by omega)
  have u300 : uvb 300 = [172, 2] := by
    rw [uvb_ge (by omega), uvb_lt (by omega)]; rfl
  have e1 : nb [4, 300, 1, 0] = [4, 172, 2, 1, 0] := by simp only [nb, List.flatMap_cons, List.flatMap_nil, u4, u300, u1, u0]; rfl
  have e2 : nb [5] = [5] := by simp only [nb, List.flatMap_cons, List.flatMap_nil, u5]; rfl
  refine c_put (xs := []) (l := [4, 300, 1, 0]) nil_rd (row_at (l := [4, 300, 1, 0]) (id := s2.length + 1) (get_new _ _ 1)) (by simp) (by simp) (by omega) (by simp only [List.length_cons, List.length_nil]; omega) fun w3 s3 h3 hw3 => ?_
  rw [List.nil_append, e1] at hw3
  have b3 := h3 _ _ (Grw.push s2 [.cells [bb false, bb false, bb false, bb true, bb false], .row 3 (is (ns [4, 300, 1, 0])) 4 0 false] _ _ (h2 _ _ b1))
  have k3 := h3 _ _ (get_new0 s2 [.cells [bb false, bb false, bb false, bb true, bb false], .row 3 (is (ns [4, 300, 1, 0])) 4 0 false])
  have g3 := (g0.trans (h1.trans h2)).trans ((Grw.push s2 [.cells [bb false, bb false, bb false, bb true, bb false], .row 3 (is (ns [4, 300, 1, 0])) 4 0 false]).trans h3)
  simp only [bb] at k3
  simp only [b3, k3, ↓evp,evq,evr,fxa0,fxa1,fxa2,fxa3,fxu,fxn,fxl,↓fxp,lgc,absL,fitL,flatL,aput,ares,ares1,ofVal,unSc,aload,afill,splice,abound,asI,elems,IntKind.bits,sortT,eqNil,closedL,allByte,patch,pendOK,numA,Value.cells,Value.oneCell',ibin,List.replicate,Option.elim,Nat.reduceAdd,Nat.reduceSub,Nat.reduceMul,Nat.reduceLT,Nat.reduceEqDiff,Nat.reduceLeDiff,Nat.reduceBEq,Int.reduceLE,Int.reduceLT,Int.reduceToNat,Int.reduceBNe,Int.reduceBEq,Int.reduceNeg,Int.reduceEq,Int.reduceNe,Nat.reduceBNe,Int.reduceAdd,Int.reduceSub,Int.reduceMul,Int.reducePow,Nat.reducePow,Int.reduceGT,Int.reduceGE,if_true,if_false,ite_true,ite_false,beq_self_eq_true,BEq.rfl,reduceCtorEq,eq_self,ne_eq,Function.comp_def,beq_iff_eq]
  refine c_put (l := [5]) (hw3.grw (.push _ _)) (row_at (l := [5]) (id := s3.length) (get_new0 _ _)) (by simp) (by simp) (by omega) (by simp only [List.length_cons, List.length_nil]; omega) fun w4 s4 h4 hw4 => ?_
  rw [e2] at hw4
  have h4' := (Grw.push s3 [.row 3 (is (ns [5])) 1 0 false]).trans h4
  have k4 := h4' _ _ k3
  simp only [k4, ↓evp,evq,evr,fxa0,fxa1,fxa2,fxa3,fxu,fxn,fxl,↓fxp,lgc,absL,fitL,flatL,aput,ares,ares1,ofVal,unSc,aload,afill,splice,abound,asI,elems,IntKind.bits,sortT,eqNil,closedL,allByte,patch,pendOK,numA,Value.cells,Value.oneCell',ibin,List.replicate,Option.elim,Nat.reduceAdd,Nat.reduceSub,Nat.reduceMul,Nat.reduceLT,Nat.reduceEqDiff,Nat.reduceLeDiff,Nat.reduceBEq,Int.reduceLE,Int.reduceLT,Int.reduceToNat,Int.reduceBNe,Int.reduceBEq,Int.reduceNeg,Int.reduceEq,Int.reduceNe,Nat.reduceBNe,Int.reduceAdd,Int.reduceSub,Int.reduceMul,Int.reducePow,Nat.reducePow,Int.reduceGT,Int.reduceGE,if_true,if_false,ite_true,ite_false,beq_self_eq_true,BEq.rfl,reduceCtorEq,eq_self,ne_eq,Function.comp_def,beq_iff_eq]
  exact hK _ _ (g3.trans h4') hw4
end
end Go.Proofs.Ytfndpnmdjblokaa
