/- Chapter 5: who has a cell; where one stands: both ways. Chapter 5: who is within a rectangle, both ways. Chapter 5: the law OccupyAsks. -/
import Derived.Test.YtgmccnnjpejigaaX10
set_option linter.unusedVariables false
set_option linter.unusedSimpArgs false
set_option maxRecDepth 10000
namespace Go.Proofs.Ytgmccnnjpejigaa
open Go Go.M Go.RowKit
attribute [local congr] acallF_cong aloop_cong bcase_cong resK_cong valK_cong wantK_cong callK_cong xputK_cong qputK_cong resM_cong rfK_cong
attribute [local irreducible] seqK blockK loopK nextK bcase resK valK wantK funK putK dputK xputK qputK callK aops aop acode adraw aloop acallF acall invK resM rfK rfEnd rdEnd rdMid around
/-! ### Chapter 5: who has a cell; where one stands: both ways. -/
def inB (x y w h a b : Int) : Bool := decide (a ≥ x) && decide (a ≤ x + w - 1) && decide (b ≥ y) && decide (b ≤ y + h - 1)
def hasB (x y w h a b : Int) : Bool := mayB x y w h && inB x y w h a b
def hasU (x y : Int) (u : U) : Bool := hasB u.x u.y u.w u.h x y
theorem has_in {u : U} (h : valB u = true) (a b : Int) : hasU a b u = true ↔ inU u a b := by
  obtain ⟨h1, _⟩ := val_facts h
  simp only [hasU, hasB, h1, Bool.true_and, inB, inU, Bool.and_eq_true, decide_eq_true_eq]
  omega
section
variable {n m : Nat} {st : List Ob} {K : V → List Ob → Prop} {x y w h a b : Int}
set_option maxHeartbeats 1000000 in
theorem r_Has (hK : ∀ s, Grw st s → K (.sc (.bool (hasB x y w h a b))) s) : acallF Try.prog pl (n + 4) m 68 [.agg (rc x y w h), .agg (cl a b)] st K := by
  refine acallF_inF Try.func68 rfl rfl Try.ntmps68 (by simp) ?_
  have g0 := Grw.push st [.cells (rc x y w h), .cells (cl a b)]
  have x0 : (st ++ [Ob.cells (rc x y w h), .cells (cl a b)])[st.length]? = some (.cells (rc x y w h)) := get_new _ _ 0
  have x0' : (st ++ [Ob.cells (rc x y w h), .cells (cl a b)])[st.length + 1]? = some (.cells (cl a b)) := get_new _ _ 1
  simp only [rc, cl] at g0 x0 x0'
  simp only [rc, cl, x0, evf,↓evp,evq,evr,fxa0,fxa1,fxa2,fxa3,fxa4,fxu,fxn,fxl,↓fxp,lgc,absL,fitL,flatL,ares,ares1,ofVal,unSc,aload,afill,splice,abound,asI,elems,IntKind.bits,sortT,eqNil,closedL,allByte,patch,pendOK,numA,Value.cells,Value.oneCell',ibin,List.replicate,Option.elim,Nat.reduceAdd,Nat.reduceSub,Nat.reduceMul,Nat.reduceLT,Nat.reduceEqDiff,Nat.reduceLeDiff,Nat.reduceBEq,Int.reduceLE,Int.reduceLT,Int.reduceToNat,Int.reduceBNe,Int.reduceBEq,Int.reduceNeg,Int.reduceEq,Int.reduceNe,Nat.reduceBNe,Int.reduceAdd,Int.reduceSub,Int.reduceMul,Int.reducePow,Nat.reducePow,Int.reduceGT,Int.reduceGE,if_true,if_false,ite_true,ite_false,beq_self_eq_true,BEq.rfl,reduceCtorEq,eq_self,ne_eq,Function.comp_def,beq_iff_eq]
  refine r_May (n := n) fun s1 j1 => ?_
  have x1 := j1 _ _ x0
  have x1' := j1 _ _ x0'
  have g1 := g0.trans j1
  unfold hasB at hK
  cases e1 : mayB x y w h
  · simp only [e1, Bool.false_and] at hK
    simp only [x0, x0', x1, x1', j1, evf,↓evp,evq,evr,fxa0,fxa1,fxa2,fxa3,fxa4,fxu,fxn,fxl,↓fxp,lgc,absL,fitL,flatL,ares,ares1,ofVal,unSc,aload,afill,splice,abound,asI,elems,IntKind.bits,sortT,eqNil,closedL,allByte,patch,pendOK,numA,Value.cells,Value.oneCell',ibin,List.replicate,Option.elim,Nat.reduceAdd,Nat.reduceSub,Nat.reduceMul,Nat.reduceLT,Nat.reduceEqDiff,Nat.reduceLeDiff,Nat.reduceBEq,Int.reduceLE,Int.reduceLT,Int.reduceToNat,Int.reduceBNe,Int.reduceBEq,Int.reduceNeg,Int.reduceEq,Int.reduceNe,Nat.reduceBNe,Int.reduceAdd,Int.reduceSub,Int.reduceMul,Int.reducePow,Nat.reducePow,Int.reduceGT,Int.reduceGE,if_true,if_false,ite_true,ite_false,beq_self_eq_true,BEq.rfl,reduceCtorEq,eq_self,ne_eq,Function.comp_def,beq_iff_eq]
    exact hK _ g1
  have m1 := e1
  simp only [mayB, Bool.and_eq_true] at m1
  simp only [e1, Bool.true_and, inB] at hK
  cases d1 : decide (a ≥ x)
  · simp only [d1, Bool.false_and] at hK
    simp only [x0, x0', x1, x1', j1, d1, evf,↓evp,evq,evr,fxa0,fxa1,fxa2,fxa3,fxa4,fxu,fxn,fxl,↓fxp,lgc,absL,fitL,flatL,ares,ares1,ofVal,unSc,aload,afill,splice,abound,asI,elems,IntKind.bits,sortT,eqNil,closedL,allByte,patch,pendOK,numA,Value.cells,Value.oneCell',ibin,List.replicate,Option.elim,Nat.reduceAdd,Nat.reduceSub,Nat.reduceMul,Nat.reduceLT,Nat.reduceEqDiff,Nat.reduceLeDiff,Nat.reduceBEq,Int.reduceLE,Int.reduceLT,Int.reduceToNat,Int.reduceBNe,Int.reduceBEq,Int.reduceNeg,Int.reduceEq,Int.reduceNe,Nat.reduceBNe,Int.reduceAdd,Int.reduceSub,Int.reduceMul,Int.reducePow,Nat.reducePow,Int.reduceGT,Int.reduceGE,if_true,if_false,ite_true,ite_false,beq_self_eq_true,BEq.rfl,reduceCtorEq,eq_self,ne_eq,Function.comp_def,beq_iff_eq]
    exact hK _ g1
  cases d3 : decide (b ≥ y)
  · simp only [d1, d3, Bool.false_and, Bool.and_false] at hK
    simp only [x0, x0', x1, x1', j1, d1, d3, evf,↓evp,evq,evr,fxa0,fxa1,fxa2,fxa3,fxa4,fxu,fxn,fxl,↓fxp,lgc,absL,fitL,flatL,ares,ares1,ofVal,unSc,aload,afill,splice,abound,asI,elems,IntKind.bits,sortT,eqNil,closedL,allByte,patch,pendOK,numA,Value.cells,Value.oneCell',ibin,List.replicate,Option.elim,Nat.reduceAdd,Nat.reduceSub,Nat.reduceMul,Nat.reduceLT,Nat.reduceEqDiff,Nat.reduceLeDiff,Nat.reduceBEq,Int.reduceLE,Int.reduceLT,Int.reduceToNat,Int.reduceBNe,Int.reduceBEq,Int.reduceNeg,Int.reduceEq,Int.reduceNe,Nat.reduceBNe,Int.reduceAdd,Int.reduceSub,Int.reduceMul,Int.reducePow,Nat.reducePow,Int.reduceGT,Int.reduceGE,if_true,if_false,ite_true,ite_false,beq_self_eq_true,BEq.rfl,reduceCtorEq,eq_self,ne_eq,Function.comp_def,beq_iff_eq]
    exact hK _ g1
  simp only [x0, x0', x1, x1', j1, d1, d3, evf,↓evp,evq,evr,fxa0,fxa1,fxa2,fxa3,fxa4,fxu,fxn,fxl,↓fxp,lgc,absL,fitL,flatL,ares,ares1,ofVal,unSc,aload,afill,splice,abound,asI,elems,IntKind.bits,sortT,eqNil,closedL,allByte,patch,pendOK,numA,Value.cells,Value.oneCell',ibin,List.replicate,Option.elim,Nat.reduceAdd,Nat.reduceSub,Nat.reduceMul,Nat.reduceLT,Nat.reduceEqDiff,Nat.reduceLeDiff,Nat.reduceBEq,Int.reduceLE,Int.reduceLT,Int.reduceToNat,Int.reduceBNe,Int.reduceBEq,Int.reduceNeg,Int.reduceEq,Int.reduceNe,Nat.reduceBNe,Int.reduceAdd,Int.reduceSub,Int.reduceMul,Int.reducePow,Nat.reducePow,Int.reduceGT,Int.reduceGE,if_true,if_false,ite_true,ite_false,beq_self_eq_true,BEq.rfl,reduceCtorEq,eq_self,ne_eq,Function.comp_def,beq_iff_eq]
  refine r_Last m1.1.1.1.1 m1.1.1.1.2 m1.1.1.2 m1.1.2 fun s2 j2 => ?_
  have x2 := j2 _ _ x1
  have x2' := j2 _ _ x1'
  have g2 := g1.trans j2
  cases d2 : decide (a ≤ x + w - 1)
  · simp only [d1, d2, d3, Bool.false_and, Bool.and_false] at hK
    simp only [cl, x0, x0', x1, x1', x2, x2', j1, j2, d1, d2, d3, evf,↓evp,evq,evr,fxa0,fxa1,fxa2,fxa3,fxa4,fxu,fxn,fxl,↓fxp,lgc,absL,fitL,flatL,ares,ares1,ofVal,unSc,aload,afill,splice,abound,asI,elems,IntKind.bits,sortT,eqNil,closedL,allByte,patch,pendOK,numA,Value.cells,Value.oneCell',ibin,List.replicate,Option.elim,Nat.reduceAdd,Nat.reduceSub,Nat.reduceMul,Nat.reduceLT,Nat.reduceEqDiff,Nat.reduceLeDiff,Nat.reduceBEq,Int.reduceLE,Int.reduceLT,Int.reduceToNat,Int.reduceBNe,Int.reduceBEq,Int.reduceNeg,Int.reduceEq,Int.reduceNe,Nat.reduceBNe,Int.reduceAdd,Int.reduceSub,Int.reduceMul,Int.reducePow,Nat.reducePow,Int.reduceGT,Int.reduceGE,if_true,if_false,ite_true,ite_false,beq_self_eq_true,BEq.rfl,reduceCtorEq,eq_self,ne_eq,Function.comp_def,beq_iff_eq]
    exact hK _ g2
  simp only [cl, x0, x0', x1, x1', x2, x2', j1, j2, d1, d2, d3, evf,↓evp,evq,evr,fxa0,fxa1,fxa2,fxa3,fxa4,fxu,fxn,fxl,↓fxp,lgc,absL,fitL,flatL,ares,ares1,ofVal,unSc,aload,afill,splice,abound,asI,elems,IntKind.bits,sortT,eqNil,closedL,allByte,patch,pendOK,numA,Value.cells,Value.oneCell',ibin,List.replicate,Option.elim,Nat.reduceAdd,Nat.reduceSub,Nat.reduceMul,Nat.reduceLT,Nat.reduceEqDiff,Nat.reduceLeDiff,Nat.reduceBEq,Int.reduceLE,Int.reduceLT,Int.reduceToNat,Int.reduceBNe,Int.reduceBEq,Int.reduceNeg,Int.reduceEq,Int.reduceNe,Nat.reduceBNe,Int.reduceAdd,Int.reduceSub,Int.reduceMul,Int.reducePow,Nat.reducePow,Int.reduceGT,Int.reduceGE,if_true,if_false,ite_true,ite_false,beq_self_eq_true,BEq.rfl,reduceCtorEq,eq_self,ne_eq,Function.comp_def,beq_iff_eq]
  refine r_Last m1.1.1.1.1 m1.1.1.1.2 m1.1.1.2 m1.1.2 fun s3 j3 => ?_
  have x3 := j3 _ _ x2
  have x3' := j3 _ _ x2'
  simp only [d1, d2, d3, Bool.true_and] at hK
  simp only [cl, x0, x0', x1, x1', x2, x2', x3, x3', j1, j2, j3, d1, d2, d3, evf,↓evp,evq,evr,fxa0,fxa1,fxa2,fxa3,fxa4,fxu,fxn,fxl,↓fxp,lgc,absL,fitL,flatL,ares,ares1,ofVal,unSc,aload,afill,splice,abound,asI,elems,IntKind.bits,sortT,eqNil,closedL,allByte,patch,pendOK,numA,Value.cells,Value.oneCell',ibin,List.replicate,Option.elim,Nat.reduceAdd,Nat.reduceSub,Nat.reduceMul,Nat.reduceLT,Nat.reduceEqDiff,Nat.reduceLeDiff,Nat.reduceBEq,Int.reduceLE,Int.reduceLT,Int.reduceToNat,Int.reduceBNe,Int.reduceBEq,Int.reduceNeg,Int.reduceEq,Int.reduceNe,Nat.reduceBNe,Int.reduceAdd,Int.reduceSub,Int.reduceMul,Int.reducePow,Nat.reducePow,Int.reduceGT,Int.reduceGE,if_true,if_false,ite_true,ite_false,beq_self_eq_true,BEq.rfl,reduceCtorEq,eq_self,ne_eq,Function.comp_def,beq_iff_eq]
  exact hK _ (g2.trans j3)
end
section
variable {n m : Nat} {st s : List Ob} {K : V → List Ob → Prop} {ix a b iy : Nat} {us : List (Int × V)} {os : List ((Int × Int) × V)} {L : List U} {x y id : Int} {sv : V}
set_option maxHeartbeats 1000000 in
theorem r_At (hy : Ri st iy sv L) (hm : L.length < m) (hl : L.length < 1000000) (hK : ∀ s, Grw st s → K (match L.find? (hasU x y) with | some u => .tup [.sc (.int .i64 u.id), .sc (.bool true)] | none => .tup [.sc (.int .i64 0), .sc (.bool false)]) s) :
    acallF Try.prog pl (n + 5) m 25 [.ref iy 0, .agg (cl x y)] st K := by
  refine acallF_inF Try.func25 rfl rfl Try.ntmps25 (by simp) ?_
  have g0 := Grw.push st [.cells (cl x y)]
  have c0 : (st ++ [Ob.cells (cl x y)])[st.length]? = some (.cells (cl x y)) := get_new0 _ _
  simp only [cl] at g0 c0
  simp only [cl, evf,↓evp,evq,evr,fxa0,fxa1,fxa2,fxa3,fxa4,fxu,fxn,fxl,↓fxp,lgc,absL,fitL,flatL,ares,ares1,ofVal,unSc,aload,afill,splice,abound,asI,elems,IntKind.bits,sortT,eqNil,closedL,allByte,patch,pendOK,numA,Value.cells,Value.oneCell',ibin,List.replicate,Option.elim,Nat.reduceAdd,Nat.reduceSub,Nat.reduceMul,Nat.reduceLT,Nat.reduceEqDiff,Nat.reduceLeDiff,Nat.reduceBEq,Int.reduceLE,Int.reduceLT,Int.reduceToNat,Int.reduceBNe,Int.reduceBEq,Int.reduceNeg,Int.reduceEq,Int.reduceNe,Nat.reduceBNe,Int.reduceAdd,Int.reduceSub,Int.reduceMul,Int.reducePow,Nat.reducePow,Int.reduceGT,Int.reduceGE,if_true,if_false,ite_true,ite_false,beq_self_eq_true,BEq.rfl,reduceCtorEq,eq_self,ne_eq,Function.comp_def,beq_iff_eq]
  refine aloop_forF (fun k f s => ∃ i : Nat, Grw st s ∧ s[st.length]? = some (.cells (cl x y)) ∧ k + i = m ∧ i ≤ L.length ∧ L.find? (hasU x y) = (L.drop i).find? (hasU x y) ∧ f 0 = .ref iy 0 ∧ f 3 = .ref st.length 0 ∧ f 6 = .sc (.int .i64 i)) ⟨0, g0, c0, by omega, by omega, rfl, by simp only [evf, ne_eq, Nat.reduceEqDiff, Nat.reduceLT, not_false_eq_true], by simp only [evf, ne_eq, Nat.reduceEqDiff, Nat.reduceLT, not_false_eq_true], by simp only [evf, ne_eq, Nat.reduceEqDiff, Nat.reduceLT, not_false_eq_true]; rfl⟩ ?_
  rintro I' hI' k f s ⟨i, gs, cs, hk, hi, hp, f0, f3, f6⟩
  refine ⟨k - 1, by omega, ?_⟩
  have hys := hy.grw gs
  have y1 := hys.at_
  have hv := hys.rd.1
  have hal := alen_rd hv Try.underlying27
  simp only [cl] at cs
  by_cases hil : i < L.length
  · have d : decide ((i : Int) < L.length) = true := decide_eq_true (by omega)
    obtain ⟨p1, p2⟩ := ix_flat (f := U.v) (fun a => rfl) hv Try.underlying27 sz48 ag48 (by omega) hil
    have e4 : IntKind.i64.wrap ((i : Int) + 1) = ((i + 1 : Nat) : Int) := by rw [IntWalk.i64_in _ (by omega)]; rfl
    have hd : L.drop i = L[i] :: L.drop (i + 1) := List.drop_eq_getElem_cons hil
    rw [hd, List.find?_cons] at hp
    obtain ⟨p3, p4⟩ := u_r hv hil
    simp only [f0, f3, f6, y1, hal, d, p1, p3, p4, cs, evf,↓evp,evq,evr,fxa0,fxa1,fxa2,fxa3,fxa4,fxu,fxn,fxl,↓fxp,lgc,absL,fitL,flatL,ares,ares1,ofVal,unSc,aload,afill,splice,abound,asI,elems,IntKind.bits,sortT,eqNil,closedL,allByte,patch,pendOK,numA,Value.cells,Value.oneCell',ibin,List.replicate,Option.elim,Nat.reduceAdd,Nat.reduceSub,Nat.reduceMul,Nat.reduceLT,Nat.reduceEqDiff,Nat.reduceLeDiff,Nat.reduceBEq,Int.reduceLE,Int.reduceLT,Int.reduceToNat,Int.reduceBNe,Int.reduceBEq,Int.reduceNeg,Int.reduceEq,Int.reduceNe,Nat.reduceBNe,Int.reduceAdd,Int.reduceSub,Int.reduceMul,Int.reducePow,Nat.reducePow,Int.reduceGT,Int.reduceGE,if_true,if_false,ite_true,ite_false,beq_self_eq_true,BEq.rfl,reduceCtorEq,eq_self,ne_eq,Function.comp_def,beq_iff_eq]
    refine r_Has (n := n) fun s3 j3 => ?_
    have cs3 := j3 _ _ cs
    cases q : hasB L[i].x L[i].y L[i].w L[i].h x y
    · simp only [hasU, q] at hp
      simp only [f0, f3, f6, y1, hal, d, p1, p3, p4, cs, cs3, j3, e4, evf,↓evp,evq,evr,fxa0,fxa1,fxa2,fxa3,fxa4,fxu,fxn,fxl,↓fxp,lgc,absL,fitL,flatL,ares,ares1,ofVal,unSc,aload,afill,splice,abound,asI,elems,IntKind.bits,sortT,eqNil,closedL,allByte,patch,pendOK,numA,Value.cells,Value.oneCell',ibin,List.replicate,Option.elim,Nat.reduceAdd,Nat.reduceSub,Nat.reduceMul,Nat.reduceLT,Nat.reduceEqDiff,Nat.reduceLeDiff,Nat.reduceBEq,Int.reduceLE,Int.reduceLT,Int.reduceToNat,Int.reduceBNe,Int.reduceBEq,Int.reduceNeg,Int.reduceEq,Int.reduceNe,Nat.reduceBNe,Int.reduceAdd,Int.reduceSub,Int.reduceMul,Int.reducePow,Nat.reducePow,Int.reduceGT,Int.reduceGE,if_true,if_false,ite_true,ite_false,beq_self_eq_true,BEq.rfl,reduceCtorEq,eq_self,ne_eq,Function.comp_def,beq_iff_eq]
      exact hI' _ _ _ ⟨i + 1, gs.trans j3, cs3, by omega, hil, hp, by simp only [f0, evf, ne_eq, Nat.reduceEqDiff, Nat.reduceLT, not_false_eq_true], by simp only [f3, evf, ne_eq, Nat.reduceEqDiff, Nat.reduceLT, not_false_eq_true], by simp only [evf, ne_eq, Nat.reduceEqDiff, Nat.reduceLT, not_false_eq_true]⟩
    · simp only [hasU, q] at hp
      simp only [hasU, hp] at hK
      have hys3 := hys.grw j3
      have y3 := hys3.at_
      obtain ⟨r1, r2⟩ := ix_flat (f := U.v) (fun a => rfl) hys3.rd.1 Try.underlying27 sz48 ag48 (by omega) hil
      obtain ⟨r3, r4⟩ := u_id hys3.rd.1 hil
      simp only [f0, f3, f6, y1, y3, hal, d, p1, p3, p4, r1, r3, r4, cs, cs3, j3, evf,↓evp,evq,evr,fxa0,fxa1,fxa2,fxa3,fxa4,fxu,fxn,fxl,↓fxp,lgc,absL,fitL,flatL,ares,ares1,ofVal,unSc,aload,afill,splice,abound,asI,elems,IntKind.bits,sortT,eqNil,closedL,allByte,patch,pendOK,numA,Value.cells,Value.oneCell',ibin,List.replicate,Option.elim,Nat.reduceAdd,Nat.reduceSub,Nat.reduceMul,Nat.reduceLT,Nat.reduceEqDiff,Nat.reduceLeDiff,Nat.reduceBEq,Int.reduceLE,Int.reduceLT,Int.reduceToNat,Int.reduceBNe,Int.reduceBEq,Int.reduceNeg,Int.reduceEq,Int.reduceNe,Nat.reduceBNe,Int.reduceAdd,Int.reduceSub,Int.reduceMul,Int.reducePow,Nat.reducePow,Int.reduceGT,Int.reduceGE,if_true,if_false,ite_true,ite_false,beq_self_eq_true,BEq.rfl,reduceCtorEq,eq_self,ne_eq,Function.comp_def,beq_iff_eq]
      exact hK _ (gs.trans j3)
  · have d : decide ((i : Int) < L.length) = false := decide_eq_false (by omega)
    obtain rfl : i = L.length := by omega
    rw [List.drop_length] at hp
    rw [hp] at hK
    simp only [List.find?_nil] at hK
    simp only [f0, f3, f6, y1, hal, d, evf,↓evp,evq,evr,fxa0,fxa1,fxa2,fxa3,fxa4,fxu,fxn,fxl,↓fxp,lgc,absL,fitL,flatL,ares,ares1,ofVal,unSc,aload,afill,splice,abound,asI,elems,IntKind.bits,sortT,eqNil,closedL,allByte,patch,pendOK,numA,Value.cells,Value.oneCell',ibin,List.replicate,Option.elim,Nat.reduceAdd,Nat.reduceSub,Nat.reduceMul,Nat.reduceLT,Nat.reduceEqDiff,Nat.reduceLeDiff,Nat.reduceBEq,Int.reduceLE,Int.reduceLT,Int.reduceToNat,Int.reduceBNe,Int.reduceBEq,Int.reduceNeg,Int.reduceEq,Int.reduceNe,Nat.reduceBNe,Int.reduceAdd,Int.reduceSub,Int.reduceMul,Int.reducePow,Nat.reducePow,Int.reduceGT,Int.reduceGE,if_true,if_false,ite_true,ite_false,beq_self_eq_true,BEq.rfl,reduceCtorEq,eq_self,ne_eq,Function.comp_def,beq_iff_eq]
    exact hK _ gs
theorem Rel.at_ (h : Rel us os L) (a b : Int) : (match getC (a, b) os with | some v => V.tup [v, .sc (.bool true)] | none => .tup [.sc (.int .i64 0), .sc (.bool false)]) = match L.find? (hasU a b) with | some u => V.tup [.sc (.int .i64 u.id), .sc (.bool true)] | none => .tup [.sc (.int .i64 0), .sc (.bool false)] := by
  cases hf : L.find? (hasU a b) with
  | none =>
    have : getC (a, b) os = none := by
      cases hq : getC (a, b) os with
      | none => rfl
      | some v =>
        obtain ⟨p, hp, hin, _⟩ := (h.go _ _ _).1 hq
        have := List.find?_eq_none.1 hf p hp
        exact absurd ((has_in (h.val p hp) a b).2 hin) this
    rw [this]
  | some u =>
    have hu := List.mem_of_find?_eq_some hf
    have hh := List.find?_some hf
    have : getC (a, b) os = some (.sc (.int .i64 u.id)) := (h.go _ _ _).2 ⟨u, hu, (has_in (h.val u hu) a b).1 hh, rfl⟩
    rw [this]
theorem o_AtA (hr : Rel us os L) (hi : Ix st ix a b us os) (hK : ∀ s, Grw st s → K (match L.find? (hasU x y) with | some u => .tup [.sc (.int .i64 u.id), .sc (.bool true)] | none => .tup [.sc (.int .i64 0), .sc (.bool false)]) s) : acallF Try.prog pl (n + 2) m 24 [.ref ix 0, .agg (cl x y)] st K := by
  rw [← hr.at_] at hK
  refine acallF_inF Try.func24 rfl rfl Try.ntmps24 (by simp) ?_
  have g1 := fun X => hi.grw (Grw.push st X)
  have i1 := fun X => (g1 X).ix
  have l1 := fun X => lk_cell (e := 3) (z := .sc (.int .i64 0)) Try.underlying60 (by kernel_rfl) (g1 X).os x y
  simp only [cl, evf,↓evp,evq,evr,fxa0,fxa1,fxa2,fxa3,fxa4,fxu,fxn,fxl,↓fxp,lgc,absL,fitL,flatL,ares,ares1,ofVal,unSc,aload,afill,splice,abound,asI,elems,IntKind.bits,sortT,eqNil,closedL,allByte,patch,pendOK,numA,Value.cells,Value.oneCell',ibin,List.replicate,Option.elim,Nat.reduceAdd,Nat.reduceSub,Nat.reduceMul,Nat.reduceLT,Nat.reduceEqDiff,Nat.reduceLeDiff,Nat.reduceBEq,Int.reduceLE,Int.reduceLT,Int.reduceToNat,Int.reduceBNe,Int.reduceBEq,Int.reduceNeg,Int.reduceEq,Int.reduceNe,Nat.reduceBNe,Int.reduceAdd,Int.reduceSub,Int.reduceMul,Int.reducePow,Nat.reducePow,Int.reduceGT,Int.reduceGE,if_true,if_false,ite_true,ite_false,beq_self_eq_true,BEq.rfl,reduceCtorEq,eq_self,ne_eq,Function.comp_def,beq_iff_eq]
  refine o_is1 (g1 _) ?_
  cases hq : getC (x, y) os with
  | none =>
    simp only [hq] at l1 hK
    simp only [i1, l1, get_new, get_new0, M.set_new0, evf,↓evp,evq,evr,fxa0,fxa1,fxa2,fxa3,fxa4,fxu,fxn,fxl,↓fxp,lgc,absL,fitL,flatL,ares,ares1,ofVal,unSc,aload,afill,splice,abound,asI,elems,IntKind.bits,sortT,eqNil,closedL,allByte,patch,pendOK,numA,Value.cells,Value.oneCell',ibin,List.replicate,Option.elim,Nat.reduceAdd,Nat.reduceSub,Nat.reduceMul,Nat.reduceLT,Nat.reduceEqDiff,Nat.reduceLeDiff,Nat.reduceBEq,Int.reduceLE,Int.reduceLT,Int.reduceToNat,Int.reduceBNe,Int.reduceBEq,Int.reduceNeg,Int.reduceEq,Int.reduceNe,Nat.reduceBNe,Int.reduceAdd,Int.reduceSub,Int.reduceMul,Int.reducePow,Nat.reducePow,Int.reduceGT,Int.reduceGE,if_true,if_false,ite_true,ite_false,beq_self_eq_true,BEq.rfl,reduceCtorEq,eq_self,ne_eq,Function.comp_def,beq_iff_eq]
    exact hK _ (Grw.push _ _)
  | some v =>
    simp only [hq] at l1 hK
    simp only [i1, l1, get_new, get_new0, M.set_new0, evf,↓evp,evq,evr,fxa0,fxa1,fxa2,fxa3,fxa4,fxu,fxn,fxl,↓fxp,lgc,absL,fitL,flatL,ares,ares1,ofVal,unSc,aload,afill,splice,abound,asI,elems,IntKind.bits,sortT,eqNil,closedL,allByte,patch,pendOK,numA,Value.cells,Value.oneCell',ibin,List.replicate,Option.elim,Nat.reduceAdd,Nat.reduceSub,Nat.reduceMul,Nat.reduceLT,Nat.reduceEqDiff,Nat.reduceLeDiff,Nat.reduceBEq,Int.reduceLE,Int.reduceLT,Int.reduceToNat,Int.reduceBNe,Int.reduceBEq,Int.reduceNeg,Int.reduceEq,Int.reduceNe,Nat.reduceBNe,Int.reduceAdd,Int.reduceSub,Int.reduceMul,Int.reducePow,Nat.reducePow,Int.reduceGT,Int.reduceGE,if_true,if_false,ite_true,ite_false,beq_self_eq_true,BEq.rfl,reduceCtorEq,eq_self,ne_eq,Function.comp_def,beq_iff_eq]
    exact hK _ (Grw.push _ _)
theorem Rel.unit2 (h : Rel us os L) (id : Int) : (getI id us = none ∧ placeI id L 0 = -1) ∨ ∃ i, ∃ hi : i < L.length, placeI id L 0 = i ∧ L[i].id = id ∧ getI id us = some (.agg (rc L[i].x L[i].y L[i].w L[i].h)) := by
  rcases placeI_spec id L 0 with ⟨h1, h2⟩ | ⟨i, hi, h1, h2⟩
  · left
    refine ⟨?_, h1⟩
    cases hq : getI id us with
    | none => rfl
    | some v =>
      obtain ⟨p, hp, he, _⟩ := (h.gu _ _).1 hq
      exact absurd he (h2 p hp)
  · right
    exact ⟨i, hi, by rw [h1, Nat.zero_add], h2, (h.gu _ _).2 ⟨L[i], List.getElem_mem hi, h2, rfl⟩⟩
theorem o_FindN2 (hi : Ix st ix a b us os) (hg : getI id us = none) (hK : ∀ s, Grw st s → K (.tup [.agg (rc 0 0 0 0), .sc (.bool false)]) s) : acallF Try.prog pl (n + 2) m 26 [.ref ix 0, .sc (.int .i64 id)] st K := by
  refine acallF_inF Try.func26 rfl rfl Try.ntmps26 (by simp) ?_
  have g1 := fun X => hi.grw (Grw.push st X)
  have i1 := fun X => (g1 X).ix
  have l1 := fun X => lk_int (e := 34) (z := .agg (rc 0 0 0 0)) Try.underlying59 (by kernel_rfl) (g1 X).us id
  simp only [hg, rc] at i1 l1
  simp only [rc, evf,↓evp,evq,evr,fxa0,fxa1,fxa2,fxa3,fxa4,fxu,fxn,fxl,↓fxp,lgc,absL,fitL,flatL,ares,ares1,ofVal,unSc,aload,afill,splice,abound,asI,elems,IntKind.bits,sortT,eqNil,closedL,allByte,patch,pendOK,numA,Value.cells,Value.oneCell',ibin,List.replicate,Option.elim,Nat.reduceAdd,Nat.reduceSub,Nat.reduceMul,Nat.reduceLT,Nat.reduceEqDiff,Nat.reduceLeDiff,Nat.reduceBEq,Int.reduceLE,Int.reduceLT,Int.reduceToNat,Int.reduceBNe,Int.reduceBEq,Int.reduceNeg,Int.reduceEq,Int.reduceNe,Nat.reduceBNe,Int.reduceAdd,Int.reduceSub,Int.reduceMul,Int.reducePow,Nat.reducePow,Int.reduceGT,Int.reduceGE,if_true,if_false,ite_true,ite_false,beq_self_eq_true,BEq.rfl,reduceCtorEq,eq_self,ne_eq,Function.comp_def,beq_iff_eq]
  refine o_is1 (g1 _) ?_
  simp only [i1, l1, get_new, get_new0, M.set_new0, evf,↓evp,evq,evr,fxa0,fxa1,fxa2,fxa3,fxa4,fxu,fxn,fxl,↓fxp,lgc,absL,fitL,flatL,ares,ares1,ofVal,unSc,aload,afill,splice,abound,asI,elems,IntKind.bits,sortT,eqNil,closedL,allByte,patch,pendOK,numA,Value.cells,Value.oneCell',ibin,List.replicate,Option.elim,Nat.reduceAdd,Nat.reduceSub,Nat.reduceMul,Nat.reduceLT,Nat.reduceEqDiff,Nat.reduceLeDiff,Nat.reduceBEq,Int.reduceLE,Int.reduceLT,Int.reduceToNat,Int.reduceBNe,Int.reduceBEq,Int.reduceNeg,Int.reduceEq,Int.reduceNe,Nat.reduceBNe,Int.reduceAdd,Int.reduceSub,Int.reduceMul,Int.reducePow,Nat.reducePow,Int.reduceGT,Int.reduceGE,if_true,if_false,ite_true,ite_false,beq_self_eq_true,BEq.rfl,reduceCtorEq,eq_self,ne_eq,Function.comp_def,beq_iff_eq]
  exact hK _ (Grw.push _ _)
theorem r_Find2 (hy : Ri st iy sv L) (hm : 300 < m) (hl : L.length ≤ 256)
    (h0 : placeI id L 0 = -1 → ∀ s, Grw st s → K (.tup [.agg (rc 0 0 0 0), .sc (.bool false)]) s)
    (h1 : ∀ i (hi : i < L.length), placeI id L 0 = i → L[i].id = id → ∀ s, Grw st s → K (.tup [.agg (rc L[i].x L[i].y L[i].w L[i].h), .sc (.bool true)]) s) :
    acallF Try.prog pl (n + 2) m 27 [.ref iy 0, .sc (.int .i64 id)] st K := by
  refine acallF_inF Try.func27 rfl rfl Try.ntmps27 (by simp) ?_
  obtain ⟨s1, hs1⟩ : ∃ s1, s1 = st ++ [Ob.cells (rc 0 0 0 0)] := ⟨_, rfl⟩
  have g1 : Grw st s1 := by rw [hs1]; exact .push _ _
  have c1 : s1[st.length]? = some (.cells (rc 0 0 0 0)) := by rw [hs1]; exact get_new0 _ _
  have hy1 := hy.grw g1
  have y1 := hy1.at_
  have b1 : ∀ o, (s1.set st.length o)[st.length]? = some o := fun o => get_set c1 o
  simp only [rc] at hs1 c1
  simp only [evf,↓evp,evq,evr,fxa0,fxa1,fxa2,fxa3,fxa4,fxu,fxn,fxl,↓fxp,lgc,absL,fitL,flatL,ares,ares1,ofVal,unSc,aload,afill,splice,abound,asI,elems,IntKind.bits,sortT,eqNil,closedL,allByte,patch,pendOK,numA,Value.cells,Value.oneCell',ibin,List.replicate,Option.elim,Nat.reduceAdd,Nat.reduceSub,Nat.reduceMul,Nat.reduceLT,Nat.reduceEqDiff,Nat.reduceLeDiff,Nat.reduceBEq,Int.reduceLE,Int.reduceLT,Int.reduceToNat,Int.reduceBNe,Int.reduceBEq,Int.reduceNeg,Int.reduceEq,Int.reduceNe,Nat.reduceBNe,Int.reduceAdd,Int.reduceSub,Int.reduceMul,Int.reducePow,Nat.reducePow,Int.reduceGT,Int.reduceGE,if_true,if_false,ite_true,ite_false,beq_self_eq_true,BEq.rfl,reduceCtorEq,eq_self,ne_eq,Function.comp_def,beq_iff_eq]
  rw [← hs1]
  refine r_place (n := n) hy1 (by omega) (by omega) ?_
  rcases placeI_spec id L 0 with ⟨e1, e2⟩ | ⟨i, hil, e1, e2⟩
  · have d : decide ((-1 : Int) < 0) = true := rfl
    rw [e1]
    simp only [d, c1, b1, evf,↓evp,evq,evr,fxa0,fxa1,fxa2,fxa3,fxa4,fxu,fxn,fxl,↓fxp,lgc,absL,fitL,flatL,ares,ares1,ofVal,unSc,aload,afill,splice,abound,asI,elems,IntKind.bits,sortT,eqNil,closedL,allByte,patch,pendOK,numA,Value.cells,Value.oneCell',ibin,List.replicate,Option.elim,Nat.reduceAdd,Nat.reduceSub,Nat.reduceMul,Nat.reduceLT,Nat.reduceEqDiff,Nat.reduceLeDiff,Nat.reduceBEq,Int.reduceLE,Int.reduceLT,Int.reduceToNat,Int.reduceBNe,Int.reduceBEq,Int.reduceNeg,Int.reduceEq,Int.reduceNe,Nat.reduceBNe,Int.reduceAdd,Int.reduceSub,Int.reduceMul,Int.reducePow,Nat.reducePow,Int.reduceGT,Int.reduceGE,if_true,if_false,ite_true,ite_false,beq_self_eq_true,BEq.rfl,reduceCtorEq,eq_self,ne_eq,Function.comp_def,beq_iff_eq]
    exact h0 e1 _ (g1.set (Nat.le_refl _) _)
  · have d : decide (((0 + i : Nat) : Int) < 0) = false := decide_eq_false (by omega)
    rw [e1]
    rw [Nat.zero_add] at d e1 ⊢
    obtain ⟨p1, p2⟩ := ix_flat (f := U.v) (fun a => rfl) hy1.rd.1 Try.underlying27 sz48 ag48 (by omega) hil
    obtain ⟨p3, p4⟩ := u_r hy1.rd.1 hil
    simp only [rc] at p4
    simp only [d, c1, b1, y1, p1, p3, p4, evf,↓evp,evq,evr,fxa0,fxa1,fxa2,fxa3,fxa4,fxu,fxn,fxl,↓fxp,lgc,absL,fitL,flatL,ares,ares1,ofVal,unSc,aload,afill,splice,abound,asI,elems,IntKind.bits,sortT,eqNil,closedL,allByte,patch,pendOK,numA,Value.cells,Value.oneCell',ibin,List.replicate,Option.elim,Nat.reduceAdd,Nat.reduceSub,Nat.reduceMul,Nat.reduceLT,Nat.reduceEqDiff,Nat.reduceLeDiff,Nat.reduceBEq,Int.reduceLE,Int.reduceLT,Int.reduceToNat,Int.reduceBNe,Int.reduceBEq,Int.reduceNeg,Int.reduceEq,Int.reduceNe,Nat.reduceBNe,Int.reduceAdd,Int.reduceSub,Int.reduceMul,Int.reducePow,Nat.reducePow,Int.reduceGT,Int.reduceGE,if_true,if_false,ite_true,ite_false,beq_self_eq_true,BEq.rfl,reduceCtorEq,eq_self,ne_eq,Function.comp_def,beq_iff_eq]
    exact h1 i hil e1 e2 _ (g1.set (Nat.le_refl _) _)
end
/-! ### Chapter 5: who is within a rectangle, both ways. -/
def idV (u : U) : List V := [.sc (.int .i64 u.id)]
section
variable {n m : Nat} {st s : List Ob} {K : V → List Ob → Prop} {ix a b iy : Nat} {us : List (Int × V)} {os : List ((Int × Int) × V)} {L : List U} {x y w h : Int} {sv : V}
theorem wn_len (L : List U) (i : Nat) (x y w h : Int) (hl : L.length ≤ 256) : ((L.take i).filter (meetsR x y w h)).length ≤ 256 := by
  have := List.length_filter_le (meetsR x y w h) (L.take i)
  rw [List.length_take] at this
  omega
theorem wn_step {i : Nat} (hi : i < L.length) : (L.take (i + 1)).filter (meetsR x y w h) = (L.take i).filter (meetsR x y w h) ++ (if meetsR x y w h L[i] = true then [L[i]] else []) := by
  rw [← List.take_append_getElem (h := hi), List.filter_append]
  cases q : meetsR x y w h L[i] <;> simp [q]
set_option maxHeartbeats 4000000 in
theorem r_Within (hy : Ri st iy sv L) (hm : 300 < m) (hl : L.length ≤ 256) (hK : ∀ yv s, Grw st s → Gl s 3 yv ((L.filter (meetsR x y w h)).flatMap idV) (L.filter (meetsR x y w h)).length → K yv s) :
    acallF Try.prog pl (n + 6) m 29 [.ref iy 0, .agg (rc x y w h)] st K := by
  refine acallF_inF Try.func29 rfl rfl Try.ntmps29 (by simp) ?_
  obtain ⟨s0, hs0⟩ : ∃ s0, s0 = st ++ [Ob.cells (rc x y w h), Ob.row 3 [] 0 0 false] := ⟨_, rfl⟩
  have g0 : Grw st s0 := by rw [hs0]; exact .push _ _
  have c0 : s0[st.length]? = some (.cells (rc x y w h)) := by rw [hs0]; exact get_new0 _ _
  have r0 : s0[st.length + 1]? = some (.row 3 [] 0 0 false) := by rw [hs0]; exact get_new _ _ 1
  simp only [rc] at hs0
  simp only [rc, evf,↓evp,evq,evr,fxa0,fxa1,fxa2,fxa3,fxa4,fxu,fxn,fxl,↓fxp,lgc,absL,fitL,flatL,ares,ares1,ofVal,unSc,aload,afill,splice,abound,asI,elems,IntKind.bits,sortT,eqNil,closedL,allByte,patch,pendOK,numA,Value.cells,Value.oneCell',ibin,List.replicate,Option.elim,Nat.reduceAdd,Nat.reduceSub,Nat.reduceMul,Nat.reduceLT,Nat.reduceEqDiff,Nat.reduceLeDiff,Nat.reduceBEq,Int.reduceLE,Int.reduceLT,Int.reduceToNat,Int.reduceBNe,Int.reduceBEq,Int.reduceNeg,Int.reduceEq,Int.reduceNe,Nat.reduceBNe,Int.reduceAdd,Int.reduceSub,Int.reduceMul,Int.reducePow,Nat.reducePow,Int.reduceGT,Int.reduceGE,if_true,if_false,ite_true,ite_false,beq_self_eq_true,BEq.rfl,reduceCtorEq,eq_self,ne_eq,Function.comp_def,beq_iff_eq]
  rw [← hs0]
  refine aloop_forF (fun k f s => ∃ (i : Nat) (yv : V), Grw st s ∧ s[st.length]? = some (.cells (rc x y w h)) ∧ k + i = m ∧ i ≤ L.length ∧ Gl s 3 yv (((L.take i).filter (meetsR x y w h)).flatMap idV) ((L.take i).filter (meetsR x y w h)).length ∧ (∀ j, rowOf yv = some j → st.length < j) ∧ f 0 = .ref iy 0 ∧ f 3 = .ref st.length 0 ∧ f 5 = yv ∧ f 6 = .sc (.int .i64 i))
    ⟨0, .sl (st.length + 1) 0 0 false 0, g0, c0, by omega, by omega, .inr ⟨st.length + 1, 0, rfl, r0, Nat.le_refl _⟩, (fun j h => by simp only [rowOf, Option.some.injEq] at h; omega), by simp only [evf, ne_eq, Nat.reduceEqDiff, Nat.reduceLT, not_false_eq_true], by simp only [evf, ne_eq, Nat.reduceEqDiff, Nat.reduceLT, not_false_eq_true], by simp only [evf, ne_eq, Nat.reduceEqDiff, Nat.reduceLT, not_false_eq_true], by simp only [evf, ne_eq, Nat.reduceEqDiff, Nat.reduceLT, not_false_eq_true]; rfl⟩ ?_
  rintro I' hI' k f s ⟨i, yv, gs, cs, hk, hi, gl, hnw, f0, f3, f5, f6⟩
  refine ⟨k - 1, by omega, ?_⟩
  have hys := hy.grw gs
  have y1 := hys.at_
  have hv := hys.rd.1
  have hal := alen_rd hv Try.underlying27
  simp only [rc] at cs
  by_cases hil : i < L.length
  · have d : decide ((i : Int) < L.length) = true := decide_eq_true (by omega)
    obtain ⟨p1, p2⟩ := ix_flat (f := U.v) (fun a => rfl) hv Try.underlying27 sz48 ag48 (by omega) hil
    have e3 : IntKind.i64.wrap ((i : Int) + 1) = ((i + 1 : Nat) : Int) := by rw [IntWalk.i64_in _ (by omega)]; rfl
    obtain ⟨p3, p4⟩ := u_r hv hil
    have hln := wn_len L i x y w h hl
    simp only [f0, f3, f5, f6, y1, hal, d, p1, p3, p4, cs, evf,↓evp,evq,evr,fxa0,fxa1,fxa2,fxa3,fxa4,fxu,fxn,fxl,↓fxp,lgc,absL,fitL,flatL,ares,ares1,ofVal,unSc,aload,afill,splice,abound,asI,elems,IntKind.bits,sortT,eqNil,closedL,allByte,patch,pendOK,numA,Value.cells,Value.oneCell',ibin,List.replicate,Option.elim,Nat.reduceAdd,Nat.reduceSub,Nat.reduceMul,Nat.reduceLT,Nat.reduceEqDiff,Nat.reduceLeDiff,Nat.reduceBEq,Int.reduceLE,Int.reduceLT,Int.reduceToNat,Int.reduceBNe,Int.reduceBEq,Int.reduceNeg,Int.reduceEq,Int.reduceNe,Nat.reduceBNe,Int.reduceAdd,Int.reduceSub,Int.reduceMul,Int.reducePow,Nat.reducePow,Int.reduceGT,Int.reduceGE,if_true,if_false,ite_true,ite_false,beq_self_eq_true,BEq.rfl,reduceCtorEq,eq_self,ne_eq,Function.comp_def,beq_iff_eq]
    refine r_meet (n := n) fun s2 j2 => ?_
    have cs2 := j2 _ _ cs
    cases q : meetB L[i].x L[i].y L[i].w L[i].h x y w h
    · have e : (L.take (i + 1)).filter (meetsR x y w h) = (L.take i).filter (meetsR x y w h) := by rw [wn_step hil, show meetsR x y w h L[i] = false from q]; simp
      simp only [f0, f3, f5, f6, e3, evf,↓evp,evq,evr,fxa0,fxa1,fxa2,fxa3,fxa4,fxu,fxn,fxl,↓fxp,lgc,absL,fitL,flatL,ares,ares1,ofVal,unSc,aload,afill,splice,abound,asI,elems,IntKind.bits,sortT,eqNil,closedL,allByte,patch,pendOK,numA,Value.cells,Value.oneCell',ibin,List.replicate,Option.elim,Nat.reduceAdd,Nat.reduceSub,Nat.reduceMul,Nat.reduceLT,Nat.reduceEqDiff,Nat.reduceLeDiff,Nat.reduceBEq,Int.reduceLE,Int.reduceLT,Int.reduceToNat,Int.reduceBNe,Int.reduceBEq,Int.reduceNeg,Int.reduceEq,Int.reduceNe,Nat.reduceBNe,Int.reduceAdd,Int.reduceSub,Int.reduceMul,Int.reducePow,Nat.reducePow,Int.reduceGT,Int.reduceGE,if_true,if_false,ite_true,ite_false,beq_self_eq_true,BEq.rfl,reduceCtorEq,eq_self,ne_eq,Function.comp_def,beq_iff_eq]
      exact hI' _ _ _ ⟨i + 1, yv, gs.trans j2, cs2, by omega, hil, by rw [e]; exact gl.grw j2, hnw, by simp only [f0, evf, ne_eq, Nat.reduceEqDiff, Nat.reduceLT, not_false_eq_true], by simp only [f3, evf, ne_eq, Nat.reduceEqDiff, Nat.reduceLT, not_false_eq_true], by simp only [f5, evf, ne_eq, Nat.reduceEqDiff, Nat.reduceLT, not_false_eq_true], by simp only [evf, ne_eq, Nat.reduceEqDiff, Nat.reduceLT, not_false_eq_true]⟩
    · have e : (L.take (i + 1)).filter (meetsR x y w h) = (L.take i).filter (meetsR x y w h) ++ [L[i]] := by rw [wn_step hil, show meetsR x y w h L[i] = true from q]; simp
      have hys2 := hys.grw j2
      have y2 := hys2.at_
      obtain ⟨r1, r2⟩ := ix_flat (f := U.v) (fun a => rfl) hys2.rd.1 Try.underlying27 sz48 ag48 (by omega) hil
      obtain ⟨r3, r4⟩ := u_id hys2.rd.1 hil
      have lt2 : st.length < s2.length := (List.getElem?_eq_some_iff.1 cs2).1
      have gX := fun X => Grw.push s2 X
      obtain ⟨yv2, s5, ap, gl5, tr5, nw5⟩ := gl_app (P := Try.prog) (t := 55) (s := s2 ++ [.row 3 (idV L[i]) 1 0 false]) (x := .sl s2.length 0 1 false 1) (zs := idV L[i]) (k := 1) ((gl.grw j2).grw (gX _)) Try.underlying55 sz3 by3 ze3 (by omega) rfl (flatMap_len (f := idV) (s := 1) (fun _ => rfl) _) (by simp only [elems, get_new0, List.getElem?_cons_zero, sz3]; rfl) rfl rfl (by omega) (by omega)
      simp only [idV] at ap
      simp only [f0, f3, f5, f6, y1, y2, hal, d, r1, r3, r4, ap, e3, evf,↓evp,evq,evr,fxa0,fxa1,fxa2,fxa3,fxa4,fxu,fxn,fxl,↓fxp,lgc,absL,fitL,flatL,ares,ares1,ofVal,unSc,aload,afill,splice,abound,asI,elems,IntKind.bits,sortT,eqNil,closedL,allByte,patch,pendOK,numA,Value.cells,Value.oneCell',ibin,List.replicate,Option.elim,Nat.reduceAdd,Nat.reduceSub,Nat.reduceMul,Nat.reduceLT,Nat.reduceEqDiff,Nat.reduceLeDiff,Nat.reduceBEq,Int.reduceLE,Int.reduceLT,Int.reduceToNat,Int.reduceBNe,Int.reduceBEq,Int.reduceNeg,Int.reduceEq,Int.reduceNe,Nat.reduceBNe,Int.reduceAdd,Int.reduceSub,Int.reduceMul,Int.reducePow,Nat.reducePow,Int.reduceGT,Int.reduceGE,if_true,if_false,ite_true,ite_false,beq_self_eq_true,BEq.rfl,reduceCtorEq,eq_self,ne_eq,Function.comp_def,beq_iff_eq]
      refine hI' _ _ _ ⟨i + 1, yv2, ?_, tr5.2 _ _ (fun h => by have := hnw _ h; omega) (gX _ _ _ cs2), by omega, hil, ?_, ?_, by simp only [f0, evf, ne_eq, Nat.reduceEqDiff, Nat.reduceLT, not_false_eq_true], by simp only [f3, evf, ne_eq, Nat.reduceEqDiff, Nat.reduceLT, not_false_eq_true], by simp only [evf, ne_eq, Nat.reduceEqDiff, Nat.reduceLT, not_false_eq_true], by simp only [evf, ne_eq, Nat.reduceEqDiff, Nat.reduceLT, not_false_eq_true]⟩
      · intro j o ho
        have lj : j < st.length := (List.getElem?_eq_some_iff.1 ho).1
        exact tr5.2 _ _ (fun h => by have := hnw _ h; omega) (gX _ _ _ (j2 _ _ (gs _ _ ho)))
      · rw [e, List.flatMap_append, List.length_append]
        have e4 : [L[i]].flatMap idV = idV L[i] := by simp
        rw [e4]
        exact gl5
      · intro j hj
        rcases nw5 j hj with h | h
        · exact hnw _ h
        · simp only [List.length_append] at h; omega
  · have d : decide ((i : Int) < L.length) = false := decide_eq_false (by omega)
    obtain rfl : i = L.length := by omega
    rw [List.take_length] at gl
    simp only [f0, f3, f5, f6, y1, hal, d, evf,↓evp,evq,evr,fxa0,fxa1,fxa2,fxa3,fxa4,fxu,fxn,fxl,↓fxp,lgc,absL,fitL,flatL,ares,ares1,ofVal,unSc,aload,afill,splice,abound,asI,elems,IntKind.bits,sortT,eqNil,closedL,allByte,patch,pendOK,numA,Value.cells,Value.oneCell',ibin,List.replicate,Option.elim,Nat.reduceAdd,Nat.reduceSub,Nat.reduceMul,Nat.reduceLT,Nat.reduceEqDiff,Nat.reduceLeDiff,Nat.reduceBEq,Int.reduceLE,Int.reduceLT,Int.reduceToNat,Int.reduceBNe,Int.reduceBEq,Int.reduceNeg,Int.reduceEq,Int.reduceNe,Nat.reduceBNe,Int.reduceAdd,Int.reduceSub,Int.reduceMul,Int.reducePow,Nat.reducePow,Int.reduceGT,Int.reduceGE,if_true,if_false,ite_true,ite_false,beq_self_eq_true,BEq.rfl,reduceCtorEq,eq_self,ne_eq,Function.comp_def,beq_iff_eq]
    exact hK _ _ gs gl
set_option maxHeartbeats 4000000 in
/-- A round of 'Within'. -/
theorem wi_yl {ps : Array Tmp} {asg body : Code} (hc : frf (Try.f28.body.getD .skip) = some (ps, asg, body)) {F : Nat → V} {t3 t5 lid : Nat} {p : Option Code} {yv : V} {pre : List U} {u : U} (q3 : F 3 = .ref t3 0) (q5 : F 5 = .ref t5 0)
    (h3 : s[t3]? = some (.cells (rc x y w h))) (h5 : s[t5]? = some (.cells [yv])) (gl : Gl s 3 yv (pre.flatMap idV) pre.length) (hp : pre.length ≤ 256)
    (hl : s[lid]? = some (.loop .ready p (pl 28) (ofF 26 F) ps.toList asg body))
    (hK : ∀ yv2 s', Gl s' 3 yv2 ((pre ++ (if meetsR x y w h u = true then [u] else [])).flatMap idV) (pre ++ (if meetsR x y w h u = true then [u] else [])).length → s'[t5]? = some (.cells [yv2]) → s'[lid]? = some (.loop .ready none (pl 28) (ofF 26 F) ps.toList asg body) → (∀ j o, j ≠ t5 → j ≠ lid → rowOf yv ≠ some j → s[j]? = some o → s'[j]? = some o) → s.length ≤ s'.length → (∀ j, rowOf yv2 = some j → rowOf yv = some j ∨ s.length ≤ j) → K (.sc (.bool true)) s') :
    acallF Try.prog pl (n + 5) m Try.prog.funcs.size [.yl lid, .sc (.int .i64 u.id), .agg (rc u.x u.y u.w u.h)] s K := by
  simp only [Try.f28, Option.getD_some, frf, Option.some.injEq, Prod.mk.injEq] at hc
  obtain ⟨rfl, rfl, rfl⟩ := hc
  refine acallF_yl hl rfl ?_
  rw [show (#[12, 13] : Array Tmp).toList = [12, 13] from rfl, aputs_two (by decide) (by decide)]
  simp only [rc, evf,↓evp,evq,evr,fxa0,fxa1,fxa2,fxa3,fxa4,fxu,fxn,fxl,↓fxp,lgc,absL,fitL,flatL,ares,ares1,ofVal,unSc,aload,afill,splice,abound,asI,elems,IntKind.bits,sortT,eqNil,closedL,allByte,patch,pendOK,numA,Value.cells,Value.oneCell',ibin,List.replicate,Option.elim,Nat.reduceAdd,Nat.reduceSub,Nat.reduceMul,Nat.reduceLT,Nat.reduceEqDiff,Nat.reduceLeDiff,Nat.reduceBEq,Int.reduceLE,Int.reduceLT,Int.reduceToNat,Int.reduceBNe,Int.reduceBEq,Int.reduceNeg,Int.reduceEq,Int.reduceNe,Nat.reduceBNe,Int.reduceAdd,Int.reduceSub,Int.reduceMul,Int.reducePow,Nat.reducePow,Int.reduceGT,Int.reduceGE,if_true,if_false,ite_true,ite_false,beq_self_eq_true,BEq.rfl,reduceCtorEq,eq_self,ne_eq,Function.comp_def,beq_iff_eq]
  have g0 := Grw.push s [.cells (rc u.x u.y u.w u.h)]
  have c6 : (s ++ [Ob.cells (rc u.x u.y u.w u.h)])[s.length]? = some (.cells (rc u.x u.y u.w u.h)) := get_new0 _ _
  simp only [rc] at g0 c6 h3
  refine rdMid_ok (g0 _ _ hl) ?_
  generalize hs1 : (s ++ [Ob.cells _]) = s1 at g0 c6
  have l1 : s1.length = s.length + 1 := by rw [← hs1]; simp
  have nl : s.length ≠ lid := fun he => by subst he; rw [List.getElem?_eq_none (Nat.le_refl _)] at hl; cases hl
  have lt : lid < s1.length := (List.getElem?_eq_some_iff.1 (g0 _ _ hl)).1
  have nc : ∀ (j : Nat) (c : List V), s[j]? = some (.cells c) → j ≠ lid := fun j c hj he => by subst he; rw [hl] at hj; cases hj
  have nrl : rowOf yv ≠ some lid := fun he => by
    rcases gl with ⟨rfl, _, _⟩ | ⟨id, lo, rfl, h1, _⟩
    · cases he
    · simp only [rowOf, Option.some.injEq] at he
      subst he
      rw [hl] at h1; cases h1
  generalize hs2 : s1.set lid _ = s2
  have k : ∀ j o, j ≠ lid → s1[j]? = some o → s2[j]? = some o := fun j o hj ho => by rw [← hs2, List.getElem?_set_ne (Ne.symm hj)]; exact ho
  have d3 := k _ _ (nc _ _ h3) (g0 _ _ h3)
  have d5 := k _ _ (nc _ _ h5) (g0 _ _ h5)
  have d6 := k _ _ nl c6
  have dl : ∀ o, s1.set lid o = s2 → s2[lid]? = some o := fun o ho => by rw [← ho]; exact List.getElem?_set_self lt
  have dl := dl _ hs2
  have gl2 : Gl s2 3 yv (pre.flatMap idV) pre.length := gl.of fun j o hj ho => k _ _ (fun he => nrl (by rw [← he]; exact hj)) (g0 _ _ ho)
  have l2 : s2.length = s1.length := by rw [← hs2, List.length_set]
  have nt5 := nc _ _ h5
  have lid2 : lid < s.length := (List.getElem?_eq_some_iff.1 hl).1
  simp only [q3, q5, d3, d5, d6, evf,↓evp,evq,evr,fxa0,fxa1,fxa2,fxa3,fxa4,fxu,fxn,fxl,↓fxp,lgc,absL,fitL,flatL,ares,ares1,ofVal,unSc,aload,afill,splice,abound,asI,elems,IntKind.bits,sortT,eqNil,closedL,allByte,patch,pendOK,numA,Value.cells,Value.oneCell',ibin,List.replicate,Option.elim,Nat.reduceAdd,Nat.reduceSub,Nat.reduceMul,Nat.reduceLT,Nat.reduceEqDiff,Nat.reduceLeDiff,Nat.reduceBEq,Int.reduceLE,Int.reduceLT,Int.reduceToNat,Int.reduceBNe,Int.reduceBEq,Int.reduceNeg,Int.reduceEq,Int.reduceNe,Nat.reduceBNe,Int.reduceAdd,Int.reduceSub,Int.reduceMul,Int.reducePow,Nat.reducePow,Int.reduceGT,Int.reduceGE,if_true,if_false,ite_true,ite_false,beq_self_eq_true,BEq.rfl,reduceCtorEq,eq_self,ne_eq,Function.comp_def,beq_iff_eq]
  refine c_Meet (n := n) fun ra rb rc' rd s4 g4 => ?_
  have l4 := g4.le
  have gX := fun X => Grw.push s4 X
  have e5 := g4 _ _ d5
  have e5X := fun X => gX X _ _ e5
  have e6 := g4 _ _ dl
  have e6X := fun X => gX X _ _ e6
  cases q : meetB u.x u.y u.w u.h x y w h
  · simp only [show meetsR x y w h u = false from q, Bool.false_eq_true, if_false, List.append_nil] at hK
    simp only [rc, q3, q5, get_new, get_new0, M.set_new, M.set_new0, evf,↓evp,evq,evr,fxa0,fxa1,fxa2,fxa3,fxa4,fxu,fxn,fxl,↓fxp,lgc,absL,fitL,flatL,ares,ares1,ofVal,unSc,aload,afill,splice,abound,asI,elems,IntKind.bits,sortT,eqNil,closedL,allByte,patch,pendOK,numA,Value.cells,Value.oneCell',ibin,List.replicate,Option.elim,Nat.reduceAdd,Nat.reduceSub,Nat.reduceMul,Nat.reduceLT,Nat.reduceEqDiff,Nat.reduceLeDiff,Nat.reduceBEq,Int.reduceLE,Int.reduceLT,Int.reduceToNat,Int.reduceBNe,Int.reduceBEq,Int.reduceNeg,Int.reduceEq,Int.reduceNe,Nat.reduceBNe,Int.reduceAdd,Int.reduceSub,Int.reduceMul,Int.reducePow,Nat.reducePow,Int.reduceGT,Int.reduceGE,if_true,if_false,ite_true,ite_false,beq_self_eq_true,BEq.rfl,reduceCtorEq,eq_self,ne_eq,Function.comp_def,beq_iff_eq]
    refine rdEnd_normal (e6X _) ?_
    refine hK yv _ ?_ ?_ ?_ ?_ ?_ (fun j h => .inl h)
    · refine gl2.of fun j o hj ho => ?_
      rw [List.getElem?_set_ne (fun he => nrl (by rw [he]; exact hj))]
      exact gX _ _ _ (g4 _ _ ho)
    · rw [List.getElem?_set_ne (Ne.symm nt5)]
      exact e5X _
    · rw [List.getElem?_set_self (by simp only [List.length_append]; omega)]
    · intro j o j1 j2 j3 ho
      rw [List.getElem?_set_ne (Ne.symm j2)]
      exact gX _ _ _ (g4 _ _ (k _ _ j2 (g0 _ _ ho)))
    · rw [List.length_set, List.length_append]
      omega
  · simp only [show meetsR x y w h u = true from q, if_true] at hK
    obtain ⟨yv2, s5, ap, gl5, tr5, nw5⟩ := gl_app (P := Try.prog) (t := 55) (s := s4 ++ [.cells (rc ra rb rc' rd), .row 3 (idV u) 1 0 false]) (x := .sl (s4.length + 1) 0 1 false 1) (zs := idV u) (k := 1) ((gl2.grw g4).grw (gX _)) Try.underlying55 sz3 by3 ze3 (by omega) rfl (flatMap_len (f := idV) (s := 1) (fun _ => rfl) _) (by simp only [elems, get_new, List.getElem?_cons_succ, List.getElem?_cons_zero, sz3]; rfl) rfl rfl (by omega) (by omega)
    have nt : rowOf yv ≠ some t5 := (gl2.grw g4).ncells e5
    have e55 := tr5.2 _ _ nt (e5X _)
    obtain ⟨o1, o2⟩ := gl5.one
    have dl5 := tr5.2 _ _ nrl (e6X _)
    have ls5 := tr5.1
    simp only [List.length_append, List.length_cons, List.length_nil] at ls5
    have lt5 : t5 < s5.length := (List.getElem?_eq_some_iff.1 e55).1
    have ll5 : lid < s5.length := (List.getElem?_eq_some_iff.1 dl5).1
    have lt5s : t5 < s.length := (List.getElem?_eq_some_iff.1 h5).1
    simp only [idV, rc] at ap
    simp only [rc, q3, q5, e5, e5X, ap, e55, o1, o2, get_new, get_new0, M.set_new, M.set_new0, evf,↓evp,evq,evr,fxa0,fxa1,fxa2,fxa3,fxa4,fxu,fxn,fxl,↓fxp,lgc,absL,fitL,flatL,ares,ares1,ofVal,unSc,aload,afill,splice,abound,asI,elems,IntKind.bits,sortT,eqNil,closedL,allByte,patch,pendOK,numA,Value.cells,Value.oneCell',ibin,List.replicate,Option.elim,Nat.reduceAdd,Nat.reduceSub,Nat.reduceMul,Nat.reduceLT,Nat.reduceEqDiff,Nat.reduceLeDiff,Nat.reduceBEq,Int.reduceLE,Int.reduceLT,Int.reduceToNat,Int.reduceBNe,Int.reduceBEq,Int.reduceNeg,Int.reduceEq,Int.reduceNe,Nat.reduceBNe,Int.reduceAdd,Int.reduceSub,Int.reduceMul,Int.reducePow,Nat.reducePow,Int.reduceGT,Int.reduceGE,if_true,if_false,ite_true,ite_false,beq_self_eq_true,BEq.rfl,reduceCtorEq,eq_self,ne_eq,Function.comp_def,beq_iff_eq]
    have nby : ∀ j, rowOf yv2 = some j → j ≠ t5 ∧ j ≠ lid := fun j hj => by
      rcases nw5 j hj with h | h
      · exact ⟨fun he => nt (by rw [← he]; exact h), fun he => nrl (by rw [← he]; exact h)⟩
      · simp only [List.length_append, List.length_cons, List.length_nil] at h
        omega
    refine rdEnd_normal (by rw [List.getElem?_set_ne nt5]; exact dl5) ?_
    refine hK yv2 _ ?_ ?_ ?_ ?_ ?_ ?_
    · rw [List.flatMap_append, List.length_append]
      have e4 : [u].flatMap idV = idV u := by simp
      rw [e4]
      refine gl5.of fun j o hj ho => ?_
      obtain ⟨j1, j2⟩ := nby j hj
      rw [List.getElem?_set_ne (Ne.symm j2), List.getElem?_set_ne (Ne.symm j1)]
      exact ho
    · rw [List.getElem?_set_ne (Ne.symm nt5), List.getElem?_set_self lt5]
    · rw [List.getElem?_set_self (by rw [List.length_set]; exact ll5)]
    · intro j o j1 j2 j3 ho
      rw [List.getElem?_set_ne (Ne.symm j2), List.getElem?_set_ne (Ne.symm j1)]
      exact tr5.2 _ _ j3 (gX _ _ _ (g4 _ _ (k _ _ j2 (g0 _ _ ho))))
    · rw [List.length_set, List.length_set]
      omega
    · intro j hj
      rcases nw5 j hj with h | h
      · exact .inl h
      · exact .inr (by simp only [List.length_append] at h; omega)
set_option maxHeartbeats 4000000 in
theorem o_Within (hr : Rel us os L) (hg : Gd L) (hi : Ix st ix a b us os) (hm : 300 < m)
    (hK : ∀ yv s, Grw st s → Gl s 3 yv ((L.filter (meetsR x y w h)).flatMap idV) (L.filter (meetsR x y w h)).length → K yv s) : acallF Try.prog pl (n + 7) m 28 [.ref ix 0, .agg (rc x y w h)] st K := by
  refine acallF_inF Try.func28 rfl rfl Try.ntmps28 (by simp) ?_
  obtain ⟨s2, hs2⟩ : ∃ s2, s2 = st ++ [Ob.cells (rc x y w h), Ob.cells [.tsl [] 0 true true]] := ⟨_, rfl⟩
  have g2 : Grw st s2 := by rw [hs2]; exact .push _ _
  have c2 : s2[st.length]? = some (.cells (rc x y w h)) := by rw [hs2]; exact get_new0 _ _
  have d2 : s2[st.length + 1]? = some (.cells [.tsl [] 0 true true]) := by rw [hs2]; exact get_new _ _ 1
  have l2 : s2.length = st.length + 2 := by rw [hs2]; simp
  simp only [rc] at hs2
  simp only [rc, evf,↓evp,evq,evr,fxa0,fxa1,fxa2,fxa3,fxa4,fxu,fxn,fxl,↓fxp,lgc,absL,fitL,flatL,ares,ares1,ofVal,unSc,aload,afill,splice,abound,asI,elems,IntKind.bits,sortT,eqNil,closedL,allByte,patch,pendOK,numA,Value.cells,Value.oneCell',ibin,List.replicate,Option.elim,Nat.reduceAdd,Nat.reduceSub,Nat.reduceMul,Nat.reduceLT,Nat.reduceEqDiff,Nat.reduceLeDiff,Nat.reduceBEq,Int.reduceLE,Int.reduceLT,Int.reduceToNat,Int.reduceBNe,Int.reduceBEq,Int.reduceNeg,Int.reduceEq,Int.reduceNe,Nat.reduceBNe,Int.reduceAdd,Int.reduceSub,Int.reduceMul,Int.reducePow,Nat.reducePow,Int.reduceGT,Int.reduceGE,if_true,if_false,ite_true,ite_false,beq_self_eq_true,BEq.rfl,reduceCtorEq,eq_self,ne_eq,Function.comp_def,beq_iff_eq]
  rw [← hs2]
  refine o_All (n := n + 5) rfl rfl ?_
  obtain ⟨sa, hsa⟩ : ∃ sa, sa = s2 ++ [Ob.cells [.ref ix 0]] := ⟨_, rfl⟩
  have ga : Grw s2 sa := by rw [hsa]; exact .push _ _
  have va : sa[s2.length]? = some (.cells [.ref ix 0]) := by rw [hsa]; exact get_new0 _ _
  have lsa : sa.length = s2.length + 1 := by rw [hsa]; simp
  have ca := ga _ _ c2
  have da := ga _ _ d2
  have gst := g2.trans ga
  rw [← hsa]
  simp only [evf,↓evp,evq,evr,fxa0,fxa1,fxa2,fxa3,fxa4,fxu,fxn,fxl,↓fxp,lgc,absL,fitL,flatL,ares,ares1,ofVal,unSc,aload,afill,splice,abound,asI,elems,IntKind.bits,sortT,eqNil,closedL,allByte,patch,pendOK,numA,Value.cells,Value.oneCell',ibin,List.replicate,Option.elim,Nat.reduceAdd,Nat.reduceSub,Nat.reduceMul,Nat.reduceLT,Nat.reduceEqDiff,Nat.reduceLeDiff,Nat.reduceBEq,Int.reduceLE,Int.reduceLT,Int.reduceToNat,Int.reduceBNe,Int.reduceBEq,Int.reduceNeg,Int.reduceEq,Int.reduceNe,Nat.reduceBNe,Int.reduceAdd,Int.reduceSub,Int.reduceMul,Int.reducePow,Nat.reducePow,Int.reduceGT,Int.reduceGE,if_true,if_false,ite_true,ite_false,beq_self_eq_true,BEq.rfl,reduceCtorEq,eq_self,ne_eq,Function.comp_def,beq_iff_eq]
  generalize hS : (sa ++ [_]) = S
  have gS : Grw sa S := by rw [← hS]; exact .push _ _
  have lS : S.length = sa.length + 1 := by rw [← hS]; simp
  obtain ⟨F, ps, asg, body, hc, q3, q5, hl0⟩ : ∃ F ps asg body, frf (Try.f28.body.getD .skip) = some (ps, asg, body) ∧ F 3 = .ref st.length 0 ∧ F 5 = .ref (st.length + 1) 0 ∧ S[sa.length]? = some (.loop .ready none (pl 28) (ofF 26 F) ps.toList asg body) := by
    refine ⟨_, _, _, _, rfl, ?_, ?_, (by rw [← hS]; exact get_new0 sa _)⟩
    · simp only [evf, ne_eq, Nat.reduceEqDiff, Nat.reduceLT, not_false_eq_true]
    · simp only [evf, ne_eq, Nat.reduceEqDiff, Nat.reduceLT, not_false_eq_true]
  have gSt := gst.trans gS
  have eL : (L.map U.id).length = L.length := List.length_map _
  have lix : ix < st.length := (List.getElem?_eq_some_iff.1 hi.ix).1
  have la : a < st.length := (List.getElem?_eq_some_iff.1 hi.us).1
  have lb : b < st.length := (List.getElem?_eq_some_iff.1 hi.os).1
  refine o_Each (n := n + 2) (l := sa.length) (rb := s2.length) (ids := L.map U.id) (J := fun _ => False)
    (I := fun r ro k s => ∃ yv, s[r]? = some ro ∧ S.length ≤ r ∧ rowOf yv ≠ some r ∧ s[st.length]? = some (.cells (rc x y w h)) ∧ s[st.length + 1]? = some (.cells [yv]) ∧ Gl s 3 yv (((L.take k).filter (meetsR x y w h)).flatMap idV) ((L.take k).filter (meetsR x y w h)).length ∧ s[sa.length]? = some (.loop .ready none (pl 28) (ofF 26 F) ps.toList asg body) ∧ (∀ j, rowOf yv = some j → S.length ≤ j) ∧ (∀ j o, j < sa.length → j ≠ st.length + 1 → sa[j]? = some o → s[j]? = some o) ∧ S.length ≤ s.length)
    (hi.grw gSt) (gS _ _ va) hr.ni hr.mem hg.pw hg.ir (by rw [eL]; exact hg.len) hm ?_ ?_ ?_ ?_ (fun _ h => h.elim)
  · rintro r ro k s ⟨yv, i1, i2, i3, i4, i5, i6, i7, i8, i9, i10⟩
    exact ⟨i9 _ _ (by omega) (by omega) va, ⟨i9 _ _ (by omega) (by omega) (gst _ _ hi.ix), i9 _ _ (by omega) (by omega) (gst _ _ hi.us), i9 _ _ (by omega) (by omega) (gst _ _ hi.os)⟩, i1⟩
  · intro r ro s g hr1 hr2
    exact ⟨.tsl [] 0 true true, hr2, hr1, (fun h => by cases h), g _ _ (gS _ _ ca), g _ _ (gS _ _ da), .inl ⟨rfl, rfl, rfl⟩, g _ _ hl0, (fun j h => by cases h), (fun j o _ _ ho => g _ _ (gS _ _ ho)), g.le⟩
  · rintro r ro i hil v s K' hv ⟨yv, i1, i2, i3, i4, i5, i6, i7, i8, i9, i10⟩ hK1 _
    have hil' : i < L.length := by rw [eL] at hil; exact hil
    simp only [List.getElem_map] at hv ⊢
    rw [hr.at_id hil' hv]
    refine wi_yl (n := n) (pre := (L.take i).filter (meetsR x y w h)) (u := L[i]) (t3 := st.length) (t5 := st.length + 1) (lid := sa.length) (F := F) (p := none) hc q3 q5 i4 i5 i6 (wn_len L i x y w h hg.len) i7 ?_
    intro yv2 s' k1 k2 k3 k4 k5 k6
    rw [← wn_step hil'] at k1
    have rs : r < s.length := (List.getElem?_eq_some_iff.1 i1).1
    refine hK1 _ ⟨yv2, k4 _ _ (by omega) (by omega) i3 i1, i2, (fun h => ?_), k4 _ _ (by omega) (by omega) (i6.ncells i4) i4, k2, k1, k3, (fun j h => ?_), (fun j o hj hj2 ho => ?_), by omega⟩
    · rcases k6 _ h with h | h
      · exact i3 h
      · omega
    · rcases k6 _ h with h | h
      · exact i8 _ h
      · omega
    · exact k4 _ _ (by omega) (by omega) (fun h => by have := i8 _ h; omega) (i9 _ _ hj hj2 ho)
  · rintro r ro s ⟨yv, i1, i2, i3, i4, i5, i6, i7, i8, i9, i10⟩
    rw [eL, List.take_length] at i6
    refine rfEnd_normal i7 (by decide) ?_
    generalize hsz : s.set sa.length _ = sz
    have kz : ∀ j o, j ≠ sa.length → s[j]? = some o → sz[j]? = some o := fun j o hj ho => by rw [← hsz, List.getElem?_set_ne (Ne.symm hj)]; exact ho
    have z5 := kz _ _ (by omega) i5
    have glz : Gl sz 3 yv ((L.filter (meetsR x y w h)).flatMap idV) (L.filter (meetsR x y w h)).length := i6.of fun j o hj ho => kz _ _ (by have := i8 _ hj; omega) ho
    have gz : Grw st sz := fun j o ho => by
      have lj : j < st.length := (List.getElem?_eq_some_iff.1 ho).1
      exact kz _ _ (by omega) (i9 _ _ (by omega) (by omega) (gst _ _ ho))
    simp only [z5, evf,↓evp,evq,evr,fxa0,fxa1,fxa2,fxa3,fxa4,fxu,fxn,fxl,↓fxp,lgc,absL,fitL,flatL,ares,ares1,ofVal,unSc,aload,afill,splice,abound,asI,elems,IntKind.bits,sortT,eqNil,closedL,allByte,patch,pendOK,numA,Value.cells,Value.oneCell',ibin,List.replicate,Option.elim,Nat.reduceAdd,Nat.reduceSub,Nat.reduceMul,Nat.reduceLT,Nat.reduceEqDiff,Nat.reduceLeDiff,Nat.reduceBEq,Int.reduceLE,Int.reduceLT,Int.reduceToNat,Int.reduceBNe,Int.reduceBEq,Int.reduceNeg,Int.reduceEq,Int.reduceNe,Nat.reduceBNe,Int.reduceAdd,Int.reduceSub,Int.reduceMul,Int.reducePow,Nat.reducePow,Int.reduceGT,Int.reduceGE,if_true,if_false,ite_true,ite_false,beq_self_eq_true,BEq.rfl,reduceCtorEq,eq_self,ne_eq,Function.comp_def,beq_iff_eq]
    exact hK _ _ gz glz
end
/-! ### Chapter 5: the law OccupyAsks. -/
def atV (o : Option U) : V := match o with | some u => .tup [.sc (.int .i64 u.id), .sc (.bool true)] | none => .tup [.sc (.int .i64 0), .sc (.bool false)]
theorem atV_is (o : Option U) : ∃ (z : Int) (q : Bool), atV o = .tup [.sc (.int .i64 z), .sc (.bool q)] := by
  cases o with
  | none => exact ⟨_, _, rfl⟩
  | some u => exact ⟨_, _, rfl⟩
section
variable {m : Nat} {st s : List Ob} {ix a b iy : Nat} {us : List (Int × V)} {os : List ((Int × Int) × V)} {L : List U} {sv lv : V} {E : List A6}
theorem a_id (hv : Rd Try.prog s 36 lv (E.flatMap A6.v) E.length) {i : Nat} (hi : i < E.length) : afa Try.prog s 36 1 (ixp 6 lv i 0) = some (ixp 6 lv i 1, s) ∧ ald Try.prog s 3 (ixp 6 lv i 1) = some (.sc (.int .i64 E[i].id), s) := by
  refine ⟨afa_ix hv (i := 1) (off := 1) (k := 1) (ft := 3) (by kernel_rfl) (by omega) i 0, ?_⟩
  rw [ald_ix hv sz36 sz3 (by omega) hi (by omega)]
  have e : (E.flatMap A6.v).drop (i * 6 + 1) = .sc (.int .i64 E[i].id) :: (rc E[i].x E[i].y E[i].w E[i].h ++ (E.drop (i + 1)).flatMap A6.v) := by
    rw [← List.drop_drop, flatMap_at (f := A6.v) (s := 6) (fun a => rfl) E i hi]
    rfl
  rw [e]
  simp only [aload, ag3]
  rfl
theorem i_at {yv : V} {W : List U} (hv : Rd Try.prog s 3 yv (W.flatMap idV) W.length) {i : Nat} (hi : i < W.length) : aix Try.prog s 55 yv (.sc (.int .i64 i)) = some (ixp 1 yv i 0, s) ∧ ald Try.prog s 3 (ixp 1 yv i 0) = some (.sc (.int .i64 W[i].id), s) := by
  refine ⟨by rw [aix_rd hv Try.underlying55 sz3 .i64 (by omega) (by omega), Int.toNat_natCast], ?_⟩
  rw [ald_ix hv sz3 sz3 (by omega) hi (by omega)]
  simp only [aload, ag3, Nat.add_zero]
  rw [flatMap_at (f := idV) (s := 1) (fun a => rfl) W i hi]
  rfl
theorem finds (hr : Rel us os L) (hl : L.length ≤ 256) (hm : 300 < m) (id : Int) : ∃ (X Y W H : Int) (q : Bool),
    (∀ (n : Nat) (st : List Ob) (ix a b : Nat) (K : V → List Ob → Prop), Ix st ix a b us os → (∀ s, Grw st s → K (.tup [.agg (rc X Y W H), .sc (.bool q)]) s) → acallF Try.prog pl (n + 2) m 26 [.ref ix 0, .sc (.int .i64 id)] st K) ∧
    ∀ (n : Nat) (st : List Ob) (iy : Nat) (sv : V) (K : V → List Ob → Prop), Ri st iy sv L → (∀ s, Grw st s → K (.tup [.agg (rc X Y W H), .sc (.bool q)]) s) → acallF Try.prog pl (n + 2) m 27 [.ref iy 0, .sc (.int .i64 id)] st K := by
  rcases hr.unit2 id with ⟨h1, h2⟩ | ⟨i, hi, h1, h2, h3⟩
  · refine ⟨0, 0, 0, 0, false, fun n st ix a b K hx hK => o_FindN2 (n := n) hx h1 hK, fun n st iy sv K hy hK => r_Find2 (n := n) hy hm hl (fun _ => hK) fun i hi e => ?_⟩
    omega
  · refine ⟨L[i].x, L[i].y, L[i].w, L[i].h, true, fun n st ix a b K hx hK => o_Find1 (n := n) hx h3 hK, fun n st iy sv K hy hK => r_Find2 (n := n) hy hm hl (fun e => by omega) fun j hj e _ => ?_⟩
    obtain rfl : j = i := by omega
    exact hK
end
section
variable {n m : Nat} {st s : List Ob} {K : V → List Ob → Prop} {ix a b iy : Nat} {us : List (Int × V)} {os : List ((Int × Int) × V)} {L : List U} {E : List A6} {lv sv : V} {x y w h ca cb : Int}
theorem o_AtB (hr : Rel us os L) (hi : Ix st ix a b us os) (hK : ∀ s, Grw st s → K (atV (L.find? (hasU ca cb))) s) : acallF Try.prog pl (n + 2) m 24 [.ref ix 0, .agg (cl ca cb)] st K :=
  o_AtA (n := n) hr hi hK
theorem r_AtB (hy : Ri st iy sv L) (hm : L.length < m) (hl : L.length < 1000000) (hK : ∀ s, Grw st s → K (atV (L.find? (hasU ca cb))) s) :
    acallF Try.prog pl (n + 5) m 25 [.ref iy 0, .agg (cl ca cb)] st K :=
  r_At (n := n) hy hm hl hK
set_option maxHeartbeats 8000000 in
theorem l5_Asks (he : ∀ s, Rd Try.prog s 36 lv (E.flatMap A6.v) E.length) (hid : ∀ e ∈ E, inR e.id) (hEl : E.length ≤ 2932031007402) (hEm : E.length < m) (hm : 500 < m) (hK : ∀ s, K (.sc (.bool true)) s) :
    acallF Try.prog pl (n + 12) m 5 [lv, .agg (cl ca cb), .agg (rc x y w h)] st K := by
  refine acallF_inF Try.func5 rfl rfl Try.ntmps5 (by simp) ?_
  have nn : ∀ z : Int, (z != z) = false := fun z => by simp
  have nb : ∀ z : Bool, (z != z) = false := fun z => by simp
  obtain ⟨s1, hs1⟩ : ∃ s1, s1 = st ++ [Ob.cells (cl ca cb), Ob.cells (rc x y w h)] := ⟨_, rfl⟩
  have c1 : s1[st.length]? = some (.cells (cl ca cb)) := by rw [hs1]; exact get_new0 _ _
  have r1 : s1[st.length + 1]? = some (.cells (rc x y w h)) := by rw [hs1]; exact get_new _ _ 1
  have l1 : s1.length = st.length + 2 := by rw [hs1]; simp
  simp only [rc, cl] at hs1 c1 r1
  simp only [rc, cl, evf,↓evp,evq,evr,fxa0,fxa1,fxa2,fxa3,fxa4,fxu,fxn,fxl,↓fxp,lgc,absL,fitL,flatL,ares,ares1,ofVal,unSc,aload,afill,splice,abound,asI,elems,IntKind.bits,sortT,eqNil,closedL,allByte,patch,pendOK,numA,Value.cells,Value.oneCell',ibin,List.replicate,Option.elim,Nat.reduceAdd,Nat.reduceSub,Nat.reduceMul,Nat.reduceLT,Nat.reduceEqDiff,Nat.reduceLeDiff,Nat.reduceBEq,Int.reduceLE,Int.reduceLT,Int.reduceToNat,Int.reduceBNe,Int.reduceBEq,Int.reduceNeg,Int.reduceEq,Int.reduceNe,Nat.reduceBNe,Int.reduceAdd,Int.reduceSub,Int.reduceMul,Int.reducePow,Nat.reducePow,Int.reduceGT,Int.reduceGE,if_true,if_false,ite_true,ite_false,beq_self_eq_true,BEq.rfl,reduceCtorEq,eq_self,ne_eq,Function.comp_def,beq_iff_eq]
  rw [← hs1]
  refine awake5 (n := n + 4) (by omega) fun s2 g2 => ?_
  simp only [evf,↓evp,evq,evr,fxa0,fxa1,fxa2,fxa3,fxa4,fxu,fxn,fxl,↓fxp,lgc,absL,fitL,flatL,ares,ares1,ofVal,unSc,aload,afill,splice,abound,asI,elems,IntKind.bits,sortT,eqNil,closedL,allByte,patch,pendOK,numA,Value.cells,Value.oneCell',ibin,List.replicate,Option.elim,Nat.reduceAdd,Nat.reduceSub,Nat.reduceMul,Nat.reduceLT,Nat.reduceEqDiff,Nat.reduceLeDiff,Nat.reduceBEq,Int.reduceLE,Int.reduceLT,Int.reduceToNat,Int.reduceBNe,Int.reduceBEq,Int.reduceNeg,Int.reduceEq,Int.reduceNe,Nat.reduceBNe,Int.reduceAdd,Int.reduceSub,Int.reduceMul,Int.reducePow,Nat.reducePow,Int.reduceGT,Int.reduceGE,if_true,if_false,ite_true,ite_false,beq_self_eq_true,BEq.rfl,reduceCtorEq,eq_self,ne_eq,Function.comp_def,beq_iff_eq]
  refine o_New (n := n + 10) fun s3 hi3 g3 => ?_
  simp only [evf,↓evp,evq,evr,fxa0,fxa1,fxa2,fxa3,fxa4,fxu,fxn,fxl,↓fxp,lgc,absL,fitL,flatL,ares,ares1,ofVal,unSc,aload,afill,splice,abound,asI,elems,IntKind.bits,sortT,eqNil,closedL,allByte,patch,pendOK,numA,Value.cells,Value.oneCell',ibin,List.replicate,Option.elim,Nat.reduceAdd,Nat.reduceSub,Nat.reduceMul,Nat.reduceLT,Nat.reduceEqDiff,Nat.reduceLeDiff,Nat.reduceBEq,Int.reduceLE,Int.reduceLT,Int.reduceToNat,Int.reduceBNe,Int.reduceBEq,Int.reduceNeg,Int.reduceEq,Int.reduceNe,Nat.reduceBNe,Int.reduceAdd,Int.reduceSub,Int.reduceMul,Int.reducePow,Nat.reducePow,Int.reduceGT,Int.reduceGE,if_true,if_false,ite_true,ite_false,beq_self_eq_true,BEq.rfl,reduceCtorEq,eq_self,ne_eq,Function.comp_def,beq_iff_eq]
  have l2 := g2.le
  have l3 := g3.le
  have c3 := g3 _ _ (g2 _ _ c1)
  have r3 := g3 _ _ (g2 _ _ r1)
  generalize hS : s3 ++ _ = S
  have gS : Grw s3 S := by rw [← hS]; exact .push _ _
  have y0 : S[s3.length]? = some (.cells [.tsl [] 0 true true]) := by rw [← hS]; exact get_new0 _ _
  have hiS := hi3.grw gS
  refine aloop_forF (fun k f s => ∃ (i : Nat) (us : List (Int × V)) (os : List ((Int × Int) × V)) (L : List U) (sv : V), k + i = m ∧ i ≤ E.length ∧ Ix s (s2.length + 2) s2.length (s2.length + 1) us os ∧ Rel us os L ∧ Gd L ∧ Ri s s3.length sv L ∧ s[st.length]? = some (.cells (cl ca cb)) ∧ s[st.length + 1]? = some (.cells (rc x y w h)) ∧ f 0 = lv ∧ f 4 = .ref st.length 0 ∧ f 5 = .ref (st.length + 1) 0 ∧ f 7 = .ref (s2.length + 2) 0 ∧ f 8 = .ref s3.length 0 ∧ f 9 = .sc (.int .i64 i))
    ⟨0, [], [], [], _, by omega, by omega, hiS, Rel.nil, Gd.nil, ri_nil y0, gS _ _ c3, gS _ _ r3, by simp only [evf, ne_eq, Nat.reduceEqDiff, Nat.reduceLT, not_false_eq_true], by simp only [evf, ne_eq, Nat.reduceEqDiff, Nat.reduceLT, not_false_eq_true], by simp only [evf, ne_eq, Nat.reduceEqDiff, Nat.reduceLT, not_false_eq_true], by simp only [evf, ne_eq, Nat.reduceEqDiff, Nat.reduceLT, not_false_eq_true], by simp only [evf, ne_eq, Nat.reduceEqDiff, Nat.reduceLT, not_false_eq_true], by simp only [evf, ne_eq, Nat.reduceEqDiff, Nat.reduceLT, not_false_eq_true]; rfl⟩ ?_
  rintro I' hI' k f s ⟨i, us, os, L, sv, hk, hi, ix, rel, gd, hy, cs, rs, f0, f4, f5, f7, f8, f9⟩
  refine ⟨k - 1, by omega, ?_⟩
  have al := alen_rd (he s) Try.underlying22
  have e3 : IntKind.i64.wrap ((i : Int) + 1) = ((i + 1 : Nat) : Int) := by rw [IntWalk.i64_in _ (by omega)]; rfl
  by_cases hil : i < E.length
  · have d : decide ((i : Int) < E.length) = true := decide_eq_true (by omega)
    obtain ⟨p1, p2⟩ := ix_flat (f := A6.v) (fun a => rfl) (he s) Try.underlying22 sz36 ag36 (by omega) hil
    simp only [f0, f4, f5, f7, f8, f9, al, d, p1, p2, evf,↓evp,evq,evr,fxa0,fxa1,fxa2,fxa3,fxa4,fxu,fxn,fxl,↓fxp,lgc,absL,fitL,flatL,ares,ares1,ofVal,unSc,aload,afill,splice,abound,asI,elems,IntKind.bits,sortT,eqNil,closedL,allByte,patch,pendOK,numA,Value.cells,Value.oneCell',ibin,List.replicate,Option.elim,Nat.reduceAdd,Nat.reduceSub,Nat.reduceMul,Nat.reduceLT,Nat.reduceEqDiff,Nat.reduceLeDiff,Nat.reduceBEq,Int.reduceLE,Int.reduceLT,Int.reduceToNat,Int.reduceBNe,Int.reduceBEq,Int.reduceNeg,Int.reduceEq,Int.reduceNe,Nat.reduceBNe,Int.reduceAdd,Int.reduceSub,Int.reduceMul,Int.reducePow,Nat.reducePow,Int.reduceGT,Int.reduceGE,if_true,if_false,ite_true,ite_false,beq_self_eq_true,BEq.rfl,reduceCtorEq,eq_self,ne_eq,Function.comp_def,beq_iff_eq]
    refine l5_does (n := n + 3) E[i] rel gd ix (by omega) hy (hid _ (List.getElem_mem hil)) (by omega) fun us' os' L' sv' s' ix' rel' gd' hy' fy => ?_
    simp only [f0, f4, f5, f7, f8, f9, e3, evf,↓evp,evq,evr,fxa0,fxa1,fxa2,fxa3,fxa4,fxu,fxn,fxl,↓fxp,lgc,absL,fitL,flatL,ares,ares1,ofVal,unSc,aload,afill,splice,abound,asI,elems,IntKind.bits,sortT,eqNil,closedL,allByte,patch,pendOK,numA,Value.cells,Value.oneCell',ibin,List.replicate,Option.elim,Nat.reduceAdd,Nat.reduceSub,Nat.reduceMul,Nat.reduceLT,Nat.reduceEqDiff,Nat.reduceLeDiff,Nat.reduceBEq,Int.reduceLE,Int.reduceLT,Int.reduceToNat,Int.reduceBNe,Int.reduceBEq,Int.reduceNeg,Int.reduceEq,Int.reduceNe,Nat.reduceBNe,Int.reduceAdd,Int.reduceSub,Int.reduceMul,Int.reducePow,Nat.reducePow,Int.reduceGT,Int.reduceGE,if_true,if_false,ite_true,ite_false,beq_self_eq_true,BEq.rfl,reduceCtorEq,eq_self,ne_eq,Function.comp_def,beq_iff_eq]
    exact hI' _ _ _ ⟨i + 1, us', os', L', sv', by omega, hil, ix', rel', gd', hy', fy _ _ (by omega) cs, fy _ _ (by omega) rs, by simp only [f0, evf, ne_eq, Nat.reduceEqDiff, Nat.reduceLT, not_false_eq_true], by simp only [f4, evf, ne_eq, Nat.reduceEqDiff, Nat.reduceLT, not_false_eq_true], by simp only [f5, evf, ne_eq, Nat.reduceEqDiff, Nat.reduceLT, not_false_eq_true], by simp only [f7, evf, ne_eq, Nat.reduceEqDiff, Nat.reduceLT, not_false_eq_true], by simp only [f8, evf, ne_eq, Nat.reduceEqDiff, Nat.reduceLT, not_false_eq_true], by simp only [evf, ne_eq, Nat.reduceEqDiff, Nat.reduceLT, not_false_eq_true]⟩
  have d : decide ((i : Int) < E.length) = false := decide_eq_false (by omega)
  have hl := gd.len
  simp only [cl] at cs
  simp only [rc] at rs
  simp only [f0, f4, f5, f7, f8, f9, al, d, cs, evf,↓evp,evq,evr,fxa0,fxa1,fxa2,fxa3,fxa4,fxu,fxn,fxl,↓fxp,lgc,absL,fitL,flatL,ares,ares1,ofVal,unSc,aload,afill,splice,abound,asI,elems,IntKind.bits,sortT,eqNil,closedL,allByte,patch,pendOK,numA,Value.cells,Value.oneCell',ibin,List.replicate,Option.elim,Nat.reduceAdd,Nat.reduceSub,Nat.reduceMul,Nat.reduceLT,Nat.reduceEqDiff,Nat.reduceLeDiff,Nat.reduceBEq,Int.reduceLE,Int.reduceLT,Int.reduceToNat,Int.reduceBNe,Int.reduceBEq,Int.reduceNeg,Int.reduceEq,Int.reduceNe,Nat.reduceBNe,Int.reduceAdd,Int.reduceSub,Int.reduceMul,Int.reducePow,Nat.reducePow,Int.reduceGT,Int.reduceGE,if_true,if_false,ite_true,ite_false,beq_self_eq_true,BEq.rfl,reduceCtorEq,eq_self,ne_eq,Function.comp_def,beq_iff_eq]
  obtain ⟨z, q, hz⟩ := atV_is (L.find? (hasU ca cb))
  refine o_AtB (n := n + 9) rel ix fun s5 g5 => ?_
  rw [hz]
  have c5 := g5 _ _ cs
  have r5 := g5 _ _ rs
  simp only [f0, f4, f5, f7, f8, c5, evf,↓evp,evq,evr,fxa0,fxa1,fxa2,fxa3,fxa4,fxu,fxn,fxl,↓fxp,lgc,absL,fitL,flatL,ares,ares1,ofVal,unSc,aload,afill,splice,abound,asI,elems,IntKind.bits,sortT,eqNil,closedL,allByte,patch,pendOK,numA,Value.cells,Value.oneCell',ibin,List.replicate,Option.elim,Nat.reduceAdd,Nat.reduceSub,Nat.reduceMul,Nat.reduceLT,Nat.reduceEqDiff,Nat.reduceLeDiff,Nat.reduceBEq,Int.reduceLE,Int.reduceLT,Int.reduceToNat,Int.reduceBNe,Int.reduceBEq,Int.reduceNeg,Int.reduceEq,Int.reduceNe,Nat.reduceBNe,Int.reduceAdd,Int.reduceSub,Int.reduceMul,Int.reducePow,Nat.reducePow,Int.reduceGT,Int.reduceGE,if_true,if_false,ite_true,ite_false,beq_self_eq_true,BEq.rfl,reduceCtorEq,eq_self,ne_eq,Function.comp_def,beq_iff_eq]
  refine r_AtB (n := n + 6) (hy.grw g5) (by omega) (by omega) fun s6 g6 => ?_
  rw [hz]
  have r6 := g6 _ _ r5
  have ix6 := ix.grw (g5.trans g6)
  have hy6 := hy.grw (g5.trans g6)
  simp only [f0, f4, f5, f7, f8, nn, nb, evf,↓evp,evq,evr,fxa0,fxa1,fxa2,fxa3,fxa4,fxu,fxn,fxl,↓fxp,lgc,absL,fitL,flatL,ares,ares1,ofVal,unSc,aload,afill,splice,abound,asI,elems,IntKind.bits,sortT,eqNil,closedL,allByte,patch,pendOK,numA,Value.cells,Value.oneCell',ibin,List.replicate,Option.elim,Nat.reduceAdd,Nat.reduceSub,Nat.reduceMul,Nat.reduceLT,Nat.reduceEqDiff,Nat.reduceLeDiff,Nat.reduceBEq,Int.reduceLE,Int.reduceLT,Int.reduceToNat,Int.reduceBNe,Int.reduceBEq,Int.reduceNeg,Int.reduceEq,Int.reduceNe,Nat.reduceBNe,Int.reduceAdd,Int.reduceSub,Int.reduceMul,Int.reducePow,Nat.reducePow,Int.reduceGT,Int.reduceGE,if_true,if_false,ite_true,ite_false,beq_self_eq_true,BEq.rfl,reduceCtorEq,eq_self,ne_eq,Function.comp_def,beq_iff_eq]
  refine aloop_forF (fun k f s => ∃ i : Nat, k + i = m ∧ i ≤ E.length ∧ Grw s6 s ∧ f 0 = lv ∧ f 5 = .ref (st.length + 1) 0 ∧ f 7 = .ref (s2.length + 2) 0 ∧ f 8 = .ref s3.length 0 ∧ f 14 = .sc (.int .i64 i))
    ⟨0, by omega, by omega, fun _ _ h => h, by simp only [f0, evf, ne_eq, Nat.reduceEqDiff, Nat.reduceLT, not_false_eq_true], by simp only [f5, evf, ne_eq, Nat.reduceEqDiff, Nat.reduceLT, not_false_eq_true], by simp only [f7, evf, ne_eq, Nat.reduceEqDiff, Nat.reduceLT, not_false_eq_true], by simp only [f8, evf, ne_eq, Nat.reduceEqDiff, Nat.reduceLT, not_false_eq_true], by simp only [evf, ne_eq, Nat.reduceEqDiff, Nat.reduceLT, not_false_eq_true]; rfl⟩ ?_
  clear hI' I' f0 f4 f5 f7 f8 f9 hil d e3 al hi hk
  rintro I' hI' k f s7 ⟨i, hk, hi, g7, f0, f5, f7, f8, f14⟩
  refine ⟨k - 1, by omega, ?_⟩
  have al := alen_rd (he s7) Try.underlying22
  have e3 : IntKind.i64.wrap ((i : Int) + 1) = ((i + 1 : Nat) : Int) := by rw [IntWalk.i64_in _ (by omega)]; rfl
  have r7 := g7 _ _ r6
  have ix7 := ix6.grw g7
  have hy7 := hy6.grw g7
  by_cases hil : i < E.length
  · have d : decide ((i : Int) < E.length) = true := decide_eq_true (by omega)
    obtain ⟨p1, p2⟩ := ix_flat (f := A6.v) (fun a => rfl) (he s7) Try.underlying22 sz36 ag36 (by omega) hil
    obtain ⟨p3, p4⟩ := a_id (he s7) hil
    obtain ⟨X, Y, W, H, qq, hf1, hf2⟩ := finds rel hl (m := m) (by omega) E[i].id
    have cm := fun p q => cmp_rectN p q X Y W H X Y W H
    have eq1 : eqR X Y W H X Y W H = true := by simp [eqR]
    simp only [f0, f5, f7, f8, f14, al, d, p1, p3, p4, evf,↓evp,evq,evr,fxa0,fxa1,fxa2,fxa3,fxa4,fxu,fxn,fxl,↓fxp,lgc,absL,fitL,flatL,ares,ares1,ofVal,unSc,aload,afill,splice,abound,asI,elems,IntKind.bits,sortT,eqNil,closedL,allByte,patch,pendOK,numA,Value.cells,Value.oneCell',ibin,List.replicate,Option.elim,Nat.reduceAdd,Nat.reduceSub,Nat.reduceMul,Nat.reduceLT,Nat.reduceEqDiff,Nat.reduceLeDiff,Nat.reduceBEq,Int.reduceLE,Int.reduceLT,Int.reduceToNat,Int.reduceBNe,Int.reduceBEq,Int.reduceNeg,Int.reduceEq,Int.reduceNe,Nat.reduceBNe,Int.reduceAdd,Int.reduceSub,Int.reduceMul,Int.reducePow,Nat.reducePow,Int.reduceGT,Int.reduceGE,if_true,if_false,ite_true,ite_false,beq_self_eq_true,BEq.rfl,reduceCtorEq,eq_self,ne_eq,Function.comp_def,beq_iff_eq]
    refine hf1 (n + 9) _ _ _ _ _ ix7 fun s8 g8 => ?_
    have gX := fun X => Grw.push s8 X
    have pX := fun X => (ix_flat (f := A6.v) (fun a => rfl) (he (s8 ++ X)) Try.underlying22 sz36 ag36 (by omega) hil).1
    have pY := fun X => (a_id (he (s8 ++ X)) hil).1
    have pZ := fun X => (a_id (he (s8 ++ X)) hil).2
    simp only [rc, f0, f5, f7, f8, f14, pX, pY, pZ, get_new, get_new0, M.set_new, M.set_new0, evf,↓evp,evq,evr,fxa0,fxa1,fxa2,fxa3,fxa4,fxu,fxn,fxl,↓fxp,lgc,absL,fitL,flatL,ares,ares1,ofVal,unSc,aload,afill,splice,abound,asI,elems,IntKind.bits,sortT,eqNil,closedL,allByte,patch,pendOK,numA,Value.cells,Value.oneCell',ibin,List.replicate,Option.elim,Nat.reduceAdd,Nat.reduceSub,Nat.reduceMul,Nat.reduceLT,Nat.reduceEqDiff,Nat.reduceLeDiff,Nat.reduceBEq,Int.reduceLE,Int.reduceLT,Int.reduceToNat,Int.reduceBNe,Int.reduceBEq,Int.reduceNeg,Int.reduceEq,Int.reduceNe,Nat.reduceBNe,Int.reduceAdd,Int.reduceSub,Int.reduceMul,Int.reducePow,Nat.reducePow,Int.reduceGT,Int.reduceGE,if_true,if_false,ite_true,ite_false,beq_self_eq_true,BEq.rfl,reduceCtorEq,eq_self,ne_eq,Function.comp_def,beq_iff_eq]
    refine hf2 (n + 9) _ _ _ _ ((hy7.grw g8).grw (gX _)) fun s9 g9 => ?_
    have x9 := g9 _ _ (get_new0 _ _)
    have gXX := fun X => Grw.push s9 X
    have x9X := fun X => gXX X _ _ x9
    have g10 := fun X => (((g7.trans g8).trans (gX _)).trans g9).trans (gXX X)
    simp only [rc, f0, f5, f7, f8, f14, x9, x9X, cm, eq1, nb, Bool.not_true, e3, get_new, get_new0, M.set_new, M.set_new0, evf,↓evp,evq,evr,fxa0,fxa1,fxa2,fxa3,fxa4,fxu,fxn,fxl,↓fxp,lgc,absL,fitL,flatL,ares,ares1,ofVal,unSc,aload,afill,splice,abound,asI,elems,IntKind.bits,sortT,eqNil,closedL,allByte,patch,pendOK,numA,Value.cells,Value.oneCell',ibin,List.replicate,Option.elim,Nat.reduceAdd,Nat.reduceSub,Nat.reduceMul,Nat.reduceLT,Nat.reduceEqDiff,Nat.reduceLeDiff,Nat.reduceBEq,Int.reduceLE,Int.reduceLT,Int.reduceToNat,Int.reduceBNe,Int.reduceBEq,Int.reduceNeg,Int.reduceEq,Int.reduceNe,Nat.reduceBNe,Int.reduceAdd,Int.reduceSub,Int.reduceMul,Int.reducePow,Nat.reducePow,Int.reduceGT,Int.reduceGE,if_true,if_false,ite_true,ite_false,beq_self_eq_true,BEq.rfl,reduceCtorEq,eq_self,ne_eq,Function.comp_def,beq_iff_eq]
    exact hI' _ _ _ ⟨i + 1, by omega, hil, g10 _, by simp only [f0, evf, ne_eq, Nat.reduceEqDiff, Nat.reduceLT, not_false_eq_true], by simp only [f5, evf, ne_eq, Nat.reduceEqDiff, Nat.reduceLT, not_false_eq_true], by simp only [f7, evf, ne_eq, Nat.reduceEqDiff, Nat.reduceLT, not_false_eq_true], by simp only [f8, evf, ne_eq, Nat.reduceEqDiff, Nat.reduceLT, not_false_eq_true], by simp only [evf, ne_eq, Nat.reduceEqDiff, Nat.reduceLT, not_false_eq_true]⟩
  have d : decide ((i : Int) < E.length) = false := decide_eq_false (by omega)
  cases dw : decide (w > 256)
  case true =>
    simp only [f0, f5, f7, f8, f14, al, d, r7, dw, evf,↓evp,evq,evr,fxa0,fxa1,fxa2,fxa3,fxa4,fxu,fxn,fxl,↓fxp,lgc,absL,fitL,flatL,ares,ares1,ofVal,unSc,aload,afill,splice,abound,asI,elems,IntKind.bits,sortT,eqNil,closedL,allByte,patch,pendOK,numA,Value.cells,Value.oneCell',ibin,List.replicate,Option.elim,Nat.reduceAdd,Nat.reduceSub,Nat.reduceMul,Nat.reduceLT,Nat.reduceEqDiff,Nat.reduceLeDiff,Nat.reduceBEq,Int.reduceLE,Int.reduceLT,Int.reduceToNat,Int.reduceBNe,Int.reduceBEq,Int.reduceNeg,Int.reduceEq,Int.reduceNe,Nat.reduceBNe,Int.reduceAdd,Int.reduceSub,Int.reduceMul,Int.reducePow,Nat.reducePow,Int.reduceGT,Int.reduceGE,if_true,if_false,ite_true,ite_false,beq_self_eq_true,BEq.rfl,reduceCtorEq,eq_self,ne_eq,Function.comp_def,beq_iff_eq]
    refine awake5 (n := n + 4) (by omega) fun s8 g8 => ?_
    simp only [evf,↓evp,evq,evr,fxa0,fxa1,fxa2,fxa3,fxa4,fxu,fxn,fxl,↓fxp,lgc,absL,fitL,flatL,ares,ares1,ofVal,unSc,aload,afill,splice,abound,asI,elems,IntKind.bits,sortT,eqNil,closedL,allByte,patch,pendOK,numA,Value.cells,Value.oneCell',ibin,List.replicate,Option.elim,Nat.reduceAdd,Nat.reduceSub,Nat.reduceMul,Nat.reduceLT,Nat.reduceEqDiff,Nat.reduceLeDiff,Nat.reduceBEq,Int.reduceLE,Int.reduceLT,Int.reduceToNat,Int.reduceBNe,Int.reduceBEq,Int.reduceNeg,Int.reduceEq,Int.reduceNe,Nat.reduceBNe,Int.reduceAdd,Int.reduceSub,Int.reduceMul,Int.reducePow,Nat.reducePow,Int.reduceGT,Int.reduceGE,if_true,if_false,ite_true,ite_false,beq_self_eq_true,BEq.rfl,reduceCtorEq,eq_self,ne_eq,Function.comp_def,beq_iff_eq]
    exact hK _
  cases dh : decide (h > 256)
  case true =>
    simp only [f0, f5, f7, f8, f14, al, d, r7, dw, dh, evf,↓evp,evq,evr,fxa0,fxa1,fxa2,fxa3,fxa4,fxu,fxn,fxl,↓fxp,lgc,absL,fitL,flatL,ares,ares1,ofVal,unSc,aload,afill,splice,abound,asI,elems,IntKind.bits,sortT,eqNil,closedL,allByte,patch,pendOK,numA,Value.cells,Value.oneCell',ibin,List.replicate,Option.elim,Nat.reduceAdd,Nat.reduceSub,Nat.reduceMul,Nat.reduceLT,Nat.reduceEqDiff,Nat.reduceLeDiff,Nat.reduceBEq,Int.reduceLE,Int.reduceLT,Int.reduceToNat,Int.reduceBNe,Int.reduceBEq,Int.reduceNeg,Int.reduceEq,Int.reduceNe,Nat.reduceBNe,Int.reduceAdd,Int.reduceSub,Int.reduceMul,Int.reducePow,Nat.reducePow,Int.reduceGT,Int.reduceGE,if_true,if_false,ite_true,ite_false,beq_self_eq_true,BEq.rfl,reduceCtorEq,eq_self,ne_eq,Function.comp_def,beq_iff_eq]
    refine awake5 (n := n + 4) (by omega) fun s8 g8 => ?_
    simp only [evf,↓evp,evq,evr,fxa0,fxa1,fxa2,fxa3,fxa4,fxu,fxn,fxl,↓fxp,lgc,absL,fitL,flatL,ares,ares1,ofVal,unSc,aload,afill,splice,abound,asI,elems,IntKind.bits,sortT,eqNil,closedL,allByte,patch,pendOK,numA,Value.cells,Value.oneCell',ibin,List.replicate,Option.elim,Nat.reduceAdd,Nat.reduceSub,Nat.reduceMul,Nat.reduceLT,Nat.reduceEqDiff,Nat.reduceLeDiff,Nat.reduceBEq,Int.reduceLE,Int.reduceLT,Int.reduceToNat,Int.reduceBNe,Int.reduceBEq,Int.reduceNeg,Int.reduceEq,Int.reduceNe,Nat.reduceBNe,Int.reduceAdd,Int.reduceSub,Int.reduceMul,Int.reducePow,Nat.reducePow,Int.reduceGT,Int.reduceGE,if_true,if_false,ite_true,ite_false,beq_self_eq_true,BEq.rfl,reduceCtorEq,eq_self,ne_eq,Function.comp_def,beq_iff_eq]
    exact hK _
  simp only [f0, f5, f7, f8, f14, al, d, r7, dw, dh, evf,↓evp,evq,evr,fxa0,fxa1,fxa2,fxa3,fxa4,fxu,fxn,fxl,↓fxp,lgc,absL,fitL,flatL,ares,ares1,ofVal,unSc,aload,afill,splice,abound,asI,elems,IntKind.bits,sortT,eqNil,closedL,allByte,patch,pendOK,numA,Value.cells,Value.oneCell',ibin,List.replicate,Option.elim,Nat.reduceAdd,Nat.reduceSub,Nat.reduceMul,Nat.reduceLT,Nat.reduceEqDiff,Nat.reduceLeDiff,Nat.reduceBEq,Int.reduceLE,Int.reduceLT,Int.reduceToNat,Int.reduceBNe,Int.reduceBEq,Int.reduceNeg,Int.reduceEq,Int.reduceNe,Nat.reduceBNe,Int.reduceAdd,Int.reduceSub,Int.reduceMul,Int.reducePow,Nat.reducePow,Int.reduceGT,Int.reduceGE,if_true,if_false,ite_true,ite_false,beq_self_eq_true,BEq.rfl,reduceCtorEq,eq_self,ne_eq,Function.comp_def,beq_iff_eq]
  refine o_Within (n := n + 4) rel gd ix7 (by omega) fun yv s8 g8 gl8 => ?_
  have r8 := g8 _ _ r7
  simp only [f0, f5, f7, f8, r7, r8, evf,↓evp,evq,evr,fxa0,fxa1,fxa2,fxa3,fxa4,fxu,fxn,fxl,↓fxp,lgc,absL,fitL,flatL,ares,ares1,ofVal,unSc,aload,afill,splice,abound,asI,elems,IntKind.bits,sortT,eqNil,closedL,allByte,patch,pendOK,numA,Value.cells,Value.oneCell',ibin,List.replicate,Option.elim,Nat.reduceAdd,Nat.reduceSub,Nat.reduceMul,Nat.reduceLT,Nat.reduceEqDiff,Nat.reduceLeDiff,Nat.reduceBEq,Int.reduceLE,Int.reduceLT,Int.reduceToNat,Int.reduceBNe,Int.reduceBEq,Int.reduceNeg,Int.reduceEq,Int.reduceNe,Nat.reduceBNe,Int.reduceAdd,Int.reduceSub,Int.reduceMul,Int.reducePow,Nat.reducePow,Int.reduceGT,Int.reduceGE,if_true,if_false,ite_true,ite_false,beq_self_eq_true,BEq.rfl,reduceCtorEq,eq_self,ne_eq,Function.comp_def,beq_iff_eq]
  refine r_Within (n := n + 5) (m := m) (hy7.grw g8) (by omega) hl fun zv s9 g9 gl9 => ?_
  have rd1 := (gl8.grw g9).rd (P := Try.prog) sz3 (flatMap_len (f := idV) (s := 1) (fun _ => rfl) _)
  have rd2 := gl9.rd (P := Try.prog) sz3 (flatMap_len (f := idV) (s := 1) (fun _ => rfl) _)
  have hw : (L.filter (meetsR x y w h)).length ≤ 256 := Nat.le_trans (List.length_filter_le _ _) hl
  generalize L.filter (meetsR x y w h) = T at rd1 rd2 hw
  have a1 := alen_rd rd1 Try.underlying55
  have a2 := alen_rd rd2 Try.underlying55
  simp only [a1, a2, nn, evf,↓evp,evq,evr,fxa0,fxa1,fxa2,fxa3,fxa4,fxu,fxn,fxl,↓fxp,lgc,absL,fitL,flatL,ares,ares1,ofVal,unSc,aload,afill,splice,abound,asI,elems,IntKind.bits,sortT,eqNil,closedL,allByte,patch,pendOK,numA,Value.cells,Value.oneCell',ibin,List.replicate,Option.elim,Nat.reduceAdd,Nat.reduceSub,Nat.reduceMul,Nat.reduceLT,Nat.reduceEqDiff,Nat.reduceLeDiff,Nat.reduceBEq,Int.reduceLE,Int.reduceLT,Int.reduceToNat,Int.reduceBNe,Int.reduceBEq,Int.reduceNeg,Int.reduceEq,Int.reduceNe,Nat.reduceBNe,Int.reduceAdd,Int.reduceSub,Int.reduceMul,Int.reducePow,Nat.reducePow,Int.reduceGT,Int.reduceGE,if_true,if_false,ite_true,ite_false,beq_self_eq_true,BEq.rfl,reduceCtorEq,eq_self,ne_eq,Function.comp_def,beq_iff_eq]
  refine aloop_forF (fun k f s => ∃ i : Nat, k + i = m ∧ i ≤ T.length ∧ s = s9 ∧ f 19 = yv ∧ f 20 = zv ∧ f 21 = .sc (.int .i64 i))
    ⟨0, by omega, by omega, rfl, by simp only [evf, ne_eq, Nat.reduceEqDiff, Nat.reduceLT, not_false_eq_true], by simp only [evf, ne_eq, Nat.reduceEqDiff, Nat.reduceLT, not_false_eq_true], by simp only [evf, ne_eq, Nat.reduceEqDiff, Nat.reduceLT, not_false_eq_true]; rfl⟩ ?_
  clear hI' I' f0 f5 f7 f8 f14 hil d e3 al hi hk
  rintro I' hI' k f s ⟨i, hk, hi, rfl, f19, f20, f21⟩
  refine ⟨k - 1, by omega, ?_⟩
  have e3 : IntKind.i64.wrap ((i : Int) + 1) = ((i + 1 : Nat) : Int) := by rw [IntWalk.i64_in _ (by omega)]; rfl
  by_cases hil : i < T.length
  · have d : decide ((i : Int) < T.length) = true := decide_eq_true (by omega)
    obtain ⟨p1, p2⟩ := i_at rd1 hil
    obtain ⟨p3, p4⟩ := i_at rd2 hil
    simp only [f19, f20, f21, a1, d, p1, p2, p3, p4, nn, e3, evf,↓evp,evq,evr,fxa0,fxa1,fxa2,fxa3,fxa4,fxu,fxn,fxl,↓fxp,lgc,absL,fitL,flatL,ares,ares1,ofVal,unSc,aload,afill,splice,abound,asI,elems,IntKind.bits,sortT,eqNil,closedL,allByte,patch,pendOK,numA,Value.cells,Value.oneCell',ibin,List.replicate,Option.elim,Nat.reduceAdd,Nat.reduceSub,Nat.reduceMul,Nat.reduceLT,Nat.reduceEqDiff,Nat.reduceLeDiff,Nat.reduceBEq,Int.reduceLE,Int.reduceLT,Int.reduceToNat,Int.reduceBNe,Int.reduceBEq,Int.reduceNeg,Int.reduceEq,Int.reduceNe,Nat.reduceBNe,Int.reduceAdd,Int.reduceSub,Int.reduceMul,Int.reducePow,Nat.reducePow,Int.reduceGT,Int.reduceGE,if_true,if_false,ite_true,ite_false,beq_self_eq_true,BEq.rfl,reduceCtorEq,eq_self,ne_eq,Function.comp_def,beq_iff_eq]
    exact hI' _ _ _ ⟨i + 1, by omega, hil, rfl, by simp only [f19, evf, ne_eq, Nat.reduceEqDiff, Nat.reduceLT, not_false_eq_true], by simp only [f20, evf, ne_eq, Nat.reduceEqDiff, Nat.reduceLT, not_false_eq_true], by simp only [evf, ne_eq, Nat.reduceEqDiff, Nat.reduceLT, not_false_eq_true]⟩
  · have d : decide ((i : Int) < T.length) = false := decide_eq_false (by omega)
    simp only [f19, f20, f21, a1, d, evf,↓evp,evq,evr,fxa0,fxa1,fxa2,fxa3,fxa4,fxu,fxn,fxl,↓fxp,lgc,absL,fitL,flatL,ares,ares1,ofVal,unSc,aload,afill,splice,abound,asI,elems,IntKind.bits,sortT,eqNil,closedL,allByte,patch,pendOK,numA,Value.cells,Value.oneCell',ibin,List.replicate,Option.elim,Nat.reduceAdd,Nat.reduceSub,Nat.reduceMul,Nat.reduceLT,Nat.reduceEqDiff,Nat.reduceLeDiff,Nat.reduceBEq,Int.reduceLE,Int.reduceLT,Int.reduceToNat,Int.reduceBNe,Int.reduceBEq,Int.reduceNeg,Int.reduceEq,Int.reduceNe,Nat.reduceBNe,Int.reduceAdd,Int.reduceSub,Int.reduceMul,Int.reducePow,Nat.reducePow,Int.reduceGT,Int.reduceGE,if_true,if_false,ite_true,ite_false,beq_self_eq_true,BEq.rfl,reduceCtorEq,eq_self,ne_eq,Function.comp_def,beq_iff_eq]
    refine awake5 (n := n + 4) (by omega) fun s8 g8 => ?_
    simp only [evf,↓evp,evq,evr,fxa0,fxa1,fxa2,fxa3,fxa4,fxu,fxn,fxl,↓fxp,lgc,absL,fitL,flatL,ares,ares1,ofVal,unSc,aload,afill,splice,abound,asI,elems,IntKind.bits,sortT,eqNil,closedL,allByte,patch,pendOK,numA,Value.cells,Value.oneCell',ibin,List.replicate,Option.elim,Nat.reduceAdd,Nat.reduceSub,Nat.reduceMul,Nat.reduceLT,Nat.reduceEqDiff,Nat.reduceLeDiff,Nat.reduceBEq,Int.reduceLE,Int.reduceLT,Int.reduceToNat,Int.reduceBNe,Int.reduceBEq,Int.reduceNeg,Int.reduceEq,Int.reduceNe,Nat.reduceBNe,Int.reduceAdd,Int.reduceSub,Int.reduceMul,Int.reducePow,Nat.reducePow,Int.reduceGT,Int.reduceGE,if_true,if_false,ite_true,ite_false,beq_self_eq_true,BEq.rfl,reduceCtorEq,eq_self,ne_eq,Function.comp_def,beq_iff_eq]
    exact hK _
end
end Go.Proofs.Ytgmccnnjpejigaa
