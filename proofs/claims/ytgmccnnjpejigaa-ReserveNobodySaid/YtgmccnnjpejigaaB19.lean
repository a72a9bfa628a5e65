/- Chapter 22: the fixed question. -/
import Derived.Test.YtgmccnnjpejigaaB18
set_option linter.unusedVariables false
set_option linter.unusedSimpArgs false
set_option maxRecDepth 10000
namespace Go.Proofs.Ytgmccnnjpejigaa
open Go Go.M Go.RowKit
attribute [local congr] acallF_cong aloop_cong bcase_cong resK_cong valK_cong wantK_cong callK_cong xputK_cong qputK_cong resM_cong rfK_cong
attribute [local irreducible] seqK blockK loopK nextK bcase resK valK wantK funK putK dputK xputK qputK callK aops aop acode adraw aloop acallF acall invK resM rfK rfEnd rdEnd rdMid around
def usT (i : Nat) : List (Int × V) := [((1 : Int), V.agg (rc 0 0 1 1)), (2, .agg (rc 1 0 1 1))].take i
def osT (i : Nat) : List ((Int × Int) × V) := [(((0 : Int), (0 : Int)), V.sc (.int .i64 1)), ((1, 0), .sc (.int .i64 2))].take i
def LT (i : Nat) : List U := [⟨1, 0, 0, 1, 1⟩, ⟨2, 1, 0, 1, 1⟩].take i
section
variable {n m : Nat} {st s : List Ob} {K : V → List Ob → Prop} {v : V} {x y id : Int}
set_option maxHeartbeats 2000000 in
theorem made2 {rid : Nat} (hm : 4 < m) (hr : st[rid]? = some (.row 130 (V.sc (.int .i64 1) :: rc 0 0 1 1 ++ V.sc (.int .i64 2) :: rc 1 0 1 1) 2 0 false))
    (hK : ∀ s ix a b tb u c z, a ≠ b → u ≠ c → st.length ≤ u → st.length ≤ c → Ix s ix a b (usT 2) (osT 2) → Tb s tb ix u c [] [] → Grw st s → K (.tup [.ref ix 0, .ref tb 0, .ref z 0]) s) : acallF Try.prog pl (n + 8) m 42 [.sl rid 0 2 false] st K := by
  refine acallF_inF Try.func42 rfl Try.ntmps42 (by simp) ?_
  simp only [evf,↓evp,evq,evr,fxa0,fxa1,fxa2,fxa3,fxa4,fxu,fxn,fxl,↓fxp,lgc,absL,fitL,flatL,ares,ares1,ofVal,unSc,aload,afill,splice,abound,asI,elems,IntKind.bits,sortT,eqNil,closedL,allByte,patch,pendOK,numA,Value.cells,Value.oneCell',ibin,List.replicate,Option.elim,Nat.reduceAdd,Nat.reduceSub,Nat.reduceMul,Nat.reduceLT,Nat.reduceEqDiff,Nat.reduceLeDiff,Nat.reduceBEq,Int.reduceLE,Int.reduceLT,Int.reduceToNat,Int.reduceBNe,Int.reduceBEq,Int.reduceNeg,Int.reduceEq,Int.reduceNe,Nat.reduceBNe,Int.reduceAdd,Int.reduceSub,Int.reduceMul,Int.reducePow,Nat.reducePow,Int.reduceGT,Int.reduceGE,if_true,if_false,ite_true,ite_false,beq_self_eq_true,BEq.rfl,reduceCtorEq,eq_self,ne_eq,Function.comp_def,beq_iff_eq]
  refine o_New (n := n + 6) fun s1 i1 g1 => ?_
  have y1 : (s1 ++ [Ob.cells [V.tsl [] 0 true true]])[s1.length]? = some (.cells [V.tsl [] 0 true true]) := get_new0 _ _
  have h1 := i1.grw (Grw.push s1 [Ob.cells [V.tsl [] 0 true true]])
  have g2 := g1.push' [Ob.cells [V.tsl [] 0 true true]]
  have ny : st.length < s1.length := by
    have := (List.getElem?_eq_some_iff.1 i1.ix).1
    omega
  simp only [evf,↓evp,evq,evr,fxa0,fxa1,fxa2,fxa3,fxa4,fxu,fxn,fxl,↓fxp,lgc,absL,fitL,flatL,ares,ares1,ofVal,unSc,aload,afill,splice,abound,asI,elems,IntKind.bits,sortT,eqNil,closedL,allByte,patch,pendOK,numA,Value.cells,Value.oneCell',ibin,List.replicate,Option.elim,Nat.reduceAdd,Nat.reduceSub,Nat.reduceMul,Nat.reduceLT,Nat.reduceEqDiff,Nat.reduceLeDiff,Nat.reduceBEq,Int.reduceLE,Int.reduceLT,Int.reduceToNat,Int.reduceBNe,Int.reduceBEq,Int.reduceNeg,Int.reduceEq,Int.reduceNe,Nat.reduceBNe,Int.reduceAdd,Int.reduceSub,Int.reduceMul,Int.reducePow,Nat.reducePow,Int.reduceGT,Int.reduceGE,if_true,if_false,ite_true,ite_false,beq_self_eq_true,BEq.rfl,reduceCtorEq,eq_self,ne_eq,Function.comp_def,beq_iff_eq]
  generalize (s1 ++ [Ob.cells [V.tsl [] 0 true true]]) = s2 at y1 h1 g2
  have r2 : Ri s2 s1.length (V.tsl [] 0 true true) (LT 0) := ⟨y1, ⟨rfl, ⟨fun b hb => (by cases hb), fun _ => rfl⟩, fun _ _ => by simp [LT]⟩, .inl ⟨_, _, _, _, rfl⟩, fun _ => rfl⟩
  refine aloop_forF (fun k f s => ∃ (i : Nat) (sv : V), k + i = m ∧ i ≤ 2 ∧ Grw st s ∧ Ix s (st.length + 2) st.length (st.length + 1) (usT i) (osT i) ∧ Ri s s1.length sv (LT i) ∧
    f 0 = .sl rid 0 2 false ∧ f 5 = .ref (st.length + 2) 0 ∧ f 6 = .ref s1.length 0 ∧ f 7 = .sc (.int .i64 i)) ⟨0, _, by omega, by omega, g2, h1, r2, by simp only [evf, ne_eq, Nat.reduceEqDiff, Nat.reduceLT, not_false_eq_true], by simp only [evf, ne_eq, Nat.reduceEqDiff, Nat.reduceLT, not_false_eq_true], by simp only [evf, ne_eq, Nat.reduceEqDiff, Nat.reduceLT, not_false_eq_true], by simp only [evf, ne_eq, Nat.reduceEqDiff, Nat.reduceLT, not_false_eq_true]; rfl⟩ ?_
  rintro I' hI' k f s ⟨i, sv, hk, hi, hg, hx, hy, f0, f5, f6, f7⟩
  refine ⟨k - 1, by omega, ?_⟩
  have hab : st.length ≠ st.length + 1 := by omega
  have row := hg _ _ hr
  simp only [rc, List.cons_append, List.nil_append] at row
  have fr1 : ∀ s', Kp st.length (st.length + 1) s s' → Grw st s' := fun s' h j o hj => by
    have lj : j < st.length := (List.getElem?_eq_some_iff.1 hj).1
    exact h _ _ (by omega) (by omega) (hg _ _ hj)
  have fr2 : ∀ s' s'', Grw st s' → (∀ j o, j ≠ s1.length → s'[j]? = some o → s''[j]? = some o) → Grw st s'' := fun s' s'' h h' j o hj => by
    have lj : j < st.length := (List.getElem?_eq_some_iff.1 hj).1
    exact h' _ _ (by omega) (h _ _ hj)
  have wr1 : IntKind.i64.wrap 1 = 1 := by decide
  rcases (by omega : i = 0 ∨ i = 1 ∨ i = 2) with rfl | rfl | rfl
  · simp only [f0, f5, f6, f7, row, evf,↓evp,evq,evr,fxa0,fxa1,fxa2,fxa3,fxa4,fxu,fxn,fxl,↓fxp,lgc,absL,fitL,flatL,ares,ares1,ofVal,unSc,aload,afill,splice,abound,asI,elems,IntKind.bits,sortT,eqNil,closedL,allByte,patch,pendOK,numA,Value.cells,Value.oneCell',ibin,List.replicate,Option.elim,Nat.reduceAdd,Nat.reduceSub,Nat.reduceMul,Nat.reduceLT,Nat.reduceEqDiff,Nat.reduceLeDiff,Nat.reduceBEq,Int.reduceLE,Int.reduceLT,Int.reduceToNat,Int.reduceBNe,Int.reduceBEq,Int.reduceNeg,Int.reduceEq,Int.reduceNe,Nat.reduceBNe,Int.reduceAdd,Int.reduceSub,Int.reduceMul,Int.reducePow,Nat.reducePow,Int.reduceGT,Int.reduceGE,if_true,if_false,ite_true,ite_false,beq_self_eq_true,BEq.rfl,reduceCtorEq,eq_self,ne_eq,Function.comp_def,beq_iff_eq]
    refine o_Put1 (n := n + 1) (x := 0) (y := 0) (W := 1) (H := 1) (id := 1) hx hab (by decide) rfl (by decide) (by decide) (by decide) hm (fun j i _ _ => rfl) fun s3 h3 k3 => ?_
    have km := kp_km k3 hx.us hx.os
    have row3 := (fr1 _ k3) _ _ hr
    simp only [rc, List.cons_append, List.nil_append] at row3
    simp only [f0, f5, f6, f7, row3, evf,↓evp,evq,evr,fxa0,fxa1,fxa2,fxa3,fxa4,fxu,fxn,fxl,↓fxp,lgc,absL,fitL,flatL,ares,ares1,ofVal,unSc,aload,afill,splice,abound,asI,elems,IntKind.bits,sortT,eqNil,closedL,allByte,patch,pendOK,numA,Value.cells,Value.oneCell',ibin,List.replicate,Option.elim,Nat.reduceAdd,Nat.reduceSub,Nat.reduceMul,Nat.reduceLT,Nat.reduceEqDiff,Nat.reduceLeDiff,Nat.reduceBEq,Int.reduceLE,Int.reduceLT,Int.reduceToNat,Int.reduceBNe,Int.reduceBEq,Int.reduceNeg,Int.reduceEq,Int.reduceNe,Nat.reduceBNe,Int.reduceAdd,Int.reduceSub,Int.reduceMul,Int.reducePow,Nat.reducePow,Int.reduceGT,Int.reduceGE,if_true,if_false,ite_true,ite_false,beq_self_eq_true,BEq.rfl,reduceCtorEq,eq_self,ne_eq,Function.comp_def,beq_iff_eq]
    refine r_Put (n := n) (x := 0) (y := 0) (w := 1) (h := 1) (id := 1) (hy.km km) (by show (0 : Nat) < m; omega) (by decide) (fun e => absurd e (by decide)) (fun _ _ _ e => absurd e (by decide)) (fun _ _ _ _ e => absurd e (by decide)) (fun _ _ _ _ _ e => absurd e (by decide)) fun _ _ _ _ _ _ sv' s4 h4 k4 => ?_
    have row4 := (fr2 _ _ (fr1 _ k3) k4) _ _ hr
    simp only [rc, List.cons_append, List.nil_append] at row4
    simp only [f0, f5, f6, f7, row4, evf,↓evp,evq,evr,fxa0,fxa1,fxa2,fxa3,fxa4,fxu,fxn,fxl,↓fxp,lgc,absL,fitL,flatL,ares,ares1,ofVal,unSc,aload,afill,splice,abound,asI,elems,IntKind.bits,sortT,eqNil,closedL,allByte,patch,pendOK,numA,Value.cells,Value.oneCell',ibin,List.replicate,Option.elim,Nat.reduceAdd,Nat.reduceSub,Nat.reduceMul,Nat.reduceLT,Nat.reduceEqDiff,Nat.reduceLeDiff,Nat.reduceBEq,Int.reduceLE,Int.reduceLT,Int.reduceToNat,Int.reduceBNe,Int.reduceBEq,Int.reduceNeg,Int.reduceEq,Int.reduceNe,Nat.reduceBNe,Int.reduceAdd,Int.reduceSub,Int.reduceMul,Int.reducePow,Nat.reducePow,Int.reduceGT,Int.reduceGE,if_true,if_false,ite_true,ite_false,beq_self_eq_true,BEq.rfl,reduceCtorEq,eq_self,ne_eq,Function.comp_def,beq_iff_eq]
    exact hI' _ _ _ ⟨1, sv', by omega, by omega, fr2 _ _ (fr1 _ k3) k4, h3.fr (hy.km km).at_ k4, h4, by simp only [f0, evf, ne_eq, Nat.reduceEqDiff, Nat.reduceLT, not_false_eq_true], by simp only [f5, evf, ne_eq, Nat.reduceEqDiff, Nat.reduceLT, not_false_eq_true], by simp only [f6, evf, ne_eq, Nat.reduceEqDiff, Nat.reduceLT, not_false_eq_true], by simp only [evf, ne_eq, Nat.reduceEqDiff, Nat.reduceLT, not_false_eq_true]; rfl⟩
  · simp only [f0, f5, f6, f7, row, evf,↓evp,evq,evr,fxa0,fxa1,fxa2,fxa3,fxa4,fxu,fxn,fxl,↓fxp,lgc,absL,fitL,flatL,ares,ares1,ofVal,unSc,aload,afill,splice,abound,asI,elems,IntKind.bits,sortT,eqNil,closedL,allByte,patch,pendOK,numA,Value.cells,Value.oneCell',ibin,List.replicate,Option.elim,Nat.reduceAdd,Nat.reduceSub,Nat.reduceMul,Nat.reduceLT,Nat.reduceEqDiff,Nat.reduceLeDiff,Nat.reduceBEq,Int.reduceLE,Int.reduceLT,Int.reduceToNat,Int.reduceBNe,Int.reduceBEq,Int.reduceNeg,Int.reduceEq,Int.reduceNe,Nat.reduceBNe,Int.reduceAdd,Int.reduceSub,Int.reduceMul,Int.reducePow,Nat.reducePow,Int.reduceGT,Int.reduceGE,if_true,if_false,ite_true,ite_false,beq_self_eq_true,BEq.rfl,reduceCtorEq,eq_self,ne_eq,Function.comp_def,beq_iff_eq]
    refine o_Put1 (n := n + 1) (x := 1) (y := 0) (W := 1) (H := 1) (id := 2) hx hab (by decide) (by decide) (by decide) (by decide) (by decide) hm (fun j i hj hi => by
      obtain rfl : j = 0 := by omega
      obtain rfl : i = 0 := by omega
      rfl) fun s3 h3 k3 => ?_
    have km := kp_km k3 hx.us hx.os
    have row3 := (fr1 _ k3) _ _ hr
    simp only [rc, List.cons_append, List.nil_append] at row3
    simp only [f0, f5, f6, f7, row3, evf,↓evp,evq,evr,fxa0,fxa1,fxa2,fxa3,fxa4,fxu,fxn,fxl,↓fxp,lgc,absL,fitL,flatL,ares,ares1,ofVal,unSc,aload,afill,splice,abound,asI,elems,IntKind.bits,sortT,eqNil,closedL,allByte,patch,pendOK,numA,Value.cells,Value.oneCell',ibin,List.replicate,Option.elim,Nat.reduceAdd,Nat.reduceSub,Nat.reduceMul,Nat.reduceLT,Nat.reduceEqDiff,Nat.reduceLeDiff,Nat.reduceBEq,Int.reduceLE,Int.reduceLT,Int.reduceToNat,Int.reduceBNe,Int.reduceBEq,Int.reduceNeg,Int.reduceEq,Int.reduceNe,Nat.reduceBNe,Int.reduceAdd,Int.reduceSub,Int.reduceMul,Int.reducePow,Nat.reducePow,Int.reduceGT,Int.reduceGE,if_true,if_false,ite_true,ite_false,beq_self_eq_true,BEq.rfl,reduceCtorEq,eq_self,ne_eq,Function.comp_def,beq_iff_eq]
    refine r_Put (n := n) (x := 1) (y := 0) (w := 1) (h := 1) (id := 2) (hy.km km) (by show (1 : Nat) < m; omega) (by decide) (fun e => absurd e (by decide)) (fun _ _ _ e => absurd e (by decide)) (fun _ _ _ _ e => absurd e (by decide)) (fun _ _ _ _ _ e => absurd e (by decide)) fun _ _ _ _ _ _ sv' s4 h4 k4 => ?_
    have row4 := (fr2 _ _ (fr1 _ k3) k4) _ _ hr
    simp only [rc, List.cons_append, List.nil_append] at row4
    simp only [f0, f5, f6, f7, row4, evf,↓evp,evq,evr,fxa0,fxa1,fxa2,fxa3,fxa4,fxu,fxn,fxl,↓fxp,lgc,absL,fitL,flatL,ares,ares1,ofVal,unSc,aload,afill,splice,abound,asI,elems,IntKind.bits,sortT,eqNil,closedL,allByte,patch,pendOK,numA,Value.cells,Value.oneCell',ibin,List.replicate,Option.elim,Nat.reduceAdd,Nat.reduceSub,Nat.reduceMul,Nat.reduceLT,Nat.reduceEqDiff,Nat.reduceLeDiff,Nat.reduceBEq,Int.reduceLE,Int.reduceLT,Int.reduceToNat,Int.reduceBNe,Int.reduceBEq,Int.reduceNeg,Int.reduceEq,Int.reduceNe,Nat.reduceBNe,Int.reduceAdd,Int.reduceSub,Int.reduceMul,Int.reducePow,Nat.reducePow,Int.reduceGT,Int.reduceGE,if_true,if_false,ite_true,ite_false,beq_self_eq_true,BEq.rfl,reduceCtorEq,eq_self,ne_eq,Function.comp_def,beq_iff_eq]
    exact hI' _ _ _ ⟨2, sv', by omega, by omega, fr2 _ _ (fr1 _ k3) k4, h3.fr (hy.km km).at_ k4, h4, by simp only [f0, evf, ne_eq, Nat.reduceEqDiff, Nat.reduceLT, not_false_eq_true], by simp only [f5, evf, ne_eq, Nat.reduceEqDiff, Nat.reduceLT, not_false_eq_true], by simp only [f6, evf, ne_eq, Nat.reduceEqDiff, Nat.reduceLT, not_false_eq_true], by simp only [evf, ne_eq, Nat.reduceEqDiff, Nat.reduceLT, not_false_eq_true]; rfl⟩
  · simp only [f0, f5, f6, f7, row, evf,↓evp,evq,evr,fxa0,fxa1,fxa2,fxa3,fxa4,fxu,fxn,fxl,↓fxp,lgc,absL,fitL,flatL,ares,ares1,ofVal,unSc,aload,afill,splice,abound,asI,elems,IntKind.bits,sortT,eqNil,closedL,allByte,patch,pendOK,numA,Value.cells,Value.oneCell',ibin,List.replicate,Option.elim,Nat.reduceAdd,Nat.reduceSub,Nat.reduceMul,Nat.reduceLT,Nat.reduceEqDiff,Nat.reduceLeDiff,Nat.reduceBEq,Int.reduceLE,Int.reduceLT,Int.reduceToNat,Int.reduceBNe,Int.reduceBEq,Int.reduceNeg,Int.reduceEq,Int.reduceNe,Nat.reduceBNe,Int.reduceAdd,Int.reduceSub,Int.reduceMul,Int.reducePow,Nat.reducePow,Int.reduceGT,Int.reduceGE,if_true,if_false,ite_true,ite_false,beq_self_eq_true,BEq.rfl,reduceCtorEq,eq_self,ne_eq,Function.comp_def,beq_iff_eq]
    refine t_New (n := n + 6) fun s3 h3 g3 => ?_
    simp only [f0, f5, f6, f7, evf,↓evp,evq,evr,fxa0,fxa1,fxa2,fxa3,fxa4,fxu,fxn,fxl,↓fxp,lgc,absL,fitL,flatL,ares,ares1,ofVal,unSc,aload,afill,splice,abound,asI,elems,IntKind.bits,sortT,eqNil,closedL,allByte,patch,pendOK,numA,Value.cells,Value.oneCell',ibin,List.replicate,Option.elim,Nat.reduceAdd,Nat.reduceSub,Nat.reduceMul,Nat.reduceLT,Nat.reduceEqDiff,Nat.reduceLeDiff,Nat.reduceBEq,Int.reduceLE,Int.reduceLT,Int.reduceToNat,Int.reduceBNe,Int.reduceBEq,Int.reduceNeg,Int.reduceEq,Int.reduceNe,Nat.reduceBNe,Int.reduceAdd,Int.reduceSub,Int.reduceMul,Int.reducePow,Nat.reducePow,Int.reduceGT,Int.reduceGE,if_true,if_false,ite_true,ite_false,beq_self_eq_true,BEq.rfl,reduceCtorEq,eq_self,ne_eq,Function.comp_def,beq_iff_eq]
    exact hK _ _ _ _ _ _ _ _ hab (by omega) hg.le (by have := hg.le; omega) ((hx.grw g3).grw (.push _ _)) (h3.grw (.push _ _)) ((hg.trans g3).push' _)
end
end Go.Proofs.Ytgmccnnjpejigaa
