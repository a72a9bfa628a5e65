/- Chapter 4: the fixed question. -/
import Derived.Test.YtndjhaeeldegfaaG10
import Derived.Test.YtndjhaeeldegfaaE1
set_option linter.unusedVariables false
set_option linter.unusedSimpArgs false
set_option maxRecDepth 10000
namespace Go.Proofs.Ytndjhaeeldegfaa
open Go Go.M Go.RowKit
attribute [local congr] acallF_cong aloop_cong bcase_cong resK_cong valK_cong wantK_cong callK_cong xputK_cong qputK_cong resM_cong rfK_cong
attribute [local irreducible] seqK blockK loopK nextK bcase resK valK wantK funK putK dputK xputK qputK callK aops aop acode adraw aloop acallF acall invK resM rfK rfEnd rdEnd rdMid around
section
variable {n m : Nat} {st s : List Ob} {K : V → List Ob → Prop}
set_option maxHeartbeats 2000000 in
theorem awake4 (hm : 300 < m) (hK : ∀ s, Grw st s → K (.sc (.bool true)) s) : acallF Try.prog pl (n + 10) m 29 [] st K := by
  refine acallF_inF Try.func29 rfl rfl Try.ntmps29 (by simp) ?_
  simp only [evf,↓evp,evq,evr,fxa0,fxa1,fxa2,fxa3,fxa4,fxu,fxn,fxl,↓fxp,lgc,absL,fitL,flatL,ares,ares1,ofVal,unSc,aload,afill,splice,abound,asI,elems,IntKind.bits,sortT,eqNil,closedL,allByte,patch,pendOK,numA,Value.cells,Value.oneCell',ibin,List.replicate,Option.elim,Nat.reduceAdd,Nat.reduceSub,Nat.reduceMul,Nat.reduceLT,Nat.reduceEqDiff,Nat.reduceLeDiff,Nat.reduceBEq,Int.reduceLE,Int.reduceLT,Int.reduceToNat,Int.reduceBNe,Int.reduceBEq,Int.reduceNeg,Int.reduceEq,Int.reduceNe,Nat.reduceBNe,Int.reduceAdd,Int.reduceSub,Int.reduceMul,Int.reducePow,Nat.reducePow,Int.reduceGT,Int.reduceGE,if_true,if_false,ite_true,ite_false,beq_self_eq_true,BEq.rfl,reduceCtorEq,eq_self,ne_eq,Function.comp_def,beq_iff_eq]
  obtain ⟨S, hS⟩ : ∃ S, S = st ++ [Ob.row 5 (bs (List.replicate 12 0)) 12 0 false] := ⟨_, rfl⟩
  have g0 : Grw st S := by rw [hS]; exact .push _ _
  have gl : Gl S 5 (.sl st.length 0 12 false 12) (bs (List.replicate 12 0)) 12 := .inr ⟨_, 0, rfl, by rw [hS]; exact get_new0 _ _, Nat.zero_le _⟩
  have rd := gl.rd sz5 (by rfl)
  have nl : Gl S 90 (.tsl [] 0 true true) (([] : List B4).flatMap B4.v) 0 := .inl ⟨rfl, rfl, rfl⟩
  have rdb := nl.rd sz90 (by rfl)
  simp only [bs, List.replicate, List.map_cons, List.map_nil] at hS
  simp only [List.flatten_cons, List.flatten_nil, List.cons_append, List.nil_append]
  rw [← hS]
  refine w_New (n := n) (WW := 4) (HH := 3) (T := List.replicate 12 0) (L := []) rd rdb ⟨rfl, rfl⟩ ⟨rfl, rfl⟩ hm (by simp; omega) (fun t ht => by have := List.eq_of_mem_replicate ht; omega) (fun h => absurd h (by decide)) fun _ wd a b tv us os s1 hg w1 g1 lwd la lb ltv => ?_
  cases hg
  simp only [evf,↓evp,evq,evr,fxa0,fxa1,fxa2,fxa3,fxa4,fxu,fxn,fxl,↓fxp,lgc,absL,fitL,flatL,ares,ares1,ofVal,unSc,aload,afill,splice,abound,asI,elems,IntKind.bits,sortT,eqNil,closedL,allByte,patch,pendOK,numA,Value.cells,Value.oneCell',ibin,List.replicate,Option.elim,Nat.reduceAdd,Nat.reduceSub,Nat.reduceMul,Nat.reduceLT,Nat.reduceEqDiff,Nat.reduceLeDiff,Nat.reduceBEq,Int.reduceLE,Int.reduceLT,Int.reduceToNat,Int.reduceBNe,Int.reduceBEq,Int.reduceNeg,Int.reduceEq,Int.reduceNe,Nat.reduceBNe,Int.reduceAdd,Int.reduceSub,Int.reduceMul,Int.reducePow,Nat.reducePow,Int.reduceGT,Int.reduceGE,if_true,if_false,ite_true,ite_false,beq_self_eq_true,BEq.rfl,reduceCtorEq,eq_self,ne_eq,Function.comp_def,beq_iff_eq]
  refine w_Place1 (n := n + 1) (x := 1) (y := 1) (w := 2) (h := 2) (id := 7) w1 (by simp) (by simp) (by omega) (fun h => absurd (by decide) h) fun _ dv s2 w2 k2 _ => ?_
  simp only [evf,↓evp,evq,evr,fxa0,fxa1,fxa2,fxa3,fxa4,fxu,fxn,fxl,↓fxp,lgc,absL,fitL,flatL,ares,ares1,ofVal,unSc,aload,afill,splice,abound,asI,elems,IntKind.bits,sortT,eqNil,closedL,allByte,patch,pendOK,numA,Value.cells,Value.oneCell',ibin,List.replicate,Option.elim,Nat.reduceAdd,Nat.reduceSub,Nat.reduceMul,Nat.reduceLT,Nat.reduceEqDiff,Nat.reduceLeDiff,Nat.reduceBEq,Int.reduceLE,Int.reduceLT,Int.reduceToNat,Int.reduceBNe,Int.reduceBEq,Int.reduceNeg,Int.reduceEq,Int.reduceNe,Nat.reduceBNe,Int.reduceAdd,Int.reduceSub,Int.reduceMul,Int.reducePow,Nat.reducePow,Int.reduceGT,Int.reduceGE,if_true,if_false,ite_true,ite_false,beq_self_eq_true,BEq.rfl,reduceCtorEq,eq_self,ne_eq,Function.comp_def,beq_iff_eq]
  refine w_At1 (n := n + 7) w2.wd fun s3 g3 => ?_
  simp only [show getC (2, 2) (fillC (V.sc (Value.int IntKind.i64 7)) 1 1 2 [] 4) = some (.sc (.int .i64 7)) from by rfl, evf,↓evp,evq,evr,fxa0,fxa1,fxa2,fxa3,fxa4,fxu,fxn,fxl,↓fxp,lgc,absL,fitL,flatL,ares,ares1,ofVal,unSc,aload,afill,splice,abound,asI,elems,IntKind.bits,sortT,eqNil,closedL,allByte,patch,pendOK,numA,Value.cells,Value.oneCell',ibin,List.replicate,Option.elim,Nat.reduceAdd,Nat.reduceSub,Nat.reduceMul,Nat.reduceLT,Nat.reduceEqDiff,Nat.reduceLeDiff,Nat.reduceBEq,Int.reduceLE,Int.reduceLT,Int.reduceToNat,Int.reduceBNe,Int.reduceBEq,Int.reduceNeg,Int.reduceEq,Int.reduceNe,Nat.reduceBNe,Int.reduceAdd,Int.reduceSub,Int.reduceMul,Int.reducePow,Nat.reducePow,Int.reduceGT,Int.reduceGE,if_true,if_false,ite_true,ite_false,beq_self_eq_true,BEq.rfl,reduceCtorEq,eq_self,ne_eq,Function.comp_def,beq_iff_eq]
  refine w_Epoch1 (n := n + 7) (w2.grw g3) ?_
  simp only [List.nil_append, evf,↓evp,evq,evr,fxa0,fxa1,fxa2,fxa3,fxa4,fxu,fxn,fxl,↓fxp,lgc,absL,fitL,flatL,ares,ares1,ofVal,unSc,aload,afill,splice,abound,asI,elems,IntKind.bits,sortT,eqNil,closedL,allByte,patch,pendOK,numA,Value.cells,Value.oneCell',ibin,List.replicate,Option.elim,Nat.reduceAdd,Nat.reduceSub,Nat.reduceMul,Nat.reduceLT,Nat.reduceEqDiff,Nat.reduceLeDiff,Nat.reduceBEq,Int.reduceLE,Int.reduceLT,Int.reduceToNat,Int.reduceBNe,Int.reduceBEq,Int.reduceNeg,Int.reduceEq,Int.reduceNe,Nat.reduceBNe,Int.reduceAdd,Int.reduceSub,Int.reduceMul,Int.reducePow,Nat.reducePow,Int.reduceGT,Int.reduceGE,if_true,if_false,ite_true,ite_false,beq_self_eq_true,BEq.rfl,reduceCtorEq,eq_self,ne_eq,Function.comp_def,beq_iff_eq]
  refine hK _ ?_
  intro j o h
  have lj : j < st.length := (List.getElem?_eq_some_iff.1 h).1
  have lS := g0.le
  exact g3 _ _ (k2.2 _ _ (by omega) (by omega) (by omega) (fun hh => by cases hh) (g1 _ _ (g0 _ _ h)))
end
end Go.Proofs.Ytndjhaeeldegfaa
