/- Chapter 4: a world as a map; maps compared. -/
import Derived.Test.YtndjhaeeldegfaaG27
import Derived.Test.YtndjhaeeldegfaaE1
set_option linter.unusedVariables false
set_option linter.unusedSimpArgs false
set_option maxRecDepth 10000
namespace Go.Proofs.Ytndjhaeeldegfaa
open Go Go.M Go.RowKit
attribute [local congr] acallF_cong aloop_cong bcase_cong resK_cong valK_cong wantK_cong callK_cong xputK_cong qputK_cong resM_cong rfK_cong
attribute [local irreducible] seqK blockK loopK nextK bcase resK valK wantK funK putK dputK xputK qputK callK aops aop acode adraw aloop acallF acall invK resM rfK rfEnd rdEnd rdMid around
section
variable {n m : Nat} {st s : List Ob} {K : V → List Ob → Prop} {wd a b rd : Nat} {WW HH : Int} {T : List Int} {tv tv2 dv bv ev : V} {us : List (Int × V)} {os : List ((Int × Int) × V)} {L : List B4} {ds : List R4}
theorem w_BldF (hK : K (.fn (.func 78) [.ref st.length 0]) (st ++ [.cells [.ref wd 0]])) : acallF Try.prog pl (n + 1) m 50 [.ref wd 0] st K := by
  refine acallF_inF Try.func50 rfl rfl Try.ntmps50 (by simp) ?_
  simp only [evf,↓evp,evq,evr,fxa0,fxa1,fxa2,fxa3,fxa4,fxu,fxn,fxl,↓fxp,lgc,absL,fitL,flatL,ares,ares1,ofVal,unSc,aload,afill,splice,abound,asI,elems,IntKind.bits,sortT,eqNil,closedL,allByte,patch,pendOK,numA,Value.cells,Value.oneCell',ibin,List.replicate,Option.elim,Nat.reduceAdd,Nat.reduceSub,Nat.reduceMul,Nat.reduceLT,Nat.reduceEqDiff,Nat.reduceLeDiff,Nat.reduceBEq,Int.reduceLE,Int.reduceLT,Int.reduceToNat,Int.reduceBNe,Int.reduceBEq,Int.reduceNeg,Int.reduceEq,Int.reduceNe,Nat.reduceBNe,Int.reduceAdd,Int.reduceSub,Int.reduceMul,Int.reducePow,Nat.reducePow,Int.reduceGT,Int.reduceGE,if_true,if_false,ite_true,ite_false,beq_self_eq_true,BEq.rfl,reduceCtorEq,eq_self,ne_eq,Function.comp_def,beq_iff_eq]
  exact hK
set_option maxHeartbeats 4000000 in
theorem w_Map1 (hi : Wg st wd a b WW HH tv dv (bs T) us os ds) (hr : Rel WW HH us os L) (hs : Srt L) (hl : L.length ≤ 256) (hm : 300 < m) (hT : T.length ≤ 4000000000000)
    (hK : ∀ tv' bv' s, Gl s 5 tv' (bs T) T.length → Gl s 90 bv' (L.flatMap B4.v) L.length → (∀ j, rowOf tv' = some j → st.length ≤ j) → (∀ j, rowOf bv' = some j → st.length ≤ j) → Grw st s → K (.agg (mp WW HH tv' bv')) s) :
    acallF Try.prog pl (n + 7) m 40 [.ref wd 0] st K := by
  refine acallF_inF Try.func40 rfl rfl Try.ntmps40 (by simp) ?_
  obtain ⟨s1, hs1⟩ : ∃ s1, s1 = st ++ [Ob.cells (mp 0 0 (.tsl [] 0 true true) (.tsl [] 0 true true))] := ⟨_, rfl⟩
  have g1 : Grw st s1 := by rw [hs1]; exact .push _ _
  have c1 : s1[st.length]? = some (.cells (mp 0 0 (.tsl [] 0 true true) (.tsl [] 0 true true))) := by rw [hs1]; exact get_new0 _ _
  simp only [mp] at hs1 c1
  simp only [evf,↓evp,evq,evr,fxa0,fxa1,fxa2,fxa3,fxa4,fxu,fxn,fxl,↓fxp,lgc,absL,fitL,flatL,ares,ares1,ofVal,unSc,aload,afill,splice,abound,asI,elems,IntKind.bits,sortT,eqNil,closedL,allByte,patch,pendOK,numA,Value.cells,Value.oneCell',ibin,List.replicate,Option.elim,Nat.reduceAdd,Nat.reduceSub,Nat.reduceMul,Nat.reduceLT,Nat.reduceEqDiff,Nat.reduceLeDiff,Nat.reduceBEq,Int.reduceLE,Int.reduceLT,Int.reduceToNat,Int.reduceBNe,Int.reduceBEq,Int.reduceNeg,Int.reduceEq,Int.reduceNe,Nat.reduceBNe,Int.reduceAdd,Int.reduceSub,Int.reduceMul,Int.reducePow,Nat.reducePow,Int.reduceGT,Int.reduceGE,if_true,if_false,ite_true,ite_false,beq_self_eq_true,BEq.rfl,reduceCtorEq,eq_self,ne_eq,Function.comp_def,beq_iff_eq]
  rw [← hs1]
  refine w_is1 (n := n + 5) (hi.wd.grw g1) ?_
  have hi1 := hi.grw g1
  have w1 := hi1.wd.w
  have tl1 := hi1.tl
  rw [bs_len] at tl1
  simp only [w1, c1, evf,↓evp,evq,evr,fxa0,fxa1,fxa2,fxa3,fxa4,fxu,fxn,fxl,↓fxp,lgc,absL,fitL,flatL,ares,ares1,ofVal,unSc,aload,afill,splice,abound,asI,elems,IntKind.bits,sortT,eqNil,closedL,allByte,patch,pendOK,numA,Value.cells,Value.oneCell',ibin,List.replicate,Option.elim,Nat.reduceAdd,Nat.reduceSub,Nat.reduceMul,Nat.reduceLT,Nat.reduceEqDiff,Nat.reduceLeDiff,Nat.reduceBEq,Int.reduceLE,Int.reduceLT,Int.reduceToNat,Int.reduceBNe,Int.reduceBEq,Int.reduceNeg,Int.reduceEq,Int.reduceNe,Nat.reduceBNe,Int.reduceAdd,Int.reduceSub,Int.reduceMul,Int.reducePow,Nat.reducePow,Int.reduceGT,Int.reduceGE,if_true,if_false,ite_true,ite_false,beq_self_eq_true,BEq.rfl,reduceCtorEq,eq_self,ne_eq,Function.comp_def,beq_iff_eq]
  refine c_cloneB (n := n + 5) (tl1.rd sz5 (by rw [bs_len]; omega)) (closed_bs _) hT fun tv' s2 gt2 g2 nt2 => ?_
  have hi2 := hi1.grw g2
  have w2 := hi2.wd.w
  have c2 := g2 _ _ c1
  obtain ⟨o1, o2⟩ := gt2.one
  simp only [w1, c1, w2, c2, g2, evf,↓evp,evq,evr,fxa0,fxa1,fxa2,fxa3,fxa4,fxu,fxn,fxl,↓fxp,lgc,absL,fitL,flatL,ares,ares1,ofVal,unSc,aload,afill,splice,abound,asI,elems,IntKind.bits,sortT,eqNil,closedL,allByte,patch,pendOK,numA,Value.cells,Value.oneCell',ibin,List.replicate,Option.elim,Nat.reduceAdd,Nat.reduceSub,Nat.reduceMul,Nat.reduceLT,Nat.reduceEqDiff,Nat.reduceLeDiff,Nat.reduceBEq,Int.reduceLE,Int.reduceLT,Int.reduceToNat,Int.reduceBNe,Int.reduceBEq,Int.reduceNeg,Int.reduceEq,Int.reduceNe,Nat.reduceBNe,Int.reduceAdd,Int.reduceSub,Int.reduceMul,Int.reducePow,Nat.reducePow,Int.reduceGT,Int.reduceGE,if_true,if_false,ite_true,ite_false,beq_self_eq_true,BEq.rfl,reduceCtorEq,eq_self,ne_eq,Function.comp_def,beq_iff_eq]
  refine w_BldF (n := n + 5) ?_
  obtain ⟨s3, hs3⟩ : ∃ s3, s3 = s2 ++ [Ob.cells [.ref wd 0]] := ⟨_, rfl⟩
  have g3 : Grw s2 s3 := by rw [hs3]; exact .push _ _
  have c3' : s3[s2.length]? = some (.cells [.ref wd 0]) := by rw [hs3]; exact get_new0 _ _
  have hi3 := hi2.grw g3
  have w3 := hi3.wd.w
  have c3 := g3 _ _ c2
  rw [← hs3]
  simp only [w1, c1, w2, c2, w3, c3, g2, g3, evf,↓evp,evq,evr,fxa0,fxa1,fxa2,fxa3,fxa4,fxu,fxn,fxl,↓fxp,lgc,absL,fitL,flatL,ares,ares1,ofVal,unSc,aload,afill,splice,abound,asI,elems,IntKind.bits,sortT,eqNil,closedL,allByte,patch,pendOK,numA,Value.cells,Value.oneCell',ibin,List.replicate,Option.elim,Nat.reduceAdd,Nat.reduceSub,Nat.reduceMul,Nat.reduceLT,Nat.reduceEqDiff,Nat.reduceLeDiff,Nat.reduceBEq,Int.reduceLE,Int.reduceLT,Int.reduceToNat,Int.reduceBNe,Int.reduceBEq,Int.reduceNeg,Int.reduceEq,Int.reduceNe,Nat.reduceBNe,Int.reduceAdd,Int.reduceSub,Int.reduceMul,Int.reducePow,Nat.reducePow,Int.reduceGT,Int.reduceGE,if_true,if_false,ite_true,ite_false,beq_self_eq_true,BEq.rfl,reduceCtorEq,eq_self,ne_eq,Function.comp_def,beq_iff_eq]
  refine w_Collect (n := n) hi3.wd c3' hr hs hl hm fun bv' s4 gb4 g4 nb4 => ?_
  have w4 := (hi3.grw g4).wd.w
  have c4 := g4 _ _ c3
  obtain ⟨o3, o4⟩ := gb4.one
  have b5 : ∀ o, (s4.set st.length o)[st.length]? = some o := fun o => get_set c4 o
  simp only [w1, c1, w2, c2, w3, c3, w4, c4, g2, g3, g4, o1, o2, o3, o4, b5, evf,↓evp,evq,evr,fxa0,fxa1,fxa2,fxa3,fxa4,fxu,fxn,fxl,↓fxp,lgc,absL,fitL,flatL,ares,ares1,ofVal,unSc,aload,afill,splice,abound,asI,elems,IntKind.bits,sortT,eqNil,closedL,allByte,patch,pendOK,numA,Value.cells,Value.oneCell',ibin,List.replicate,Option.elim,Nat.reduceAdd,Nat.reduceSub,Nat.reduceMul,Nat.reduceLT,Nat.reduceEqDiff,Nat.reduceLeDiff,Nat.reduceBEq,Int.reduceLE,Int.reduceLT,Int.reduceToNat,Int.reduceBNe,Int.reduceBEq,Int.reduceNeg,Int.reduceEq,Int.reduceNe,Nat.reduceBNe,Int.reduceAdd,Int.reduceSub,Int.reduceMul,Int.reducePow,Nat.reducePow,Int.reduceGT,Int.reduceGE,if_true,if_false,ite_true,ite_false,beq_self_eq_true,BEq.rfl,reduceCtorEq,eq_self,ne_eq,Function.comp_def,beq_iff_eq]
  have l1 : s1.length = st.length + 1 := by rw [hs1]; simp
  have l2 := g2.le
  have l3 := g3.le
  refine hK _ _ _ (gt2.of fun j o hj ho => ?_) (gb4.of fun j o hj ho => ?_) (fun j hj => by have := nt2 j hj; omega) (fun j hj => by have := nb4 j hj; omega) ((((g1.trans g2).trans g3).trans g4).set (Nat.le_refl _) _)
  · have := nt2 j hj
    rw [List.getElem?_set_ne (by omega)]
    exact g4 _ _ (g3 _ _ ho)
  · have := nb4 j hj
    rw [List.getElem?_set_ne (by omega)]
    exact ho
set_option maxHeartbeats 4000000 in
theorem q_Map (hy : Wr st rd WW HH tv bv ev (bs T) L ds) (hl : L.length ≤ 256) (hT : T.length ≤ 4000000000000)
    (hK : ∀ tv' bv' s, Gl s 5 tv' (bs T) T.length → Gl s 90 bv' (L.flatMap B4.v) L.length → (∀ j, rowOf tv' = some j → st.length ≤ j) → (∀ j, rowOf bv' = some j → st.length ≤ j) → Grw st s → K (.agg (mp WW HH tv' bv')) s) :
    acallF Try.prog pl (n + 1) m 68 [.ref rd 0] st K := by
  refine acallF_inF Try.func68 rfl rfl Try.ntmps68 (by simp) ?_
  obtain ⟨s1, hs1⟩ : ∃ s1, s1 = st ++ [Ob.cells (mp 0 0 (.tsl [] 0 true true) (.tsl [] 0 true true)), Ob.cells (mp WW HH (.tsl [] 0 true true) (.tsl [] 0 true true))] := ⟨_, rfl⟩
  have g1 : Grw st s1 := by rw [hs1]; exact .push _ _
  have c1 : s1[st.length]? = some (.cells (mp 0 0 (.tsl [] 0 true true) (.tsl [] 0 true true))) := by rw [hs1]; exact get_new0 _ _
  have d1 : s1[st.length + 1]? = some (.cells (mp WW HH (.tsl [] 0 true true) (.tsl [] 0 true true))) := by rw [hs1]; exact get_new _ _ 1
  have l1 : s1.length = st.length + 2 := by rw [hs1]; simp
  have w0 := hy.w
  have w0X := fun X => Grw.push st X _ _ w0
  have hy1 := hy.grw g1
  have w1 := hy1.w
  have tl1 := hy1.tl
  rw [bs_len] at tl1
  obtain ⟨tv', s2, ap1, gt2, g2, nt2⟩ := nil_app (t := 62) Try.underlying62 sz5 by5 ze5 (by omega) rfl (tl1.rd sz5 (by rw [bs_len]; omega)) (closed_bs _) (by omega) (by omega)
  have l2 := g2.le
  obtain ⟨o1, o2⟩ := gt2.one
  have c2 := g2 _ _ c1
  have d2 := g2 _ _ d1
  obtain ⟨s3, hs3⟩ : ∃ s3, s3 = s2.set (st.length + 1) (Ob.cells (mp WW HH tv' (.tsl [] 0 true true))) := ⟨_, rfl⟩
  have d3 : s3[st.length + 1]? = some (.cells (mp WW HH tv' (.tsl [] 0 true true))) := by rw [hs3]; exact get_set d2 _
  have g3 : Grw st s3 := by rw [hs3]; exact (g1.trans g2).set (by omega) _
  have c3 : s3[st.length]? = some (.cells (mp 0 0 (.tsl [] 0 true true) (.tsl [] 0 true true))) := by rw [hs3, List.getElem?_set_ne (by omega)]; exact c2
  have l3 : s3.length = s2.length := by rw [hs3, List.length_set]
  have hy3 := hy.grw g3
  have w3 := hy3.w
  obtain ⟨bv', s4, ap2, gb4, g4, nb4⟩ := nil_app (t := 63) Try.underlying63 sz90 by90 ze90 (by omega) rfl hy3.rb (closed_bd _) (by omega) (by omega)
  obtain ⟨o3, o4⟩ := gb4.one
  have c4 := g4 _ _ c3
  have d4 := g4 _ _ d3
  have l4 := g4.le
  obtain ⟨s5, hs5⟩ : ∃ s5, s5 = s4.set (st.length + 1) (Ob.cells (mp WW HH tv' bv')) := ⟨_, rfl⟩
  have d5 : s5[st.length + 1]? = some (.cells (mp WW HH tv' bv')) := by rw [hs5]; exact get_set d4 _
  have c5 : s5[st.length]? = some (.cells (mp 0 0 (.tsl [] 0 true true) (.tsl [] 0 true true))) := by rw [hs5, List.getElem?_set_ne (by omega)]; exact c4
  have b6 : ∀ o, (s5.set st.length o)[st.length]? = some o := fun o => get_set c5 o
  simp only [mp] at hs1 c1 d1 c2 d2 hs3 c3 d3 c4 d4 hs5 c5 d5
  simp only [w0, w0X, evf,↓evp,evq,evr,fxa0,fxa1,fxa2,fxa3,fxa4,fxu,fxn,fxl,↓fxp,lgc,absL,fitL,flatL,ares,ares1,ofVal,unSc,aload,afill,splice,abound,asI,elems,IntKind.bits,sortT,eqNil,closedL,allByte,patch,pendOK,numA,Value.cells,Value.oneCell',ibin,List.replicate,Option.elim,Nat.reduceAdd,Nat.reduceSub,Nat.reduceMul,Nat.reduceLT,Nat.reduceEqDiff,Nat.reduceLeDiff,Nat.reduceBEq,Int.reduceLE,Int.reduceLT,Int.reduceToNat,Int.reduceBNe,Int.reduceBEq,Int.reduceNeg,Int.reduceEq,Int.reduceNe,Nat.reduceBNe,Int.reduceAdd,Int.reduceSub,Int.reduceMul,Int.reducePow,Nat.reducePow,Int.reduceGT,Int.reduceGE,if_true,if_false,ite_true,ite_false,beq_self_eq_true,BEq.rfl,reduceCtorEq,eq_self,ne_eq,Function.comp_def,beq_iff_eq]
  rw [← hs1]
  simp only [w1, d1, ap1, d2, c2, o1, o2, g2, evf,↓evp,evq,evr,fxa0,fxa1,fxa2,fxa3,fxa4,fxu,fxn,fxl,↓fxp,lgc,absL,fitL,flatL,ares,ares1,ofVal,unSc,aload,afill,splice,abound,asI,elems,IntKind.bits,sortT,eqNil,closedL,allByte,patch,pendOK,numA,Value.cells,Value.oneCell',ibin,List.replicate,Option.elim,Nat.reduceAdd,Nat.reduceSub,Nat.reduceMul,Nat.reduceLT,Nat.reduceEqDiff,Nat.reduceLeDiff,Nat.reduceBEq,Int.reduceLE,Int.reduceLT,Int.reduceToNat,Int.reduceBNe,Int.reduceBEq,Int.reduceNeg,Int.reduceEq,Int.reduceNe,Nat.reduceBNe,Int.reduceAdd,Int.reduceSub,Int.reduceMul,Int.reducePow,Nat.reducePow,Int.reduceGT,Int.reduceGE,if_true,if_false,ite_true,ite_false,beq_self_eq_true,BEq.rfl,reduceCtorEq,eq_self,ne_eq,Function.comp_def,beq_iff_eq]
  rw [← hs3]
  simp only [w3, d3, ap2, d4, c4, o1, o2, o3, o4, g4, evf,↓evp,evq,evr,fxa0,fxa1,fxa2,fxa3,fxa4,fxu,fxn,fxl,↓fxp,lgc,absL,fitL,flatL,ares,ares1,ofVal,unSc,aload,afill,splice,abound,asI,elems,IntKind.bits,sortT,eqNil,closedL,allByte,patch,pendOK,numA,Value.cells,Value.oneCell',ibin,List.replicate,Option.elim,Nat.reduceAdd,Nat.reduceSub,Nat.reduceMul,Nat.reduceLT,Nat.reduceEqDiff,Nat.reduceLeDiff,Nat.reduceBEq,Int.reduceLE,Int.reduceLT,Int.reduceToNat,Int.reduceBNe,Int.reduceBEq,Int.reduceNeg,Int.reduceEq,Int.reduceNe,Nat.reduceBNe,Int.reduceAdd,Int.reduceSub,Int.reduceMul,Int.reducePow,Nat.reducePow,Int.reduceGT,Int.reduceGE,if_true,if_false,ite_true,ite_false,beq_self_eq_true,BEq.rfl,reduceCtorEq,eq_self,ne_eq,Function.comp_def,beq_iff_eq]
  rw [← hs5]
  simp only [c5, d5, b6, o1, o2, o3, o4, evf,↓evp,evq,evr,fxa0,fxa1,fxa2,fxa3,fxa4,fxu,fxn,fxl,↓fxp,lgc,absL,fitL,flatL,ares,ares1,ofVal,unSc,aload,afill,splice,abound,asI,elems,IntKind.bits,sortT,eqNil,closedL,allByte,patch,pendOK,numA,Value.cells,Value.oneCell',ibin,List.replicate,Option.elim,Nat.reduceAdd,Nat.reduceSub,Nat.reduceMul,Nat.reduceLT,Nat.reduceEqDiff,Nat.reduceLeDiff,Nat.reduceBEq,Int.reduceLE,Int.reduceLT,Int.reduceToNat,Int.reduceBNe,Int.reduceBEq,Int.reduceNeg,Int.reduceEq,Int.reduceNe,Nat.reduceBNe,Int.reduceAdd,Int.reduceSub,Int.reduceMul,Int.reducePow,Nat.reducePow,Int.reduceGT,Int.reduceGE,if_true,if_false,ite_true,ite_false,beq_self_eq_true,BEq.rfl,reduceCtorEq,eq_self,ne_eq,Function.comp_def,beq_iff_eq]
  refine hK _ _ _ (gt2.of fun j o hj ho => ?_) (gb4.of fun j o hj ho => ?_) (fun j hj => by have := nt2 j hj; omega) (fun j hj => by have := nb4 j hj; omega) ?_
  · have := nt2 j hj
    rw [List.getElem?_set_ne (by omega), hs5, List.getElem?_set_ne (by omega)]
    refine g4 _ _ ?_
    rw [hs3, List.getElem?_set_ne (by omega)]
    exact ho
  · have := nb4 j hj
    rw [List.getElem?_set_ne (by omega), hs5, List.getElem?_set_ne (by omega)]
    exact ho
  · rw [hs5]
    exact ((g3.trans g4).set (by omega) _).set (Nat.le_refl _) _
end
end Go.Proofs.Ytndjhaeeldegfaa
