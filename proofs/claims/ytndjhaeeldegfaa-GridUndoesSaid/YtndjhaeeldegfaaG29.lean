/- Chapter 4: maps compared. -/
import Derived.Test.YtndjhaeeldegfaaG28
set_option linter.unusedVariables false
set_option linter.unusedSimpArgs false
set_option maxRecDepth 10000
namespace Go.Proofs.Ytndjhaeeldegfaa
open Go Go.M Go.RowKit
attribute [local congr] acallF_cong aloop_cong bcase_cong resK_cong valK_cong wantK_cong callK_cong xputK_cong qputK_cong resM_cong rfK_cong
attribute [local irreducible] seqK blockK loopK nextK bcase resK valK wantK funK putK dputK xputK qputK callK aops aop acode adraw aloop acallF acall invK resM rfK rfEnd rdEnd rdMid around
section
variable {n m : Nat} {st s : List Ob} {K : V → List Ob → Prop} {WW HH : Int} {T : List Int} {t1 t2 b1 b2 : V} {L : List B4}
set_option maxHeartbeats 4000000 in
theorem q_Same (ht1 : Rd Try.prog st 5 t1 (bs T) T.length) (ht2 : Rd Try.prog st 5 t2 (bs T) T.length) (hb1 : Rd Try.prog st 90 b1 (L.flatMap B4.v) L.length) (hb2 : Rd Try.prog st 90 b2 (L.flatMap B4.v) L.length)
    (o1 : M.one t1 = true ∧ cellsV t1 = [t1]) (o2 : M.one t2 = true ∧ cellsV t2 = [t2]) (o3 : M.one b1 = true ∧ cellsV b1 = [b1]) (o4 : M.one b2 = true ∧ cellsV b2 = [b2]) (hl : L.length ≤ 256) (hm : 300 < m)
    (hK : ∀ s, Grw st s → K (.sc (.bool true)) s) :
    acallF Try.prog pl (n + 1) m 45 [.agg (mp WW HH t1 b1), .agg (mp WW HH t2 b2)] st K := by
  refine acallF_inF Try.func45 rfl rfl Try.ntmps45 (by simp) ?_
  obtain ⟨s1, hs1⟩ : ∃ s1, s1 = st ++ [Ob.cells (mp WW HH t1 b1), Ob.cells (mp WW HH t2 b2)] := ⟨_, rfl⟩
  have g1 : Grw st s1 := by rw [hs1]; exact .push _ _
  have c1 : s1[st.length]? = some (.cells (mp WW HH t1 b1)) := by rw [hs1]; exact get_new0 _ _
  have d1 : s1[st.length + 1]? = some (.cells (mp WW HH t2 b2)) := by rw [hs1]; exact get_new _ _ 1
  obtain ⟨B, cx, cy⟩ : ∃ B, aconvert Try.prog s1 62 9 t1 = some (.sc (.string B)) ∧ aconvert Try.prog s1 62 9 t2 = some (.sc (.string B)) :=
    ⟨_, aconv_b (d := 9) (e' := 0) (ht1.grw g1) Try.underlying62 Try.underlying5 Try.underlying9 sz5,
     aconv_b (d := 9) (e' := 0) (ht2.grw g1) Try.underlying62 Try.underlying5 Try.underlying9 sz5⟩
  have al1 := alen_rd (hb1.grw g1) Try.underlying63
  have al2 := alen_rd (hb2.grw g1) Try.underlying63
  simp only [mp] at hs1 c1 d1
  simp only [mp, o1.1, o1.2, o2.1, o2.2, o3.1, o3.2, o4.1, o4.2, evf,↓evp,evq,evr,fxa0,fxa1,fxa2,fxa3,fxa4,fxu,fxn,fxl,↓fxp,lgc,absL,fitL,flatL,ares,ares1,ofVal,unSc,aload,afill,splice,abound,asI,elems,IntKind.bits,sortT,eqNil,closedL,allByte,patch,pendOK,numA,Value.cells,Value.oneCell',ibin,List.replicate,Option.elim,Nat.reduceAdd,Nat.reduceSub,Nat.reduceMul,Nat.reduceLT,Nat.reduceEqDiff,Nat.reduceLeDiff,Nat.reduceBEq,Int.reduceLE,Int.reduceLT,Int.reduceToNat,Int.reduceBNe,Int.reduceBEq,Int.reduceNeg,Int.reduceEq,Int.reduceNe,Nat.reduceBNe,Int.reduceAdd,Int.reduceSub,Int.reduceMul,Int.reducePow,Nat.reducePow,Int.reduceGT,Int.reduceGE,if_true,if_false,ite_true,ite_false,beq_self_eq_true,BEq.rfl,reduceCtorEq,eq_self,ne_eq,Function.comp_def,beq_iff_eq]
  rw [← hs1]
  have e0 : ((L.length : Int) != L.length) = false := by simp
  have e1 : (WW != WW) = false := by simp
  have e2 : (HH != HH) = false := by simp
  simp only [c1, d1, cx, cy, al1, al2, e0, e1, e2, bne_self_eq_false, beq_self_eq_true, evf,↓evp,evq,evr,fxa0,fxa1,fxa2,fxa3,fxa4,fxu,fxn,fxl,↓fxp,lgc,absL,fitL,flatL,ares,ares1,ofVal,unSc,aload,afill,splice,abound,asI,elems,IntKind.bits,sortT,eqNil,closedL,allByte,patch,pendOK,numA,Value.cells,Value.oneCell',ibin,List.replicate,Option.elim,Nat.reduceAdd,Nat.reduceSub,Nat.reduceMul,Nat.reduceLT,Nat.reduceEqDiff,Nat.reduceLeDiff,Nat.reduceBEq,Int.reduceLE,Int.reduceLT,Int.reduceToNat,Int.reduceBNe,Int.reduceBEq,Int.reduceNeg,Int.reduceEq,Int.reduceNe,Nat.reduceBNe,Int.reduceAdd,Int.reduceSub,Int.reduceMul,Int.reducePow,Nat.reducePow,Int.reduceGT,Int.reduceGE,if_true,if_false,ite_true,ite_false,beq_self_eq_true,BEq.rfl,reduceCtorEq,eq_self,ne_eq,Function.comp_def,beq_iff_eq]
  refine aloop_forF (fun k f s => s = s1 ∧ ∃ i : Nat, k + i = m ∧ i ≤ L.length ∧ f 2 = .ref st.length 0 ∧ f 3 = .ref (st.length + 1) 0 ∧ f 5 = .sc (.int .i64 i)) ⟨rfl, 0, by omega, by omega, by simp only [evf, ne_eq, Nat.reduceEqDiff, Nat.reduceLT, not_false_eq_true], by simp only [evf, ne_eq, Nat.reduceEqDiff, Nat.reduceLT, not_false_eq_true], by simp only [evf, ne_eq, Nat.reduceEqDiff, Nat.reduceLT, not_false_eq_true]; rfl⟩ ?_
  rintro I' hI' k f s ⟨rfl, i, hk, hi, f2, f3, f5⟩
  refine ⟨k - 1, by omega, ?_⟩
  by_cases hil : i < L.length
  · have d : decide ((i : Int) < L.length) = true := decide_eq_true (by omega)
    have e3 : IntKind.i64.wrap ((i : Int) + 1) = ((i + 1 : Nat) : Int) := by rw [IntWalk.i64_in _ (by omega)]; rfl
    obtain ⟨p1, p2⟩ := ix_flat (f := B4.v) (fun a => rfl) (hb1.grw g1) Try.underlying63 sz90 ag90 (by omega) hil
    obtain ⟨p3, p4⟩ := ix_flat (f := B4.v) (fun a => rfl) (hb2.grw g1) Try.underlying63 sz90 ag90 (by omega) hil
    have cm := fun p q => cmp_bdN p q L[i].id L[i].x L[i].y L[i].w L[i].h L[i].id L[i].x L[i].y L[i].w L[i].h
    have eq1 : eqR L[i].x L[i].y L[i].w L[i].h L[i].x L[i].y L[i].w L[i].h = true := by simp [eqR]
    have eq : (L[i].id == L[i].id && eqR L[i].x L[i].y L[i].w L[i].h L[i].x L[i].y L[i].w L[i].h) = true := by simp [eqR]
    generalize hu : L[i] = u at p2 p4 cm eq eq1
    simp only [B4.v, bd, rc] at p2 p4
    simp only [f2, f3, f5, c1, d1, al1, d, p1, p2, p3, p4, cm, eq, eq1, beq_self_eq_true, Bool.and_self, Bool.not_true, e3, evf,↓evp,evq,evr,fxa0,fxa1,fxa2,fxa3,fxa4,fxu,fxn,fxl,↓fxp,lgc,absL,fitL,flatL,ares,ares1,ofVal,unSc,aload,afill,splice,abound,asI,elems,IntKind.bits,sortT,eqNil,closedL,allByte,patch,pendOK,numA,Value.cells,Value.oneCell',ibin,List.replicate,Option.elim,Nat.reduceAdd,Nat.reduceSub,Nat.reduceMul,Nat.reduceLT,Nat.reduceEqDiff,Nat.reduceLeDiff,Nat.reduceBEq,Int.reduceLE,Int.reduceLT,Int.reduceToNat,Int.reduceBNe,Int.reduceBEq,Int.reduceNeg,Int.reduceEq,Int.reduceNe,Nat.reduceBNe,Int.reduceAdd,Int.reduceSub,Int.reduceMul,Int.reducePow,Nat.reducePow,Int.reduceGT,Int.reduceGE,if_true,if_false,ite_true,ite_false,beq_self_eq_true,BEq.rfl,reduceCtorEq,eq_self,ne_eq,Function.comp_def,beq_iff_eq]
    refine hI' _ _ _ ⟨rfl, i + 1, by omega, by omega, by simp only [f2, evf, ne_eq, Nat.reduceEqDiff, Nat.reduceLT, not_false_eq_true], by simp only [f3, evf, ne_eq, Nat.reduceEqDiff, Nat.reduceLT, not_false_eq_true], by simp only [evf, ne_eq, Nat.reduceEqDiff, Nat.reduceLT, not_false_eq_true]⟩
  · have d : decide ((i : Int) < L.length) = false := decide_eq_false (by omega)
    simp only [f2, f3, f5, c1, d1, al1, d, evf,↓evp,evq,evr,fxa0,fxa1,fxa2,fxa3,fxa4,fxu,fxn,fxl,↓fxp,lgc,absL,fitL,flatL,ares,ares1,ofVal,unSc,aload,afill,splice,abound,asI,elems,IntKind.bits,sortT,eqNil,closedL,allByte,patch,pendOK,numA,Value.cells,Value.oneCell',ibin,List.replicate,Option.elim,Nat.reduceAdd,Nat.reduceSub,Nat.reduceMul,Nat.reduceLT,Nat.reduceEqDiff,Nat.reduceLeDiff,Nat.reduceBEq,Int.reduceLE,Int.reduceLT,Int.reduceToNat,Int.reduceBNe,Int.reduceBEq,Int.reduceNeg,Int.reduceEq,Int.reduceNe,Nat.reduceBNe,Int.reduceAdd,Int.reduceSub,Int.reduceMul,Int.reducePow,Nat.reducePow,Int.reduceGT,Int.reduceGE,if_true,if_false,ite_true,ite_false,beq_self_eq_true,BEq.rfl,reduceCtorEq,eq_self,ne_eq,Function.comp_def,beq_iff_eq]
    exact hK _ g1
end
end Go.Proofs.Ytndjhaeeldegfaa
