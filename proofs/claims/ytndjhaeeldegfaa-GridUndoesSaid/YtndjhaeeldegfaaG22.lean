/- Chapter 4: an edit in both worlds: placing; a map's worlds behind edits. -/
import Derived.Test.YtndjhaeeldegfaaG21
set_option linter.unusedVariables false
set_option linter.unusedSimpArgs false
set_option maxRecDepth 10000
namespace Go.Proofs.Ytndjhaeeldegfaa
open Go Go.M Go.RowKit
attribute [local congr] acallF_cong aloop_cong bcase_cong resK_cong valK_cong wantK_cong callK_cong xputK_cong qputK_cong resM_cong rfK_cong
attribute [local irreducible] seqK blockK loopK nextK bcase resK valK wantK funK putK dputK xputK qputK callK aops aop acode adraw aloop acallF acall invK resM rfK rfEnd rdEnd rdMid around
section
variable {n m : Nat} {st s : List Ob} {K : V → List Ob → Prop} {wd a b rd : Nat} {WW HH : Int} {tv tv2 dv bv ev dv' bv' ev' : V} {T : List Int} {us us' : List (Int × V)} {os os' : List ((Int × Int) × V)} {L L' : List B4} {ds ds' : List R4} {x y w h id : Int}
set_option maxHeartbeats 4000000000000 in
theorem l_PlayP (hb : Bo st wd a b rd WW HH tv tv2 dv bv ev T us os L ds) (hL : L.length ≤ 256) (hdl : ds.length < 4000000000000) (hm : 300 < m)
    (hK : ∀ dv' bv' ev' us' os' L' ds' s, Bo s wd a b rd WW HH tv tv2 dv' bv' ev' T us' os' L' ds' → L'.length ≤ 256 → ds'.length ≤ ds.length + 1 → FC wd rd st s → st.length ≤ s.length → K (.sc (.bool true)) s) :
    acallF Try.prog pl (n + 9) m 47 [.agg [.ref wd 0, .ref rd 0], .agg (.sc (.bool false) :: bd id x y w h)] st K := by
  refine acallF_inF Try.func47 rfl rfl Try.ntmps47 (by simp) ?_
  obtain ⟨s1, hs1⟩ : ∃ s1, s1 = st ++ [Ob.cells [.ref wd 0, .ref rd 0], Ob.cells (.sc (.bool false) :: bd id x y w h)] := ⟨_, rfl⟩
  have g1 : Grw st s1 := by rw [hs1]; exact .push _ _
  have c1 : s1[st.length]? = some (.cells [.ref wd 0, .ref rd 0]) := by rw [hs1]; exact get_new _ _ 0
  have x1 : s1[st.length + 1]? = some (.cells (.sc (.bool false) :: bd id x y w h)) := by rw [hs1]; exact get_new _ _ 1
  have hw0 : wd < st.length := (List.getElem?_eq_some_iff.1 hb.p.wd.w).1
  have hr0 : rd < st.length := (List.getElem?_eq_some_iff.1 hb.r.w).1
  have hb1 := hb.grw g1
  simp only [bd, rc] at hs1 x1
  simp only [bd, rc, evf,↓evp,evq,evr,fxa0,fxa1,fxa2,fxa3,fxa4,fxu,fxn,fxl,↓fxp,lgc,absL,fitL,flatL,ares,ares1,ofVal,unSc,aload,afill,splice,abound,asI,elems,IntKind.bits,sortT,eqNil,closedL,allByte,patch,pendOK,numA,Value.cells,Value.oneCell',ibin,List.replicate,Option.elim,Nat.reduceAdd,Nat.reduceSub,Nat.reduceMul,Nat.reduceLT,Nat.reduceEqDiff,Nat.reduceLeDiff,Nat.reduceBEq,Int.reduceLE,Int.reduceLT,Int.reduceToNat,Int.reduceBNe,Int.reduceBEq,Int.reduceNeg,Int.reduceEq,Int.reduceNe,Nat.reduceBNe,Int.reduceAdd,Int.reduceSub,Int.reduceMul,Int.reducePow,Nat.reducePow,Int.reduceGT,Int.reduceGE,if_true,if_false,ite_true,ite_false,beq_self_eq_true,BEq.rfl,reduceCtorEq,eq_self,ne_eq,Function.comp_def,beq_iff_eq]
  rw [← hs1]
  have hul : us.length < 1000000 := by rw [hb.rel.len]; omega
  refine w_May1 (n := n + 1) (id := id) (x := x) (y := y) (w := w) (h := h) hb1.p.wd hb1.p.rcs hul (by omega) fun s2 g2 => ?_
  have c2 := g2 _ _ c1
  have x2 := g2 _ _ x1
  have hb2 := hb1.grw g2
  simp only [c1, x1, c2, x2, g2, evf,↓evp,evq,evr,fxa0,fxa1,fxa2,fxa3,fxa4,fxu,fxn,fxl,↓fxp,lgc,absL,fitL,flatL,ares,ares1,ofVal,unSc,aload,afill,splice,abound,asI,elems,IntKind.bits,sortT,eqNil,closedL,allByte,patch,pendOK,numA,Value.cells,Value.oneCell',ibin,List.replicate,Option.elim,Nat.reduceAdd,Nat.reduceSub,Nat.reduceMul,Nat.reduceLT,Nat.reduceEqDiff,Nat.reduceLeDiff,Nat.reduceBEq,Int.reduceLE,Int.reduceLT,Int.reduceToNat,Int.reduceBNe,Int.reduceBEq,Int.reduceNeg,Int.reduceEq,Int.reduceNe,Nat.reduceBNe,Int.reduceAdd,Int.reduceSub,Int.reduceMul,Int.reducePow,Nat.reducePow,Int.reduceGT,Int.reduceGE,if_true,if_false,ite_true,ite_false,beq_self_eq_true,BEq.rfl,reduceCtorEq,eq_self,ne_eq,Function.comp_def,beq_iff_eq]
  refine q_May (n := n + 1) (id := id) (x := x) (y := y) (w := w) (h := h) hb2.r (by omega) (by omega) fun s3 g3 => ?_
  have c3 := g3 _ _ c2
  have x3 := g3 _ _ x2
  have hb3 := hb2.grw g3
  have hme := hb.rel.may ⟨id, x, y, w, h⟩
  simp only at hme
  have e0 : (mayE us os WW HH id x y w h == mayR L WW HH id x y w h) = true := by rw [hme]; simp
  have g13 := (g1.trans g2).trans g3
  simp only [c1, x1, c2, x2, c3, x3, g2, g3, e0, evf,↓evp,evq,evr,fxa0,fxa1,fxa2,fxa3,fxa4,fxu,fxn,fxl,↓fxp,lgc,absL,fitL,flatL,ares,ares1,ofVal,unSc,aload,afill,splice,abound,asI,elems,IntKind.bits,sortT,eqNil,closedL,allByte,patch,pendOK,numA,Value.cells,Value.oneCell',ibin,List.replicate,Option.elim,Nat.reduceAdd,Nat.reduceSub,Nat.reduceMul,Nat.reduceLT,Nat.reduceEqDiff,Nat.reduceLeDiff,Nat.reduceBEq,Int.reduceLE,Int.reduceLT,Int.reduceToNat,Int.reduceBNe,Int.reduceBEq,Int.reduceNeg,Int.reduceEq,Int.reduceNe,Nat.reduceBNe,Int.reduceAdd,Int.reduceSub,Int.reduceMul,Int.reducePow,Nat.reducePow,Int.reduceGT,Int.reduceGE,if_true,if_false,ite_true,ite_false,beq_self_eq_true,BEq.rfl,reduceCtorEq,eq_self,ne_eq,Function.comp_def,beq_iff_eq]
  refine w_Place1 (n := n) (id := id) (x := x) (y := y) (w := w) (h := h) hb3.p hul hdl (by omega) (fun hne s4 g4 => ?_) fun he dv' s4 w4 k4 nw4 => ?_
  · have c4 := g4 _ _ c3
    have x4 := g4 _ _ x3
    have hb4 := hb3.grw g4
    have hneR : mayR L WW HH id x y w h ≠ 0 := hme ▸ hne
    simp only [c1, x1, c2, x2, c3, x3, c4, x4, g2, g3, g4, e0, evf,↓evp,evq,evr,fxa0,fxa1,fxa2,fxa3,fxa4,fxu,fxn,fxl,↓fxp,lgc,absL,fitL,flatL,ares,ares1,ofVal,unSc,aload,afill,splice,abound,asI,elems,IntKind.bits,sortT,eqNil,closedL,allByte,patch,pendOK,numA,Value.cells,Value.oneCell',ibin,List.replicate,Option.elim,Nat.reduceAdd,Nat.reduceSub,Nat.reduceMul,Nat.reduceLT,Nat.reduceEqDiff,Nat.reduceLeDiff,Nat.reduceBEq,Int.reduceLE,Int.reduceLT,Int.reduceToNat,Int.reduceBNe,Int.reduceBEq,Int.reduceNeg,Int.reduceEq,Int.reduceNe,Nat.reduceBNe,Int.reduceAdd,Int.reduceSub,Int.reduceMul,Int.reducePow,Nat.reducePow,Int.reduceGT,Int.reduceGE,if_true,if_false,ite_true,ite_false,beq_self_eq_true,BEq.rfl,reduceCtorEq,eq_self,ne_eq,Function.comp_def,beq_iff_eq]
    refine q_Place (n := n) (id := id) (x := x) (y := y) (w := w) (h := h) hb4.r hm hL hdl (fun _ s5 g5 => ?_) fun hz => absurd hz hneR
    have c5 := g5 _ _ c4
    have x5 := g5 _ _ x4
    simp only [c1, x1, c2, x2, c3, x3, c4, x4, c5, x5, g2, g3, g4, g5, e0, evf,↓evp,evq,evr,fxa0,fxa1,fxa2,fxa3,fxa4,fxu,fxn,fxl,↓fxp,lgc,absL,fitL,flatL,ares,ares1,ofVal,unSc,aload,afill,splice,abound,asI,elems,IntKind.bits,sortT,eqNil,closedL,allByte,patch,pendOK,numA,Value.cells,Value.oneCell',ibin,List.replicate,Option.elim,Nat.reduceAdd,Nat.reduceSub,Nat.reduceMul,Nat.reduceLT,Nat.reduceEqDiff,Nat.reduceLeDiff,Nat.reduceBEq,Int.reduceLE,Int.reduceLT,Int.reduceToNat,Int.reduceBNe,Int.reduceBEq,Int.reduceNeg,Int.reduceEq,Int.reduceNe,Nat.reduceBNe,Int.reduceAdd,Int.reduceSub,Int.reduceMul,Int.reducePow,Nat.reducePow,Int.reduceGT,Int.reduceGE,if_true,if_false,ite_true,ite_false,beq_self_eq_true,BEq.rfl,reduceCtorEq,eq_self,ne_eq,Function.comp_def,beq_iff_eq]
    exact hK _ _ _ _ _ _ _ _ (hb4.grw g5) hL (by omega) (grw_fc ((g13.trans g4).trans g5)) ((g13.trans g4).trans g5).le
  · have heR : mayR L WW HH id x y w h = 0 := hme ▸ he
    have fc4 : FC wd rd s3 s4 := hb3.p.fc k4
    have c4 := fc4 _ _ (by omega) (by omega) c3
    have x4 := fc4 _ _ (by omega) (by omega) x3
    have r4 := keepR hb3.p hb3.r hb.ne hb.nr k4
    have l3 : st.length ≤ s3.length := g13.le
    have nr4 : ∀ j, rowOf dv' = some j → rowOf ev ≠ some j := fun j h1 h2 => by
      rcases nw4 j h1 with h3 | h3
      · exact hb.nr j h3 h2
      · have := hb3.r.el.lt j h2; omega
    have w3w := hb3.p.wd.w
    simp only [c1, x1, c2, x2, c3, x3, c4, x4, g2, g3, e0, evf,↓evp,evq,evr,fxa0,fxa1,fxa2,fxa3,fxa4,fxu,fxn,fxl,↓fxp,lgc,absL,fitL,flatL,ares,ares1,ofVal,unSc,aload,afill,splice,abound,asI,elems,IntKind.bits,sortT,eqNil,closedL,allByte,patch,pendOK,numA,Value.cells,Value.oneCell',ibin,List.replicate,Option.elim,Nat.reduceAdd,Nat.reduceSub,Nat.reduceMul,Nat.reduceLT,Nat.reduceEqDiff,Nat.reduceLeDiff,Nat.reduceBEq,Int.reduceLE,Int.reduceLT,Int.reduceToNat,Int.reduceBNe,Int.reduceBEq,Int.reduceNeg,Int.reduceEq,Int.reduceNe,Nat.reduceBNe,Int.reduceAdd,Int.reduceSub,Int.reduceMul,Int.reducePow,Nat.reducePow,Int.reduceGT,Int.reduceGE,if_true,if_false,ite_true,ite_false,beq_self_eq_true,BEq.rfl,reduceCtorEq,eq_self,ne_eq,Function.comp_def,beq_iff_eq]
    refine q_Place (n := n) (id := id) (x := x) (y := y) (w := w) (h := h) r4 hm hL hdl (fun hne => absurd heR hne) fun _ p bv' ev' s5 hp hp1 hp2 r5 k5 nb5 ne5 => ?_
    have fc5 : FC wd rd s4 s5 := r4.fc k5
    have c5 := fc5 _ _ (by omega) (by omega) c4
    have x5 := fc5 _ _ (by omega) (by omega) x4
    have p5 := keepP w4 r4 hb.ne nr4 k5
    have nr5 : ∀ j, rowOf dv' = some j → rowOf ev' ≠ some j := fun j h1 h2 => by
      rcases ne5 j h2 with h3 | h3
      · exact nr4 j h1 h3
      · have := w4.dl.lt j h1; omega
    have rel5 := hb.rel.place ⟨id, x, y, w, h⟩ p he
    have e5 : (mayE us os WW HH id x y w h == 0) = true := by rw [he]; rfl
    simp only [c1, x1, c2, x2, c3, x3, c4, x4, c5, x5, g2, g3, e0, evf,↓evp,evq,evr,fxa0,fxa1,fxa2,fxa3,fxa4,fxu,fxn,fxl,↓fxp,lgc,absL,fitL,flatL,ares,ares1,ofVal,unSc,aload,afill,splice,abound,asI,elems,IntKind.bits,sortT,eqNil,closedL,allByte,patch,pendOK,numA,Value.cells,Value.oneCell',ibin,List.replicate,Option.elim,Nat.reduceAdd,Nat.reduceSub,Nat.reduceMul,Nat.reduceLT,Nat.reduceEqDiff,Nat.reduceLeDiff,Nat.reduceBEq,Int.reduceLE,Int.reduceLT,Int.reduceToNat,Int.reduceBNe,Int.reduceBEq,Int.reduceNeg,Int.reduceEq,Int.reduceNe,Nat.reduceBNe,Int.reduceAdd,Int.reduceSub,Int.reduceMul,Int.reducePow,Nat.reducePow,Int.reduceGT,Int.reduceGE,if_true,if_false,ite_true,ite_false,beq_self_eq_true,BEq.rfl,reduceCtorEq,eq_self,ne_eq,Function.comp_def,beq_iff_eq]
    refine hK _ _ _ _ _ _ _ _ ⟨p5, r5, rel5, hb.srt.insAt ⟨id, x, y, w, h⟩ p hp hp1 hp2 (hb.rel.new ⟨id, x, y, w, h⟩ he), hb.ne, nr5⟩ ?_ (by simp) (((grw_fc g13).trans fc4).trans fc5) (Nat.le_trans (Nat.le_trans l3 k4.1) k5.1)
    have := (mayR_zero.1 heR).2.2.1
    rw [insAt_len]; omega
end
end Go.Proofs.Ytndjhaeeldegfaa
