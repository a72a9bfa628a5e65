/- Chapter 5: the law OccupyApart. -/
import Derived.Test.YtgmccnnjpejigaaB32
set_option linter.unusedVariables false
set_option linter.unusedSimpArgs false
set_option maxRecDepth 10000
namespace Go.Proofs.Ytgmccnnjpejigaa
open Go Go.M Go.RowKit
attribute [local congr] acallF_cong aloop_cong bcase_cong resK_cong valK_cong wantK_cong callK_cong xputK_cong qputK_cong resM_cong rfK_cong
attribute [local irreducible] seqK blockK loopK nextK bcase resK valK wantK funK putK dputK xputK qputK callK aops aop acode adraw aloop acallF acall invK resM rfK rfEnd rdEnd rdMid around
section
variable {s : List Ob} {E : List A6} {lv : V}
theorem a_d (hv : Rd Try.prog s 36 lv (E.flatMap A6.v) E.length) {i : Nat} (hi : i < E.length) : afa Try.prog s 36 0 (ixp 6 lv i 0) = some (ixp 6 lv i 0, s) ∧ ald Try.prog s 3 (ixp 6 lv i 0) = some (.sc (.int .i64 E[i].d), s) := by
  refine ⟨afa_ix hv (i := 0) (off := 0) (k := 1) (ft := 3) (by kernel_rfl) (by omega) i 0, ?_⟩
  rw [ald_ix hv sz36 sz3 (by omega) hi (by omega)]
  simp only [aload, ag3, Nat.add_zero]
  rw [flatMap_at (f := A6.v) (s := 6) (fun a => rfl) E i hi]
  rfl
theorem a_id (hv : Rd Try.prog s 36 lv (E.flatMap A6.v) E.length) {i : Nat} (hi : i < E.length) : afa Try.prog s 36 1 (ixp 6 lv i 0) = some (ixp 6 lv i 1, s) ∧ ald Try.prog s 3 (ixp 6 lv i 1) = some (.sc (.int .i64 E[i].id), s) := by
  refine ⟨afa_ix hv (i := 1) (off := 1) (k := 1) (ft := 3) (by kernel_rfl) (by omega) i 0, ?_⟩
  rw [ald_ix hv sz36 sz3 (by omega) hi (by omega)]
  simp only [aload, ag3]
  rw [← List.drop_drop, flatMap_at (f := A6.v) (s := 6) (fun a => rfl) E i hi]
  rfl
theorem a_r (hv : Rd Try.prog s 36 lv (E.flatMap A6.v) E.length) {i : Nat} (hi : i < E.length) : afa Try.prog s 36 2 (ixp 6 lv i 0) = some (ixp 6 lv i 2, s) ∧ ald Try.prog s 34 (ixp 6 lv i 2) = some (.agg (rc E[i].x E[i].y E[i].w E[i].h), s) ∧ afa Try.prog s 34 0 (ixp 6 lv i 2) = some (ixp 6 lv i 2, s) ∧ ald Try.prog s 32 (ixp 6 lv i 2) = some (.agg (cl E[i].x E[i].y), s) := by
  have e : (E.flatMap A6.v).drop (i * 6 + 2) = rc E[i].x E[i].y E[i].w E[i].h ++ (E.drop (i + 1)).flatMap A6.v := by
    rw [← List.drop_drop, flatMap_at (f := A6.v) (s := 6) (fun a => rfl) E i hi]
    rfl
  refine ⟨afa_ix hv (i := 2) (off := 2) (k := 4) (ft := 34) (by kernel_rfl) (by omega) i 0, ?_, afa_ix hv (i := 0) (off := 0) (k := 2) (ft := 32) (by kernel_rfl) (by omega) i 2, ?_⟩
  · rw [ald_ix hv sz36 sz34 (by omega) hi (by omega), e]
    simp only [aload, ag34, sz34]
    rw [if_pos (by simp [rc])]
    rfl
  · rw [ald_ix hv sz36 sz32 (by omega) hi (by omega), e]
    simp only [aload, ag32, sz32]
    rw [if_pos (by simp [rc])]
    rfl
end
section
variable {n m : Nat} {st s : List Ob} {K : V → List Ob → Prop} {E : List A6} {lv : V}
set_option maxHeartbeats 8000000 in
theorem l5_Apart (he : ∀ s, Rd Try.prog s 36 lv (E.flatMap A6.v) E.length) (hid : ∀ e ∈ E, inR e.id) (hEl : E.length ≤ 2932031007402) (hm : 500 < m) (hK : ∀ s, K (.sc (.bool true)) s) :
    acallF Try.prog pl (n + 12) m 4 [lv] st K := by
  refine acallF_inF Try.func4 rfl rfl Try.ntmps4 (by simp) ?_
  obtain ⟨s1, hs1⟩ : ∃ s1, s1 = st ++ [Ob.cells [.sc (.bool false)]] := ⟨_, rfl⟩
  have c1 : s1[st.length]? = some (.cells [.sc (.bool false)]) := by rw [hs1]; exact get_new0 _ _
  simp only [evf,↓evp,evq,evr,fxa0,fxa1,fxa2,fxa3,fxa4,fxu,fxn,fxl,↓fxp,lgc,absL,fitL,flatL,ares,ares1,ofVal,unSc,aload,afill,splice,abound,asI,elems,IntKind.bits,sortT,eqNil,closedL,allByte,patch,pendOK,numA,Value.cells,Value.oneCell',ibin,List.replicate,Option.elim,Nat.reduceAdd,Nat.reduceSub,Nat.reduceMul,Nat.reduceLT,Nat.reduceEqDiff,Nat.reduceLeDiff,Nat.reduceBEq,Int.reduceLE,Int.reduceLT,Int.reduceToNat,Int.reduceBNe,Int.reduceBEq,Int.reduceNeg,Int.reduceEq,Int.reduceNe,Nat.reduceBNe,Int.reduceAdd,Int.reduceSub,Int.reduceMul,Int.reducePow,Nat.reducePow,Int.reduceGT,Int.reduceGE,if_true,if_false,ite_true,ite_false,beq_self_eq_true,BEq.rfl,reduceCtorEq,eq_self,ne_eq,Function.comp_def,beq_iff_eq]
  rw [← hs1]
  refine awake5 (n := n + 4) (by omega) fun s2 g2 => ?_
  have c2 := g2 _ _ c1
  simp only [evf,↓evp,evq,evr,fxa0,fxa1,fxa2,fxa3,fxa4,fxu,fxn,fxl,↓fxp,lgc,absL,fitL,flatL,ares,ares1,ofVal,unSc,aload,afill,splice,abound,asI,elems,IntKind.bits,sortT,eqNil,closedL,allByte,patch,pendOK,numA,Value.cells,Value.oneCell',ibin,List.replicate,Option.elim,Nat.reduceAdd,Nat.reduceSub,Nat.reduceMul,Nat.reduceLT,Nat.reduceEqDiff,Nat.reduceLeDiff,Nat.reduceBEq,Int.reduceLE,Int.reduceLT,Int.reduceToNat,Int.reduceBNe,Int.reduceBEq,Int.reduceNeg,Int.reduceEq,Int.reduceNe,Nat.reduceBNe,Int.reduceAdd,Int.reduceSub,Int.reduceMul,Int.reducePow,Nat.reducePow,Int.reduceGT,Int.reduceGE,if_true,if_false,ite_true,ite_false,beq_self_eq_true,BEq.rfl,reduceCtorEq,eq_self,ne_eq,Function.comp_def,beq_iff_eq]
  refine o_New (n := n + 10) fun s3 hi3 g3 => ?_
  have c3 := g3 _ _ c2
  simp only [evf,↓evp,evq,evr,fxa0,fxa1,fxa2,fxa3,fxa4,fxu,fxn,fxl,↓fxp,lgc,absL,fitL,flatL,ares,ares1,ofVal,unSc,aload,afill,splice,abound,asI,elems,IntKind.bits,sortT,eqNil,closedL,allByte,patch,pendOK,numA,Value.cells,Value.oneCell',ibin,List.replicate,Option.elim,Nat.reduceAdd,Nat.reduceSub,Nat.reduceMul,Nat.reduceLT,Nat.reduceEqDiff,Nat.reduceLeDiff,Nat.reduceBEq,Int.reduceLE,Int.reduceLT,Int.reduceToNat,Int.reduceBNe,Int.reduceBEq,Int.reduceNeg,Int.reduceEq,Int.reduceNe,Nat.reduceBNe,Int.reduceAdd,Int.reduceSub,Int.reduceMul,Int.reducePow,Nat.reducePow,Int.reduceGT,Int.reduceGE,if_true,if_false,ite_true,ite_false,beq_self_eq_true,BEq.rfl,reduceCtorEq,eq_self,ne_eq,Function.comp_def,beq_iff_eq]
  have l3 : s2.length + 2 < s3.length := (List.getElem?_eq_some_iff.1 hi3.ix).1
  generalize hS : s3 ++ _ = S
  have gS : Grw s3 S := by rw [← hS]; exact .push _ _
  have y0 : S[s3.length]? = some (.cells [.tsl [] 0 true true]) := by rw [← hS]; exact get_new _ _ 0
  have t0 : S[s3.length + 1]? = some (.cells [.ref s3.length 0]) := by rw [← hS]; exact get_new _ _ 1
  have lt2 : st.length < s2.length := (List.getElem?_eq_some_iff.1 c2).1
  have hiS := hi3.grw gS
  have cS := gS _ _ c3
  refine aloop_forF (fun k f s => ∃ (i : Nat) (us : List (Int × V)) (os : List ((Int × Int) × V)) (L : List U) (yv : V), k + i = m ∧ i ≤ E.length ∧ i ≤ 400 ∧ Ix s (s2.length + 2) s2.length (s2.length + 1) us os ∧ Rel us os L ∧ Gd L ∧ s[st.length]? = some (.cells [.sc (.bool false)]) ∧ s[s3.length + 1]? = some (.cells [.ref s3.length 0]) ∧ s[s3.length]? = some (.cells [yv]) ∧ Gl s 48 yv (L.flatMap U.v) L.length ∧ f 0 = lv ∧ f 2 = .ref st.length 0 ∧ f 3 = .ref (s2.length + 2) 0 ∧ f 4 = .ref (s3.length + 1) 0 ∧ f 5 = .sc (.int .i64 i))
    ⟨0, [], [], [], _, by omega, by omega, by omega, hiS, Rel.nil, Gd.nil, cS, t0, y0, .inl ⟨rfl, rfl, rfl⟩, by simp only [evf, ne_eq, Nat.reduceEqDiff, Nat.reduceLT, not_false_eq_true], by simp only [evf, ne_eq, Nat.reduceEqDiff, Nat.reduceLT, not_false_eq_true], by simp only [evf, ne_eq, Nat.reduceEqDiff, Nat.reduceLT, not_false_eq_true], by simp only [evf, ne_eq, Nat.reduceEqDiff, Nat.reduceLT, not_false_eq_true], by simp only [evf, ne_eq, Nat.reduceEqDiff, Nat.reduceLT, not_false_eq_true]; rfl⟩ ?_
  rintro I' hI' k f s ⟨i, us, os, L, yv, hk, hi, hi4, ix, rel, gd, ct, ty, yy, gl, f0, f2, f3, f4, f5⟩
  refine ⟨k - 1, by omega, ?_⟩
  have al := alen_rd (he s) Try.underlying22
  have e3 : IntKind.i64.wrap ((i : Int) + 1) = ((i + 1 : Nat) : Int) := by rw [IntWalk.i64_in _ (by omega)]; rfl
  cases d : decide ((i : Int) < E.length)
  · simp only [f0, f2, f3, f4, f5, al, d, evf,↓evp,evq,evr,fxa0,fxa1,fxa2,fxa3,fxa4,fxu,fxn,fxl,↓fxp,lgc,absL,fitL,flatL,ares,ares1,ofVal,unSc,aload,afill,splice,abound,asI,elems,IntKind.bits,sortT,eqNil,closedL,allByte,patch,pendOK,numA,Value.cells,Value.oneCell',ibin,List.replicate,Option.elim,Nat.reduceAdd,Nat.reduceSub,Nat.reduceMul,Nat.reduceLT,Nat.reduceEqDiff,Nat.reduceLeDiff,Nat.reduceBEq,Int.reduceLE,Int.reduceLT,Int.reduceToNat,Int.reduceBNe,Int.reduceBEq,Int.reduceNeg,Int.reduceEq,Int.reduceNe,Nat.reduceBNe,Int.reduceAdd,Int.reduceSub,Int.reduceMul,Int.reducePow,Nat.reducePow,Int.reduceGT,Int.reduceGE,if_true,if_false,ite_true,ite_false,beq_self_eq_true,BEq.rfl,reduceCtorEq,eq_self,ne_eq,Function.comp_def,beq_iff_eq]
    refine awake5 (n := n + 4) (by omega) fun sz gz => ?_
    have cz := gz _ _ ct
    have bz : ∀ o, (sz.set st.length o)[st.length]? = some o := fun o => get_set cz o
    simp only [f0, f2, f3, f4, f5, cz, bz, evf,↓evp,evq,evr,fxa0,fxa1,fxa2,fxa3,fxa4,fxu,fxn,fxl,↓fxp,lgc,absL,fitL,flatL,ares,ares1,ofVal,unSc,aload,afill,splice,abound,asI,elems,IntKind.bits,sortT,eqNil,closedL,allByte,patch,pendOK,numA,Value.cells,Value.oneCell',ibin,List.replicate,Option.elim,Nat.reduceAdd,Nat.reduceSub,Nat.reduceMul,Nat.reduceLT,Nat.reduceEqDiff,Nat.reduceLeDiff,Nat.reduceBEq,Int.reduceLE,Int.reduceLT,Int.reduceToNat,Int.reduceBNe,Int.reduceBEq,Int.reduceNeg,Int.reduceEq,Int.reduceNe,Nat.reduceBNe,Int.reduceAdd,Int.reduceSub,Int.reduceMul,Int.reducePow,Nat.reducePow,Int.reduceGT,Int.reduceGE,if_true,if_false,ite_true,ite_false,beq_self_eq_true,BEq.rfl,reduceCtorEq,eq_self,ne_eq,Function.comp_def,beq_iff_eq]
    exact hK _
  cases d2 : decide ((i : Int) < 400)
  · simp only [f0, f2, f3, f4, f5, al, d, d2, evf,↓evp,evq,evr,fxa0,fxa1,fxa2,fxa3,fxa4,fxu,fxn,fxl,↓fxp,lgc,absL,fitL,flatL,ares,ares1,ofVal,unSc,aload,afill,splice,abound,asI,elems,IntKind.bits,sortT,eqNil,closedL,allByte,patch,pendOK,numA,Value.cells,Value.oneCell',ibin,List.replicate,Option.elim,Nat.reduceAdd,Nat.reduceSub,Nat.reduceMul,Nat.reduceLT,Nat.reduceEqDiff,Nat.reduceLeDiff,Nat.reduceBEq,Int.reduceLE,Int.reduceLT,Int.reduceToNat,Int.reduceBNe,Int.reduceBEq,Int.reduceNeg,Int.reduceEq,Int.reduceNe,Nat.reduceBNe,Int.reduceAdd,Int.reduceSub,Int.reduceMul,Int.reducePow,Nat.reducePow,Int.reduceGT,Int.reduceGE,if_true,if_false,ite_true,ite_false,beq_self_eq_true,BEq.rfl,reduceCtorEq,eq_self,ne_eq,Function.comp_def,beq_iff_eq]
    refine awake5 (n := n + 4) (by omega) fun sz gz => ?_
    have cz := gz _ _ ct
    have bz : ∀ o, (sz.set st.length o)[st.length]? = some o := fun o => get_set cz o
    simp only [f0, f2, f3, f4, f5, cz, bz, evf,↓evp,evq,evr,fxa0,fxa1,fxa2,fxa3,fxa4,fxu,fxn,fxl,↓fxp,lgc,absL,fitL,flatL,ares,ares1,ofVal,unSc,aload,afill,splice,abound,asI,elems,IntKind.bits,sortT,eqNil,closedL,allByte,patch,pendOK,numA,Value.cells,Value.oneCell',ibin,List.replicate,Option.elim,Nat.reduceAdd,Nat.reduceSub,Nat.reduceMul,Nat.reduceLT,Nat.reduceEqDiff,Nat.reduceLeDiff,Nat.reduceBEq,Int.reduceLE,Int.reduceLT,Int.reduceToNat,Int.reduceBNe,Int.reduceBEq,Int.reduceNeg,Int.reduceEq,Int.reduceNe,Nat.reduceBNe,Int.reduceAdd,Int.reduceSub,Int.reduceMul,Int.reducePow,Nat.reducePow,Int.reduceGT,Int.reduceGE,if_true,if_false,ite_true,ite_false,beq_self_eq_true,BEq.rfl,reduceCtorEq,eq_self,ne_eq,Function.comp_def,beq_iff_eq]
    exact hK _
  have hil := of_decide_eq_true d
  have hil : i < E.length := by omega
  obtain ⟨p1, p2⟩ := ix_flat (f := A6.v) (fun a => rfl) (he s) Try.underlying22 sz36 ag36 (by omega) hil
  obtain ⟨p3, p4⟩ := a_d (he s) hil
  simp only [f0, f2, f3, f4, f5, al, d, d2, p1, p3, p4, evf,↓evp,evq,evr,fxa0,fxa1,fxa2,fxa3,fxa4,fxu,fxn,fxl,↓fxp,lgc,absL,fitL,flatL,ares,ares1,ofVal,unSc,aload,afill,splice,abound,asI,elems,IntKind.bits,sortT,eqNil,closedL,allByte,patch,pendOK,numA,Value.cells,Value.oneCell',ibin,List.replicate,Option.elim,Nat.reduceAdd,Nat.reduceSub,Nat.reduceMul,Nat.reduceLT,Nat.reduceEqDiff,Nat.reduceLeDiff,Nat.reduceBEq,Int.reduceLE,Int.reduceLT,Int.reduceToNat,Int.reduceBNe,Int.reduceBEq,Int.reduceNeg,Int.reduceEq,Int.reduceNe,Nat.reduceBNe,Int.reduceAdd,Int.reduceSub,Int.reduceMul,Int.reducePow,Nat.reducePow,Int.reduceGT,Int.reduceGE,if_true,if_false,ite_true,ite_false,beq_self_eq_true,BEq.rfl,reduceCtorEq,eq_self,ne_eq,Function.comp_def,beq_iff_eq]
  obtain ⟨p5, p6⟩ := a_id (he s) hil
  obtain ⟨p7, p8, p9, p10⟩ := a_r (he s) hil
  have hidi := hid _ (List.getElem_mem hil)
  have ntm : ∀ (j : Nat) (c : List V), s[j]? = some (.cells c) → j ≠ s2.length ∧ j ≠ s2.length + 1 := fun j c hj => ⟨(fun h => by have := ix.us; rw [← h, hj] at this; cases this), (fun h => by have := ix.os; rw [← h, hj] at this; cases this)⟩
  have fl : (L.flatMap U.v).length = L.length * 5 := flatMap_len (f := U.v) (s := 5) (fun _ => rfl) _
  have yr : Ri s s3.length yv L := ⟨yy, gl.cut sz48 fl⟩
  cases q1 : E[i].d.tmod 3 == 1
  case' true =>
    simp only [f0, f2, f3, f4, f5, p1, p5, p6, p7, p8, p9, p10, evf,↓evp,evq,evr,fxa0,fxa1,fxa2,fxa3,fxa4,fxu,fxn,fxl,↓fxp,lgc,absL,fitL,flatL,ares,ares1,ofVal,unSc,aload,afill,splice,abound,asI,elems,IntKind.bits,sortT,eqNil,closedL,allByte,patch,pendOK,numA,Value.cells,Value.oneCell',ibin,List.replicate,Option.elim,Nat.reduceAdd,Nat.reduceSub,Nat.reduceMul,Nat.reduceLT,Nat.reduceEqDiff,Nat.reduceLeDiff,Nat.reduceBEq,Int.reduceLE,Int.reduceLT,Int.reduceToNat,Int.reduceBNe,Int.reduceBEq,Int.reduceNeg,Int.reduceEq,Int.reduceNe,Nat.reduceBNe,Int.reduceAdd,Int.reduceSub,Int.reduceMul,Int.reducePow,Nat.reducePow,Int.reduceGT,Int.reduceGE,if_true,if_false,ite_true,ite_false,beq_self_eq_true,BEq.rfl,reduceCtorEq,eq_self,ne_eq,Function.comp_def,beq_iff_eq]
    refine do_Move (n := n + 4) rel gd ix (by omega) (by omega) ?ne1 ?eq1
  case' false =>
    cases q2 : E[i].d.tmod 3 == 2
  case' false.true =>
    simp only [f0, f2, f3, f4, f5, p1, p5, p6, p7, p8, p9, p10, q2, evf,↓evp,evq,evr,fxa0,fxa1,fxa2,fxa3,fxa4,fxu,fxn,fxl,↓fxp,lgc,absL,fitL,flatL,ares,ares1,ofVal,unSc,aload,afill,splice,abound,asI,elems,IntKind.bits,sortT,eqNil,closedL,allByte,patch,pendOK,numA,Value.cells,Value.oneCell',ibin,List.replicate,Option.elim,Nat.reduceAdd,Nat.reduceSub,Nat.reduceMul,Nat.reduceLT,Nat.reduceEqDiff,Nat.reduceLeDiff,Nat.reduceBEq,Int.reduceLE,Int.reduceLT,Int.reduceToNat,Int.reduceBNe,Int.reduceBEq,Int.reduceNeg,Int.reduceEq,Int.reduceNe,Nat.reduceBNe,Int.reduceAdd,Int.reduceSub,Int.reduceMul,Int.reducePow,Nat.reducePow,Int.reduceGT,Int.reduceGE,if_true,if_false,ite_true,ite_false,beq_self_eq_true,BEq.rfl,reduceCtorEq,eq_self,ne_eq,Function.comp_def,beq_iff_eq]
    refine do_Take (n := n + 5) rel gd ix (by omega) (by omega) ?ne2 ?eq2
  case' false.false =>
    simp only [f0, f2, f3, f4, f5, p1, p5, p6, p7, p8, p9, p10, q2, evf,↓evp,evq,evr,fxa0,fxa1,fxa2,fxa3,fxa4,fxu,fxn,fxl,↓fxp,lgc,absL,fitL,flatL,ares,ares1,ofVal,unSc,aload,afill,splice,abound,asI,elems,IntKind.bits,sortT,eqNil,closedL,allByte,patch,pendOK,numA,Value.cells,Value.oneCell',ibin,List.replicate,Option.elim,Nat.reduceAdd,Nat.reduceSub,Nat.reduceMul,Nat.reduceLT,Nat.reduceEqDiff,Nat.reduceLeDiff,Nat.reduceBEq,Int.reduceLE,Int.reduceLT,Int.reduceToNat,Int.reduceBNe,Int.reduceBEq,Int.reduceNeg,Int.reduceEq,Int.reduceNe,Nat.reduceBNe,Int.reduceAdd,Int.reduceSub,Int.reduceMul,Int.reducePow,Nat.reducePow,Int.reduceGT,Int.reduceGE,if_true,if_false,ite_true,ite_false,beq_self_eq_true,BEq.rfl,reduceCtorEq,eq_self,ne_eq,Function.comp_def,beq_iff_eq]
    refine do_Put (n := n + 5) rel gd ix (by omega) (by omega) hidi ?ne3 ?eq3
  case' ne1 | ne2 | ne3 =>
    intro e s4 ee g4
    have e' : (e != 0) = true := by simpa using ee
    have ct4 := g4 _ _ ct
    have ty4 := g4 _ _ ty
    have yy4 := g4 _ _ yy
    have ix4 := ix.grw g4
    simp only [f0, f2, f3, f4, f5, e', ct4, ty4, p1, p5, p6, p7, p8, p9, p10, g4, evf,↓evp,evq,evr,fxa0,fxa1,fxa2,fxa3,fxa4,fxu,fxn,fxl,↓fxp,lgc,absL,fitL,flatL,ares,ares1,ofVal,unSc,aload,afill,splice,abound,asI,elems,IntKind.bits,sortT,eqNil,closedL,allByte,patch,pendOK,numA,Value.cells,Value.oneCell',ibin,List.replicate,Option.elim,Nat.reduceAdd,Nat.reduceSub,Nat.reduceMul,Nat.reduceLT,Nat.reduceEqDiff,Nat.reduceLeDiff,Nat.reduceBEq,Int.reduceLE,Int.reduceLT,Int.reduceToNat,Int.reduceBNe,Int.reduceBEq,Int.reduceNeg,Int.reduceEq,Int.reduceNe,Nat.reduceBNe,Int.reduceAdd,Int.reduceSub,Int.reduceMul,Int.reducePow,Nat.reducePow,Int.reduceGT,Int.reduceGE,if_true,if_false,ite_true,ite_false,beq_self_eq_true,BEq.rfl,reduceCtorEq,eq_self,ne_eq,Function.comp_def,beq_iff_eq]
    refine l5_same (n := n + 6) rel gd ix4 (yr.grw g4) (by omega) fun s5 g5 => ?_
    simp only [f0, f2, f3, f4, f5, g5, evf,↓evp,evq,evr,fxa0,fxa1,fxa2,fxa3,fxa4,fxu,fxn,fxl,↓fxp,lgc,absL,fitL,flatL,ares,ares1,ofVal,unSc,aload,afill,splice,abound,asI,elems,IntKind.bits,sortT,eqNil,closedL,allByte,patch,pendOK,numA,Value.cells,Value.oneCell',ibin,List.replicate,Option.elim,Nat.reduceAdd,Nat.reduceSub,Nat.reduceMul,Nat.reduceLT,Nat.reduceEqDiff,Nat.reduceLeDiff,Nat.reduceBEq,Int.reduceLE,Int.reduceLT,Int.reduceToNat,Int.reduceBNe,Int.reduceBEq,Int.reduceNeg,Int.reduceEq,Int.reduceNe,Nat.reduceBNe,Int.reduceAdd,Int.reduceSub,Int.reduceMul,Int.reducePow,Nat.reducePow,Int.reduceGT,Int.reduceGE,if_true,if_false,ite_true,ite_false,beq_self_eq_true,BEq.rfl,reduceCtorEq,eq_self,ne_eq,Function.comp_def,beq_iff_eq]
    obtain ⟨sq, us1, os1, L1, yv1, ixq, relq, gdq, ctq, tyq, yyq⟩ : ∃ sq us1 os1 L1 yv1, (Ix sq (s2.length + 2) s2.length (s2.length + 1) us1 os1 ∧ sq = s5) ∧ Rel us1 os1 L1 ∧ Gd L1 ∧ sq[st.length]? = some (.cells [.sc (.bool false)]) ∧ sq[s3.length + 1]? = some (.cells [.ref s3.length 0]) ∧ sq[s3.length]? = some (.cells [yv1]) :=
      ⟨s5, us, os, L, yv, ⟨ix4.grw g5, rfl⟩, rel, gd, g5 _ _ ct4, g5 _ _ ty4, g5 _ _ yy4⟩
    obtain ⟨ixq, hsq⟩ := ixq
    subst hsq
  case' eq1 | eq2 | eq3 =>
    intro us1 os1 L1 s4 ix4 relq gdq k4
    have ct4 := k4 _ _ (ntm _ _ ct).1 (ntm _ _ ct).2 ct
    have ty4 := k4 _ _ (ntm _ _ ty).1 (ntm _ _ ty).2 ty
    have yy4 := k4 _ _ (ntm _ _ yy).1 (ntm _ _ yy).2 yy
    have e' : ((0 : Int) != 0) = false := rfl
    simp only [f0, f2, f3, f4, f5, e', ct4, ty4, p1, p5, p6, p7, p8, p9, p10, evf,↓evp,evq,evr,fxa0,fxa1,fxa2,fxa3,fxa4,fxu,fxn,fxl,↓fxp,lgc,absL,fitL,flatL,ares,ares1,ofVal,unSc,aload,afill,splice,abound,asI,elems,IntKind.bits,sortT,eqNil,closedL,allByte,patch,pendOK,numA,Value.cells,Value.oneCell',ibin,List.replicate,Option.elim,Nat.reduceAdd,Nat.reduceSub,Nat.reduceMul,Nat.reduceLT,Nat.reduceEqDiff,Nat.reduceLeDiff,Nat.reduceBEq,Int.reduceLE,Int.reduceLT,Int.reduceToNat,Int.reduceBNe,Int.reduceBEq,Int.reduceNeg,Int.reduceEq,Int.reduceNe,Nat.reduceBNe,Int.reduceAdd,Int.reduceSub,Int.reduceMul,Int.reducePow,Nat.reducePow,Int.reduceGT,Int.reduceGE,if_true,if_false,ite_true,ite_false,beq_self_eq_true,BEq.rfl,reduceCtorEq,eq_self,ne_eq,Function.comp_def,beq_iff_eq]
    obtain ⟨sq, yv1, ixq, ctq, tyq, yyq⟩ : ∃ sq yv1, (Ix sq (s2.length + 2) s2.length (s2.length + 1) us1 os1 ∧ sq = s4) ∧ sq[st.length]? = some (.cells [.sc (.bool false)]) ∧ sq[s3.length + 1]? = some (.cells [.ref s3.length 0]) ∧ sq[s3.length]? = some (.cells [yv1]) :=
      ⟨s4, yv, ⟨ix4, rfl⟩, ct4, ty4, yy4⟩
    obtain ⟨ixq, hsq⟩ := ixq
    subst hsq
  all_goals
    simp only [f2, f3, f4, tyq, yyq, evf,↓evp,evq,evr,fxa0,fxa1,fxa2,fxa3,fxa4,fxu,fxn,fxl,↓fxp,lgc,absL,fitL,flatL,ares,ares1,ofVal,unSc,aload,afill,splice,abound,asI,elems,IntKind.bits,sortT,eqNil,closedL,allByte,patch,pendOK,numA,Value.cells,Value.oneCell',ibin,List.replicate,Option.elim,Nat.reduceAdd,Nat.reduceSub,Nat.reduceMul,Nat.reduceLT,Nat.reduceEqDiff,Nat.reduceLeDiff,Nat.reduceBEq,Int.reduceLE,Int.reduceLT,Int.reduceToNat,Int.reduceBNe,Int.reduceBEq,Int.reduceNeg,Int.reduceEq,Int.reduceNe,Nat.reduceBNe,Int.reduceAdd,Int.reduceSub,Int.reduceMul,Int.reducePow,Nat.reducePow,Int.reduceGT,Int.reduceGE,if_true,if_false,ite_true,ite_false,beq_self_eq_true,BEq.rfl,reduceCtorEq,eq_self,ne_eq,Function.comp_def,beq_iff_eq]
    obtain ⟨sn, hsn⟩ : ∃ sn, sn = sq.set s3.length (Ob.cells [.tsl [] 0 true true]) := ⟨_, rfl⟩
    have kn : ∀ j o, j ≠ s3.length → sq[j]? = some o → sn[j]? = some o := fun j o hj ho => by rw [hsn, List.getElem?_set_ne (Ne.symm hj)]; exact ho
    have yyn : sn[s3.length]? = some (.cells [.tsl [] 0 true true]) := by rw [hsn]; exact get_set yyq _
    have ctn := kn _ _ (by omega) ctq
    have tyn := kn _ _ (by omega) tyq
    have ixn : Ix sn (s2.length + 2) s2.length (s2.length + 1) us1 os1 := ⟨kn _ _ (by omega) ixq.ix, kn _ _ (by omega) ixq.us, kn _ _ (by omega) ixq.os⟩
    rw [← hsn]
    refine o_All (n := n + 10) rfl rfl ?_
    obtain ⟨sa, hsa⟩ : ∃ sa, sa = sn ++ [Ob.cells [.ref (s2.length + 2) 0]] := ⟨_, rfl⟩
    have ga : Grw sn sa := by rw [hsa]; exact .push _ _
    have va : sa[sn.length]? = some (.cells [.ref (s2.length + 2) 0]) := by rw [hsa]; exact get_new0 _ _
    have lsa : sa.length = sn.length + 1 := by rw [hsa]; simp
    have lnt : s3.length + 1 < sn.length := (List.getElem?_eq_some_iff.1 tyn).1
    rw [← hsa]
    simp only [f2, f3, f4, evf,↓evp,evq,evr,fxa0,fxa1,fxa2,fxa3,fxa4,fxu,fxn,fxl,↓fxp,lgc,absL,fitL,flatL,ares,ares1,ofVal,unSc,aload,afill,splice,abound,asI,elems,IntKind.bits,sortT,eqNil,closedL,allByte,patch,pendOK,numA,Value.cells,Value.oneCell',ibin,List.replicate,Option.elim,Nat.reduceAdd,Nat.reduceSub,Nat.reduceMul,Nat.reduceLT,Nat.reduceEqDiff,Nat.reduceLeDiff,Nat.reduceBEq,Int.reduceLE,Int.reduceLT,Int.reduceToNat,Int.reduceBNe,Int.reduceBEq,Int.reduceNeg,Int.reduceEq,Int.reduceNe,Nat.reduceBNe,Int.reduceAdd,Int.reduceSub,Int.reduceMul,Int.reducePow,Nat.reducePow,Int.reduceGT,Int.reduceGE,if_true,if_false,ite_true,ite_false,beq_self_eq_true,BEq.rfl,reduceCtorEq,eq_self,ne_eq,Function.comp_def,beq_iff_eq]
    generalize hZ : (sa ++ [_]) = Z
    have gZ : Grw sa Z := by rw [← hZ]; exact .push _ _
    have lZ : Z.length = sa.length + 1 := by rw [← hZ]; simp
    obtain ⟨F, ps, asg, body, hc, q4, hl0⟩ : ∃ F ps asg body, frf (Try.f4.body.getD .skip) = some (ps, asg, body) ∧ F 4 = .ref (s3.length + 1) 0 ∧ Z[sa.length]? = some (.loop .ready none (pl 4) (ofF 118 F) ps.toList asg body) := by
      refine ⟨_, _, _, _, rfl, ?_, (by rw [← hZ]; exact get_new0 sa _)⟩
      simp only [f4, evf, ne_eq, Nat.reduceEqDiff, Nat.reduceLT, not_false_eq_true]
    have gnZ := ga.trans gZ
    have eL : (L1.map U.id).length = L1.length := List.length_map _
    refine o_Each (n := n + 7) (l := sa.length) (rb := sn.length) (ids := L1.map U.id) (J := fun _ => False)
      (I := fun r ro k s => ∃ yv', s[r]? = some ro ∧ Z.length ≤ r ∧ rowOf yv' ≠ some r ∧ s[s3.length]? = some (.cells [yv']) ∧ Gl s 48 yv' ((L1.take k).flatMap U.v) k ∧ s[sa.length]? = some (.loop .ready none (pl 4) (ofF 118 F) ps.toList asg body) ∧ (∀ j, rowOf yv' = some j → Z.length ≤ j) ∧ (∀ j o, j < sa.length → j ≠ s3.length → sa[j]? = some o → s[j]? = some o) ∧ Z.length ≤ s.length)
      (ixn.grw gnZ) (gZ _ _ va) relq.ni relq.mem gdq.pw gdq.ir (by rw [eL]; exact gdq.len) (by omega) ?_ ?_ ?_ ?_ (fun _ h => h.elim)
    · rintro r ro k s ⟨yv', i1, i2, i3, i4, i5, i6, i7, i8, i9⟩
      exact ⟨i8 _ _ (by omega) (by omega) va, ⟨i8 _ _ (by omega) (by omega) (ga _ _ ixn.ix), i8 _ _ (by omega) (by omega) (ga _ _ ixn.us), i8 _ _ (by omega) (by omega) (ga _ _ ixn.os)⟩, i1⟩
    · intro r ro s g hr1 hr2
      exact ⟨_, hr2, hr1, (fun h => by cases h), g _ _ (gnZ _ _ yyn), .inl ⟨rfl, rfl, rfl⟩, g _ _ hl0, (fun j h => by cases h), (fun j o _ _ ho => g _ _ (gZ _ _ ho)), g.le⟩
    · rintro r ro i hil v s K' hv ⟨yv', i1, i2, i3, i4, i5, i6, i7, i8, i9⟩ hK1 _
      have hil' : i < L1.length := by rw [eL] at hil; exact hil
      simp only [List.getElem_map] at hv ⊢
      rw [relq.at_id hil' hv]
      have e : (L1.take i).length = i := by simp; omega
      have e2 : L1.take i ++ [L1[i]] = L1.take (i + 1) := by rw [List.take_append_getElem]
      have hlen := gdq.len
      refine apart_yl (n := n + 3) (yv := yv') (pre := L1.take i) (u := L1[i]) (t4 := s3.length + 1) (lid := sa.length) (F := F) (p := none) (iy := s3.length) hc q4 (i8 _ _ (by omega) (by omega) (ga _ _ tyn)) i4 (by rw [e]; exact i5) (by omega) (by omega) (val_facts (relq.val _ (List.getElem_mem hil'))).1 (fun q hq => ?_) i6 ?_
      · unfold othR
        by_cases hqi : q.id = L1[i].id
        · have : (q.id != L1[i].id) = false := by simpa using hqi
          rw [this, Bool.false_and]
        · rw [show meetsR L1[i].x L1[i].y L1[i].w L1[i].h q = false from relq.apart (List.mem_of_mem_take hq) (List.getElem_mem hil') hqi, Bool.and_false]
      intro yv2 s' k1 k2 k3 k4 k5 k6
      rw [e, e2] at k1
      have rs : r < s.length := (List.getElem?_eq_some_iff.1 i1).1
      refine hK1 _ ⟨yv2, k4 _ _ (by omega) (by omega) i3 i1, i2, (fun h => ?_), k2, k1, k3, (fun j h => ?_), (fun j o hj hj2 ho => ?_), by omega⟩
      · rcases k6 _ h with h | h
        · exact i3 h
        · omega
      · rcases k6 _ h with h | h
        · exact i7 _ h
        · omega
      · exact k4 _ _ (by omega) (by omega) (fun h => by have := i7 _ h; omega) (i8 _ _ hj hj2 ho)
    · rintro r ro s ⟨yv', i1, i2, i3, i4, i5, i6, i7, i8, i9⟩
      rw [eL] at i5
      rw [List.take_length] at i5
      refine rfEnd_normal i6 (by decide) ?_
      generalize hsz : s.set sa.length _ = sz
      have kz : ∀ j o, j ≠ sa.length → s[j]? = some o → sz[j]? = some o := fun j o hj ho => by rw [← hsz, List.getElem?_set_ne (Ne.symm hj)]; exact ho
      have k8 : ∀ j o, j < sa.length → j ≠ s3.length → sa[j]? = some o → sz[j]? = some o := fun j o h1 h2 ho => kz _ _ (by omega) (i8 _ _ h1 h2 ho)
      have glz : Gl sz 48 yv' (L1.flatMap U.v) L1.length := i5.of fun j o hj ho => kz _ _ (by have := i7 _ hj; omega) ho
      simp only [f5, e3, evf,↓evp,evq,evr,fxa0,fxa1,fxa2,fxa3,fxa4,fxu,fxn,fxl,↓fxp,lgc,absL,fitL,flatL,ares,ares1,ofVal,unSc,aload,afill,splice,abound,asI,elems,IntKind.bits,sortT,eqNil,closedL,allByte,patch,pendOK,numA,Value.cells,Value.oneCell',ibin,List.replicate,Option.elim,Nat.reduceAdd,Nat.reduceSub,Nat.reduceMul,Nat.reduceLT,Nat.reduceEqDiff,Nat.reduceLeDiff,Nat.reduceBEq,Int.reduceLE,Int.reduceLT,Int.reduceToNat,Int.reduceBNe,Int.reduceBEq,Int.reduceNeg,Int.reduceEq,Int.reduceNe,Nat.reduceBNe,Int.reduceAdd,Int.reduceSub,Int.reduceMul,Int.reducePow,Nat.reducePow,Int.reduceGT,Int.reduceGE,if_true,if_false,ite_true,ite_false,beq_self_eq_true,BEq.rfl,reduceCtorEq,eq_self,ne_eq,Function.comp_def,beq_iff_eq]
      exact hI' _ _ _ ⟨i + 1, us1, os1, L1, yv', by omega, by omega, by have := of_decide_eq_true d2; omega, ⟨k8 _ _ (by omega) (by omega) (ga _ _ ixn.ix), k8 _ _ (by omega) (by omega) (ga _ _ ixn.us), k8 _ _ (by omega) (by omega) (ga _ _ ixn.os)⟩, relq, gdq, k8 _ _ (by omega) (by omega) (ga _ _ ctn), k8 _ _ (by omega) (by omega) (ga _ _ tyn), kz _ _ (by omega) i4, glz, by simp only [f0, evf, ne_eq, Nat.reduceEqDiff, Nat.reduceLT, not_false_eq_true], by simp only [f2, evf, ne_eq, Nat.reduceEqDiff, Nat.reduceLT, not_false_eq_true], by simp only [f3, evf, ne_eq, Nat.reduceEqDiff, Nat.reduceLT, not_false_eq_true], by simp only [f4, evf, ne_eq, Nat.reduceEqDiff, Nat.reduceLT, not_false_eq_true], by simp only [evf, ne_eq, Nat.reduceEqDiff, Nat.reduceLT, not_false_eq_true]⟩
end
end Go.Proofs.Ytgmccnnjpejigaa
