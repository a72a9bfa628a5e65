/- Chapter 5: a unit moved, taken. -/
import Derived.Test.YtgmccnnjpejigaaB25
set_option linter.unusedVariables false
set_option linter.unusedSimpArgs false
set_option maxRecDepth 10000
namespace Go.Proofs.Ytgmccnnjpejigaa
open Go Go.M Go.RowKit
attribute [local congr] acallF_cong aloop_cong bcase_cong resK_cong valK_cong wantK_cong callK_cong xputK_cong qputK_cong resM_cong rfK_cong
attribute [local irreducible] seqK blockK loopK nextK bcase resK valK wantK funK putK dputK xputK qputK callK aops aop acode adraw aloop acallF acall invK resM rfK rfEnd rdEnd rdMid around
def mvU (u : U) (x y : Int) : U := ⟨u.id, x, y, u.w, u.h⟩
section
variable {us : List (Int × V)} {os : List ((Int × Int) × V)} {L : List U}
theorem Rel.move (h : Rel us os L) (i : Nat) (hi : i < L.length) (x y : Int) (hv : valB (mvU L[i] x y) = true) (hno : ¬ ∃ p ∈ L, p.id ≠ L[i].id ∧ ∃ a b, inU p a b ∧ inU (mvU L[i] x y) a b) :
    Rel (putI L[i].id (.agg (rc x y L[i].w L[i].h)) (delI L[i].id us)) (fillC (.sc (.int .i64 L[i].id)) x y L[i].w.toNat (cutC L[i].x L[i].y L[i].w.toNat os (L[i].h.toNat * L[i].w.toNat)) (L[i].h.toNat * L[i].w.toNat)) (L.set i (mvU L[i] x y)) := by
  have h0 := h.take i hi
  have hL : L = L.take i ++ L[i] :: L.drop (i + 1) := by rw [← List.drop_eq_getElem_cons hi, List.take_append_drop]
  have hp : L.Perm (L[i] :: (L.take i ++ L.drop (i + 1))) := by
    conv => lhs; rw [hL]
    exact List.perm_middle
  have hnd : (L[i] :: (L.take i ++ L.drop (i + 1))).map U.id |>.Nodup := ((hp.map U.id).nodup_iff).1 h.ids
  rw [List.map_cons, List.nodup_cons] at hnd
  have hset : L.set i (mvU L[i] x y) = L.take i ++ mvU L[i] x y :: L.drop (i + 1) := by rw [List.set_eq_take_append_cons_drop, if_pos hi]
  refine h0.put (u := mvU L[i] x y) (L' := L.set i (mvU L[i] x y)) hv (by rw [getI_delI _ _ h.ni]; simp [mvU]) ?_ (fun v => ?_) ?_ ?_
  · rintro ⟨p, hp0, hab⟩
    refine hno ⟨p, hp.mem_iff.2 (List.mem_cons_of_mem _ hp0), fun he => hnd.1 (List.mem_map.2 ⟨p, hp0, he⟩), hab⟩
  · rw [hset]; simp only [List.mem_append, List.mem_cons]
    constructor
    · rintro (h1 | h1 | h1)
      · exact .inr (.inl h1)
      · exact .inl h1
      · exact .inr (.inr h1)
    · rintro (h1 | h1 | h1)
      · exact .inr (.inl h1)
      · exact .inl h1
      · exact .inr (.inr h1)
  · have : (L.set i (mvU L[i] x y)).map U.id = L.map U.id := by
      rw [hset, List.map_append, List.map_cons]
      have := congrArg (List.map U.id) hL
      rw [List.map_append, List.map_cons] at this
      exact this.symm
    rw [this]; exact h.ids
  · rw [List.length_set, List.length_append, List.length_take, List.length_drop]; omega
theorem Srt.move (h : Srt L) (i : Nat) (hi : i < L.length) (x y : Int) : Srt (L.set i (mvU L[i] x y)) := by
  have hL : L = L.take i ++ L[i] :: L.drop (i + 1) := by rw [← List.drop_eq_getElem_cons hi, List.take_append_drop]
  have hset : L.set i (mvU L[i] x y) = L.take i ++ mvU L[i] x y :: L.drop (i + 1) := by rw [List.set_eq_take_append_cons_drop, if_pos hi]
  have e : (L.set i (mvU L[i] x y)).map U.id = L.map U.id := by
    rw [hset, List.map_append, List.map_cons]
    have := congrArg (List.map U.id) hL
    rw [List.map_append, List.map_cons] at this
    exact this.symm
  unfold Srt at h ⊢
  rw [← List.pairwise_map (f := U.id) (R := fun a b : Int => a < b)] at h ⊢
  rw [e]; exact h
end
section
variable {n m : Nat} {st s : List Ob} {K : V → List Ob → Prop} {ix a b : Nat} {us : List (Int × V)} {os : List ((Int × Int) × V)} {L : List U} {x y w h id : Int}
set_option maxHeartbeats 4000000 in
theorem o_Take (hr : Rel us os L) (hi : Ix st ix a b us os) (hab : a ≠ b) (hm : 4 < m)
    (hN : placeI id L 0 = -1 → ∀ s, Grw st s → K (.sc (.int .i64 4)) s)
    (h0 : ∀ i (hi : i < L.length), placeI id L 0 = i → L[i].id = id → ∀ us' os' s, Ix s ix a b us' os' → Rel us' os' (L.take i ++ L.drop (i + 1)) → Kp a b st s → K (.sc (.int .i64 0)) s) :
    acallF Try.prog pl (n + 6) m 20 [.ref ix 0, .sc (.int .i64 id)] st K := by
  refine acallF_inF Try.func20 rfl rfl Try.ntmps20 (by simp) ?_
  simp only [evf,↓evp,evq,evr,fxa0,fxa1,fxa2,fxa3,fxa4,fxu,fxn,fxl,↓fxp,lgc,absL,fitL,flatL,ares,ares1,ofVal,unSc,aload,afill,splice,abound,asI,elems,IntKind.bits,sortT,eqNil,closedL,allByte,patch,pendOK,numA,Value.cells,Value.oneCell',ibin,List.replicate,Option.elim,Nat.reduceAdd,Nat.reduceSub,Nat.reduceMul,Nat.reduceLT,Nat.reduceEqDiff,Nat.reduceLeDiff,Nat.reduceBEq,Int.reduceLE,Int.reduceLT,Int.reduceToNat,Int.reduceBNe,Int.reduceBEq,Int.reduceNeg,Int.reduceEq,Int.reduceNe,Nat.reduceBNe,Int.reduceAdd,Int.reduceSub,Int.reduceMul,Int.reducePow,Nat.reducePow,Int.reduceGT,Int.reduceGE,if_true,if_false,ite_true,ite_false,beq_self_eq_true,BEq.rfl,reduceCtorEq,eq_self,ne_eq,Function.comp_def,beq_iff_eq]
  refine o_is1 (n := n + 4) hi ?_
  have i1 := hi.ix
  have look := lk_int (e := 34) (z := .agg (rc 0 0 0 0)) Try.underlying59 (by kernel_rfl) hi.us id
  simp only [rc] at look
  rcases hr.find id with ⟨f1, f2⟩ | ⟨i, hil, f1, f2, f3⟩
  · simp only [f1] at look
    simp only [i1, look, evf,↓evp,evq,evr,fxa0,fxa1,fxa2,fxa3,fxa4,fxu,fxn,fxl,↓fxp,lgc,absL,fitL,flatL,ares,ares1,ofVal,unSc,aload,afill,splice,abound,asI,elems,IntKind.bits,sortT,eqNil,closedL,allByte,patch,pendOK,numA,Value.cells,Value.oneCell',ibin,List.replicate,Option.elim,Nat.reduceAdd,Nat.reduceSub,Nat.reduceMul,Nat.reduceLT,Nat.reduceEqDiff,Nat.reduceLeDiff,Nat.reduceBEq,Int.reduceLE,Int.reduceLT,Int.reduceToNat,Int.reduceBNe,Int.reduceBEq,Int.reduceNeg,Int.reduceEq,Int.reduceNe,Nat.reduceBNe,Int.reduceAdd,Int.reduceSub,Int.reduceMul,Int.reducePow,Nat.reducePow,Int.reduceGT,Int.reduceGE,if_true,if_false,ite_true,ite_false,beq_self_eq_true,BEq.rfl,reduceCtorEq,eq_self,ne_eq,Function.comp_def,beq_iff_eq]
    exact hN f2 _ (Grw.push _ _)
  · have hv := hr.val _ (List.getElem_mem hil)
    obtain ⟨hmay, v1, v2, v3, v4⟩ := val_facts hv
    have ht := hr.take i hil
    have h0 := h0 i hil f1 f2
    simp only [f3, rc] at look
    simp only [i1, look, evf,↓evp,evq,evr,fxa0,fxa1,fxa2,fxa3,fxa4,fxu,fxn,fxl,↓fxp,lgc,absL,fitL,flatL,ares,ares1,ofVal,unSc,aload,afill,splice,abound,asI,elems,IntKind.bits,sortT,eqNil,closedL,allByte,patch,pendOK,numA,Value.cells,Value.oneCell',ibin,List.replicate,Option.elim,Nat.reduceAdd,Nat.reduceSub,Nat.reduceMul,Nat.reduceLT,Nat.reduceEqDiff,Nat.reduceLeDiff,Nat.reduceBEq,Int.reduceLE,Int.reduceLT,Int.reduceToNat,Int.reduceBNe,Int.reduceBEq,Int.reduceNeg,Int.reduceEq,Int.reduceNe,Nat.reduceBNe,Int.reduceAdd,Int.reduceSub,Int.reduceMul,Int.reducePow,Nat.reducePow,Int.reduceGT,Int.reduceGE,if_true,if_false,ite_true,ite_false,beq_self_eq_true,BEq.rfl,reduceCtorEq,eq_self,ne_eq,Function.comp_def,beq_iff_eq]
    obtain ⟨W, hW⟩ := Int.eq_ofNat_of_zero_le (show 0 ≤ L[i].w by omega)
    obtain ⟨H, hH⟩ := Int.eq_ofNat_of_zero_le (show 0 ≤ L[i].h by omega)
    rw [hW, hH] at hmay f3
    rw [hW, hH, f2] at ht
    simp only [Int.toNat_natCast] at ht
    refine o_clear (n := n) (hi.grw (Grw.push _ _)) hab f3 hmay (by omega) (by omega) fun s5 h5 k5 => ?_
    simp only [evf,↓evp,evq,evr,fxa0,fxa1,fxa2,fxa3,fxa4,fxu,fxn,fxl,↓fxp,lgc,absL,fitL,flatL,ares,ares1,ofVal,unSc,aload,afill,splice,abound,asI,elems,IntKind.bits,sortT,eqNil,closedL,allByte,patch,pendOK,numA,Value.cells,Value.oneCell',ibin,List.replicate,Option.elim,Nat.reduceAdd,Nat.reduceSub,Nat.reduceMul,Nat.reduceLT,Nat.reduceEqDiff,Nat.reduceLeDiff,Nat.reduceBEq,Int.reduceLE,Int.reduceLT,Int.reduceToNat,Int.reduceBNe,Int.reduceBEq,Int.reduceNeg,Int.reduceEq,Int.reduceNe,Nat.reduceBNe,Int.reduceAdd,Int.reduceSub,Int.reduceMul,Int.reducePow,Nat.reducePow,Int.reduceGT,Int.reduceGE,if_true,if_false,ite_true,ite_false,beq_self_eq_true,BEq.rfl,reduceCtorEq,eq_self,ne_eq,Function.comp_def,beq_iff_eq]
    exact h0 _ _ _ h5 ht fun j o ja jb h => k5 j o ja jb (Grw.push _ _ _ _ h)
set_option maxHeartbeats 4000000 in
theorem o_Move (hr : Rel us os L) (hi : Ix st ix a b us os) (hab : a ≠ b) (hm : 4 < m)
    (hN : placeI id L 0 = -1 → ∀ s, Grw st s → K (.sc (.int .i64 4)) s)
    (hA : ∀ i (hi : i < L.length), placeI id L 0 = i → L[i].id = id → mayB x y L[i].w L[i].h = false → ∀ s, Grw st s → K (.sc (.int .i64 1)) s)
    (hB : ∀ i (hi : i < L.length), placeI id L 0 = i → L[i].id = id → mayB x y L[i].w L[i].h = true → (L.any fun p => p.id != id && meetsR x y L[i].w L[i].h p) = true → ∀ s, Grw st s → K (.sc (.int .i64 6)) s)
    (h0 : ∀ i (hi : i < L.length), placeI id L 0 = i → L[i].id = id → mayB x y L[i].w L[i].h = true → (L.any fun p => p.id != id && meetsR x y L[i].w L[i].h p) = false → ∀ us' os' s, Ix s ix a b us' os' → Rel us' os' (L.set i (mvU L[i] x y)) → Kp a b st s → K (.sc (.int .i64 0)) s) :
    acallF Try.prog pl (n + 7) m 19 [.ref ix 0, .sc (.int .i64 id), .agg (cl x y)] st K := by
  refine acallF_inF Try.func19 rfl rfl Try.ntmps19 (by simp) ?_
  obtain ⟨s1, hs1⟩ : ∃ s1, s1 = st ++ [Ob.cells (cl x y)] := ⟨_, rfl⟩
  have g1 : Grw st s1 := by rw [hs1]; exact .push _ _
  have c1 : s1[st.length]? = some (.cells (cl x y)) := by rw [hs1]; exact get_new0 _ _
  have hi1 := hi.grw g1
  have i1 := hi1.ix
  have l1 : s1.length = st.length + 1 := by rw [hs1]; simp
  simp only [cl] at hs1 c1
  simp only [cl, evf,↓evp,evq,evr,fxa0,fxa1,fxa2,fxa3,fxa4,fxu,fxn,fxl,↓fxp,lgc,absL,fitL,flatL,ares,ares1,ofVal,unSc,aload,afill,splice,abound,asI,elems,IntKind.bits,sortT,eqNil,closedL,allByte,patch,pendOK,numA,Value.cells,Value.oneCell',ibin,List.replicate,Option.elim,Nat.reduceAdd,Nat.reduceSub,Nat.reduceMul,Nat.reduceLT,Nat.reduceEqDiff,Nat.reduceLeDiff,Nat.reduceBEq,Int.reduceLE,Int.reduceLT,Int.reduceToNat,Int.reduceBNe,Int.reduceBEq,Int.reduceNeg,Int.reduceEq,Int.reduceNe,Nat.reduceBNe,Int.reduceAdd,Int.reduceSub,Int.reduceMul,Int.reducePow,Nat.reducePow,Int.reduceGT,Int.reduceGE,if_true,if_false,ite_true,ite_false,beq_self_eq_true,BEq.rfl,reduceCtorEq,eq_self,ne_eq,Function.comp_def,beq_iff_eq]
  rw [← hs1]
  refine o_is1 (n := n + 5) hi1 ?_
  have look := lk_int (e := 34) (z := .agg (rc 0 0 0 0)) Try.underlying59 (by kernel_rfl) hi1.us id
  simp only [rc] at look
  rcases hr.find id with ⟨f1, f2⟩ | ⟨i, hil, f1, f2, f3⟩
  · simp only [f1] at look
    simp only [i1, look, evf,↓evp,evq,evr,fxa0,fxa1,fxa2,fxa3,fxa4,fxu,fxn,fxl,↓fxp,lgc,absL,fitL,flatL,ares,ares1,ofVal,unSc,aload,afill,splice,abound,asI,elems,IntKind.bits,sortT,eqNil,closedL,allByte,patch,pendOK,numA,Value.cells,Value.oneCell',ibin,List.replicate,Option.elim,Nat.reduceAdd,Nat.reduceSub,Nat.reduceMul,Nat.reduceLT,Nat.reduceEqDiff,Nat.reduceLeDiff,Nat.reduceBEq,Int.reduceLE,Int.reduceLT,Int.reduceToNat,Int.reduceBNe,Int.reduceBEq,Int.reduceNeg,Int.reduceEq,Int.reduceNe,Nat.reduceBNe,Int.reduceAdd,Int.reduceSub,Int.reduceMul,Int.reducePow,Nat.reducePow,Int.reduceGT,Int.reduceGE,if_true,if_false,ite_true,ite_false,beq_self_eq_true,BEq.rfl,reduceCtorEq,eq_self,ne_eq,Function.comp_def,beq_iff_eq]
    exact hN f2 _ (g1.trans (Grw.push _ _))
  have hA := hA i hil f1 f2
  have hB := hB i hil f1 f2
  have h0 := h0 i hil f1 f2
  have hv := hr.val _ (List.getElem_mem hil)
  obtain ⟨hmay, v1, v2, v3, v4⟩ := val_facts hv
  have hmv := hr.move i hil x y
  rw [f2] at hmv
  simp only [f3, rc] at look
  obtain ⟨W, hW⟩ := Int.eq_ofNat_of_zero_le (show 0 ≤ L[i].w by omega)
  obtain ⟨H, hH⟩ := Int.eq_ofNat_of_zero_le (show 0 ≤ L[i].h by omega)
  simp only [hW, hH, Int.toNat_natCast] at look hA hB h0 hmv v1 v2 v3 v4 f3 hmay
  obtain ⟨s2, hs2⟩ : ∃ s2, s2 = s1 ++ [Ob.cells [.sc (.int .i64 x), .sc (.int .i64 y), .sc (.int .i64 W), .sc (.int .i64 H)]] := ⟨_, rfl⟩
  have g2 : Grw st s2 := by rw [hs2]; exact g1.trans (.push _ _)
  have r2 : s2[s1.length]? = some (.cells [.sc (.int .i64 x), .sc (.int .i64 y), .sc (.int .i64 W), .sc (.int .i64 H)]) := by rw [hs2]; exact get_new0 _ _
  have hi2 := hi.grw g2
  have i2 := hi2.ix
  have c1X := fun X => Grw.push s1 X _ _ c1
  simp only [i1, look, c1X, get_new, get_new0, M.set_new, M.set_new0, evf,↓evp,evq,evr,fxa0,fxa1,fxa2,fxa3,fxa4,fxu,fxn,fxl,↓fxp,lgc,absL,fitL,flatL,ares,ares1,ofVal,unSc,aload,afill,splice,abound,asI,elems,IntKind.bits,sortT,eqNil,closedL,allByte,patch,pendOK,numA,Value.cells,Value.oneCell',ibin,List.replicate,Option.elim,Nat.reduceAdd,Nat.reduceSub,Nat.reduceMul,Nat.reduceLT,Nat.reduceEqDiff,Nat.reduceLeDiff,Nat.reduceBEq,Int.reduceLE,Int.reduceLT,Int.reduceToNat,Int.reduceBNe,Int.reduceBEq,Int.reduceNeg,Int.reduceEq,Int.reduceNe,Nat.reduceBNe,Int.reduceAdd,Int.reduceSub,Int.reduceMul,Int.reducePow,Nat.reducePow,Int.reduceGT,Int.reduceGE,if_true,if_false,ite_true,ite_false,beq_self_eq_true,BEq.rfl,reduceCtorEq,eq_self,ne_eq,Function.comp_def,beq_iff_eq]
  rw [← hs2]
  refine c_May (n := n + 3) fun s3 g3 => ?_
  have r3 := g3 _ _ r2
  have hi3 := hi2.grw g3
  cases e1 : mayB x y W H
  case false =>
    simp only [r3, evf,↓evp,evq,evr,fxa0,fxa1,fxa2,fxa3,fxa4,fxu,fxn,fxl,↓fxp,lgc,absL,fitL,flatL,ares,ares1,ofVal,unSc,aload,afill,splice,abound,asI,elems,IntKind.bits,sortT,eqNil,closedL,allByte,patch,pendOK,numA,Value.cells,Value.oneCell',ibin,List.replicate,Option.elim,Nat.reduceAdd,Nat.reduceSub,Nat.reduceMul,Nat.reduceLT,Nat.reduceEqDiff,Nat.reduceLeDiff,Nat.reduceBEq,Int.reduceLE,Int.reduceLT,Int.reduceToNat,Int.reduceBNe,Int.reduceBEq,Int.reduceNeg,Int.reduceEq,Int.reduceNe,Nat.reduceBNe,Int.reduceAdd,Int.reduceSub,Int.reduceMul,Int.reducePow,Nat.reducePow,Int.reduceGT,Int.reduceGE,if_true,if_false,ite_true,ite_false,beq_self_eq_true,BEq.rfl,reduceCtorEq,eq_self,ne_eq,Function.comp_def,beq_iff_eq]
    exact hA e1 _ (g2.trans g3)
  have hB := hB e1
  have h0 := h0 e1
  have hWH : W * H ≤ 64 := Nat.le_trans (Nat.mul_le_mul (show W ≤ 4 by omega) (show H ≤ 4 by omega)) (by decide)
  have me := hr.meets (fun i => i != id) e1 (show W ≤ 4 by omega) (show H ≤ 4 by omega)
  simp only [r3, evf,↓evp,evq,evr,fxa0,fxa1,fxa2,fxa3,fxa4,fxu,fxn,fxl,↓fxp,lgc,absL,fitL,flatL,ares,ares1,ofVal,unSc,aload,afill,splice,abound,asI,elems,IntKind.bits,sortT,eqNil,closedL,allByte,patch,pendOK,numA,Value.cells,Value.oneCell',ibin,List.replicate,Option.elim,Nat.reduceAdd,Nat.reduceSub,Nat.reduceMul,Nat.reduceLT,Nat.reduceEqDiff,Nat.reduceLeDiff,Nat.reduceBEq,Int.reduceLE,Int.reduceLT,Int.reduceToNat,Int.reduceBNe,Int.reduceBEq,Int.reduceNeg,Int.reduceEq,Int.reduceNe,Nat.reduceBNe,Int.reduceAdd,Int.reduceSub,Int.reduceMul,Int.reducePow,Nat.reducePow,Int.reduceGT,Int.reduceGE,if_true,if_false,ite_true,ite_false,beq_self_eq_true,BEq.rfl,reduceCtorEq,eq_self,ne_eq,Function.comp_def,beq_iff_eq]
  refine o_Free1 (n := n) hr.int hi3 hWH (by omega) (by omega) fun s4 g4 => ?_
  have r4 := g4 _ _ r3
  have hi4 := hi3.grw g4
  rw [me, e1]
  cases e2 : L.any fun p => p.id != id && meetsR x y W H p
  case true =>
    simp only [Bool.not_true, Bool.and_false, evf,↓evp,evq,evr,fxa0,fxa1,fxa2,fxa3,fxa4,fxu,fxn,fxl,↓fxp,lgc,absL,fitL,flatL,ares,ares1,ofVal,unSc,aload,afill,splice,abound,asI,elems,IntKind.bits,sortT,eqNil,closedL,allByte,patch,pendOK,numA,Value.cells,Value.oneCell',ibin,List.replicate,Option.elim,Nat.reduceAdd,Nat.reduceSub,Nat.reduceMul,Nat.reduceLT,Nat.reduceEqDiff,Nat.reduceLeDiff,Nat.reduceBEq,Int.reduceLE,Int.reduceLT,Int.reduceToNat,Int.reduceBNe,Int.reduceBEq,Int.reduceNeg,Int.reduceEq,Int.reduceNe,Nat.reduceBNe,Int.reduceAdd,Int.reduceSub,Int.reduceMul,Int.reducePow,Nat.reducePow,Int.reduceGT,Int.reduceGE,if_true,if_false,ite_true,ite_false,beq_self_eq_true,BEq.rfl,reduceCtorEq,eq_self,ne_eq,Function.comp_def,beq_iff_eq]
    exact hB e2 _ ((g2.trans g3).trans g4)
  have h0 := h0 e2
  simp only [Bool.not_false, Bool.and_self, evf,↓evp,evq,evr,fxa0,fxa1,fxa2,fxa3,fxa4,fxu,fxn,fxl,↓fxp,lgc,absL,fitL,flatL,ares,ares1,ofVal,unSc,aload,afill,splice,abound,asI,elems,IntKind.bits,sortT,eqNil,closedL,allByte,patch,pendOK,numA,Value.cells,Value.oneCell',ibin,List.replicate,Option.elim,Nat.reduceAdd,Nat.reduceSub,Nat.reduceMul,Nat.reduceLT,Nat.reduceEqDiff,Nat.reduceLeDiff,Nat.reduceBEq,Int.reduceLE,Int.reduceLT,Int.reduceToNat,Int.reduceBNe,Int.reduceBEq,Int.reduceNeg,Int.reduceEq,Int.reduceNe,Nat.reduceBNe,Int.reduceAdd,Int.reduceSub,Int.reduceMul,Int.reducePow,Nat.reducePow,Int.reduceGT,Int.reduceGE,if_true,if_false,ite_true,ite_false,beq_self_eq_true,BEq.rfl,reduceCtorEq,eq_self,ne_eq,Function.comp_def,beq_iff_eq]
  refine o_clear (n := n + 1) hi4 hab f3 hmay (by omega) (by omega) fun s5 h5 k5 => ?_
  have r5 := k5 _ _ (fun hh => by have := hi4.us; rw [← hh, r4] at this; cases this) (fun hh => by have := hi4.os; rw [← hh, r4] at this; cases this) r4
  simp only [r5, evf,↓evp,evq,evr,fxa0,fxa1,fxa2,fxa3,fxa4,fxu,fxn,fxl,↓fxp,lgc,absL,fitL,flatL,ares,ares1,ofVal,unSc,aload,afill,splice,abound,asI,elems,IntKind.bits,sortT,eqNil,closedL,allByte,patch,pendOK,numA,Value.cells,Value.oneCell',ibin,List.replicate,Option.elim,Nat.reduceAdd,Nat.reduceSub,Nat.reduceMul,Nat.reduceLT,Nat.reduceEqDiff,Nat.reduceLeDiff,Nat.reduceBEq,Int.reduceLE,Int.reduceLT,Int.reduceToNat,Int.reduceBNe,Int.reduceBEq,Int.reduceNeg,Int.reduceEq,Int.reduceNe,Nat.reduceBNe,Int.reduceAdd,Int.reduceSub,Int.reduceMul,Int.reducePow,Nat.reducePow,Int.reduceGT,Int.reduceGE,if_true,if_false,ite_true,ite_false,beq_self_eq_true,BEq.rfl,reduceCtorEq,eq_self,ne_eq,Function.comp_def,beq_iff_eq]
  refine o_set (n := n + 1) h5 hab e1 (by omega) (by omega) fun s6 h6 k6 => ?_
  simp only [evf,↓evp,evq,evr,fxa0,fxa1,fxa2,fxa3,fxa4,fxu,fxn,fxl,↓fxp,lgc,absL,fitL,flatL,ares,ares1,ofVal,unSc,aload,afill,splice,abound,asI,elems,IntKind.bits,sortT,eqNil,closedL,allByte,patch,pendOK,numA,Value.cells,Value.oneCell',ibin,List.replicate,Option.elim,Nat.reduceAdd,Nat.reduceSub,Nat.reduceMul,Nat.reduceLT,Nat.reduceEqDiff,Nat.reduceLeDiff,Nat.reduceBEq,Int.reduceLE,Int.reduceLT,Int.reduceToNat,Int.reduceBNe,Int.reduceBEq,Int.reduceNeg,Int.reduceEq,Int.reduceNe,Nat.reduceBNe,Int.reduceAdd,Int.reduceSub,Int.reduceMul,Int.reducePow,Nat.reducePow,Int.reduceGT,Int.reduceGE,if_true,if_false,ite_true,ite_false,beq_self_eq_true,BEq.rfl,reduceCtorEq,eq_self,ne_eq,Function.comp_def,beq_iff_eq]
  have hv2 : valB (mvU L[i] x y) = true := by
    simp only [valB, mvU, hW, hH, e1, Bool.true_and, Bool.and_eq_true, decide_eq_true_eq]; omega
  refine h0 _ _ _ h6 (hmv hv2 ?_) fun j o ja jb ho => k6 _ _ ja jb (k5 _ _ ja jb (g4 _ _ (g3 _ _ (g2 _ _ ho))))
  rintro ⟨p, hp, hne, hab'⟩
  have hm2 := (meet_in hv2 (hr.val p hp)).2 hab'
  rw [Bool.eq_false_iff] at e2
  refine e2 (List.any_eq_true.2 ⟨p, hp, ?_⟩)
  simp only [mvU, hW, hH] at hm2
  simp only [meetsR, hm2, Bool.and_true]
  simpa using hne
end
end Go.Proofs.Ytgmccnnjpejigaa
