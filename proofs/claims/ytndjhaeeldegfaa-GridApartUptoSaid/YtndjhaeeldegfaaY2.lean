/- Chapter 4: a map's worlds behind edits. -/
import Derived.Test.YtndjhaeeldegfaaY1
set_option linter.unusedVariables false
set_option linter.unusedSimpArgs false
set_option maxRecDepth 10000
namespace Go.Proofs.Ytndjhaeeldegfaa
open Go Go.M Go.RowKit
attribute [local congr] acallF_cong aloop_cong bcase_cong resK_cong valK_cong wantK_cong callK_cong xputK_cong qputK_cong resM_cong rfK_cong
attribute [local irreducible] seqK blockK loopK nextK bcase resK valK wantK funK putK dputK xputK qputK callK aops aop acode adraw aloop acallF acall invK resM rfK rfEnd rdEnd rdMid around
/-- The caller's variables stay. -/
def FS (s s' : List Ob) : Prop := ∀ (j : Nat) (cs : List V), s[j]? = some (.cells cs) → s'[j]? = some (.cells cs)
section
variable {n m : Nat} {st s : List Ob} {K : V → List Ob → Prop} {WW HH : Int} {T : List Int} {L : List B4} {E : List E4} {tv bv lv : V}
theorem grw_fs {s s' : List Ob} (h : Grw s s') : FS s s' := fun j cs hj => h _ _ hj
theorem FS.trans {s s' s2 : List Ob} (h : FS s s') (k : FS s' s2) : FS s s2 := fun j cs hj => k _ _ (h _ _ hj)
theorem l_Play {wd a b rd : Nat} {tv tv2 dv bv ev : V} {us : List (Int × V)} {os : List ((Int × Int) × V)} {ds : List R4} (e : E4) (hb : Bo st wd a b rd WW HH tv tv2 dv bv ev T us os L ds) (hL : L.length ≤ 256) (hdl : ds.length < 4000000000000) (hm : 300 < m)
    (hK : ∀ dv' bv' ev' us' os' L' ds' s, Bo s wd a b rd WW HH tv tv2 dv' bv' ev' T us' os' L' ds' → L'.length ≤ 256 → ds'.length ≤ ds.length + 1 → FC wd rd st s → st.length ≤ s.length → K (.sc (.bool true)) s) :
    acallF Try.prog pl (n + 9) m 47 [.agg [.ref wd 0, .ref rd 0], .agg (E4.v e)] st K := l_PlayE e hb hL hdl hm fun dv' bv' ev' us' os' L' ds' s _ h1 h2 h3 h4 h5 _ _ => hK dv' bv' ev' us' os' L' ds' s h1 h2 h3 h4 h5
set_option maxHeartbeats 4000000000000 in
theorem l_Made (ht : ∀ s, Rd Try.prog s 5 tv (bs T) T.length) (hb : ∀ s, Rd Try.prog s 90 bv (L.flatMap B4.v) L.length) (he : ∀ s, Rd Try.prog s 101 lv (E.flatMap E4.v) E.length) (ot : one tv = true ∧ cellsV tv = [tv]) (ob : one bv = true ∧ cellsV bv = [bv])
    (hm : 300 < m) (hTm : T.length < m) (hEm : E.length < m) (hTb : ∀ t ∈ T, 0 ≤ t ∧ t < 256) (hT : T.length ≤ 140737488355328) (hL : L.length ≤ 3518437208883) (hEl : E.length ≤ 2932031007402)
    (hE : refOK WW HH T L = false → ∀ s, Grw st s → K (.tup [.agg [.sc (.pointer none), .sc (.pointer none)], .sc (.bool false), .sc (.bool true)]) s)
    (hO : refOK WW HH T L = true → ∀ wd a b rd tv1 tv2 dv bv' ev us os L' ds s, Bo s wd a b rd WW HH tv1 tv2 dv bv' ev T us os L' ds → L'.length ≤ 256 → ds.length ≤ E.length → FS st s → K (.tup [.agg [.ref wd 0, .ref rd 0], .sc (.bool true), .sc (.bool true)]) s) :
    acallF Try.prog pl (n + 11) m 28 [.agg (mp WW HH tv bv), lv] st K := by
  refine acallF_inF Try.func28 rfl rfl Try.ntmps28 (by simp) ?_
  obtain ⟨s1, hs1⟩ : ∃ s1, s1 = st ++ [Ob.cells (mp WW HH tv bv), Ob.cells [.sc (.pointer none), .sc (.pointer none)]] := ⟨_, rfl⟩
  have g1 : Grw st s1 := by rw [hs1]; exact .push _ _
  have c1 : s1[st.length]? = some (.cells (mp WW HH tv bv)) := by rw [hs1]; exact get_new _ _ 0
  have b1 : s1[st.length + 1]? = some (.cells [.sc (.pointer none), .sc (.pointer none)]) := by rw [hs1]; exact get_new _ _ 1
  simp only [mp] at hs1 c1
  simp only [mp, ot.1, ot.2, ob.1, ob.2, evf,↓evp,evq,evr,fxa0,fxa1,fxa2,fxa3,fxa4,fxu,fxn,fxl,↓fxp,lgc,absL,fitL,flatL,ares,ares1,ofVal,unSc,aload,afill,splice,abound,asI,elems,IntKind.bits,sortT,eqNil,closedL,allByte,patch,pendOK,numA,Value.cells,Value.oneCell',ibin,List.replicate,Option.elim,Nat.reduceAdd,Nat.reduceSub,Nat.reduceMul,Nat.reduceLT,Nat.reduceEqDiff,Nat.reduceLeDiff,Nat.reduceBEq,Int.reduceLE,Int.reduceLT,Int.reduceToNat,Int.reduceBNe,Int.reduceBEq,Int.reduceNeg,Int.reduceEq,Int.reduceNe,Nat.reduceBNe,Int.reduceAdd,Int.reduceSub,Int.reduceMul,Int.reducePow,Nat.reducePow,Int.reduceGT,Int.reduceGE,if_true,if_false,ite_true,ite_false,beq_self_eq_true,BEq.rfl,reduceCtorEq,eq_self,ne_eq,Function.comp_def,beq_iff_eq]
  rw [← hs1]
  refine l_own (n := n + 9) (ht _) (hb _) ot ob (by omega) (by omega) fun tva bva s2 gt2 gb2 g2 => ?_
  simp only [evf,↓evp,evq,evr,fxa0,fxa1,fxa2,fxa3,fxa4,fxu,fxn,fxl,↓fxp,lgc,absL,fitL,flatL,ares,ares1,ofVal,unSc,aload,afill,splice,abound,asI,elems,IntKind.bits,sortT,eqNil,closedL,allByte,patch,pendOK,numA,Value.cells,Value.oneCell',ibin,List.replicate,Option.elim,Nat.reduceAdd,Nat.reduceSub,Nat.reduceMul,Nat.reduceLT,Nat.reduceEqDiff,Nat.reduceLeDiff,Nat.reduceBEq,Int.reduceLE,Int.reduceLT,Int.reduceToNat,Int.reduceBNe,Int.reduceBEq,Int.reduceNeg,Int.reduceEq,Int.reduceNe,Nat.reduceBNe,Int.reduceAdd,Int.reduceSub,Int.reduceMul,Int.reducePow,Nat.reducePow,Int.reduceGT,Int.reduceGE,if_true,if_false,ite_true,ite_false,beq_self_eq_true,BEq.rfl,reduceCtorEq,eq_self,ne_eq,Function.comp_def,beq_iff_eq]
  have rt2 := gt2.rd sz5 (by rw [bs_len]; omega)
  have rb2 := gb2.rd sz90 (flatMap_len (f := B4.v) (s := 5) (fun _ => rfl) _)
  have hE' := hE
  cases eOK : refOK WW HH T L
  · have eN := (newOK_ref (WW := WW) (HH := HH) T L).trans eOK
    refine w_New (n := n + 1) rt2 rb2 gt2.one gb2.one hm hTm hTb (fun _ s3 g3 => ?_) fun h => by rw [eN] at h; cases h
    have c3 := g3 _ _ (g2 _ _ c1)
    simp only [c3, ot.1, ot.2, ob.1, ob.2, evf,↓evp,evq,evr,fxa0,fxa1,fxa2,fxa3,fxa4,fxu,fxn,fxl,↓fxp,lgc,absL,fitL,flatL,ares,ares1,ofVal,unSc,aload,afill,splice,abound,asI,elems,IntKind.bits,sortT,eqNil,closedL,allByte,patch,pendOK,numA,Value.cells,Value.oneCell',ibin,List.replicate,Option.elim,Nat.reduceAdd,Nat.reduceSub,Nat.reduceMul,Nat.reduceLT,Nat.reduceEqDiff,Nat.reduceLeDiff,Nat.reduceBEq,Int.reduceLE,Int.reduceLT,Int.reduceToNat,Int.reduceBNe,Int.reduceBEq,Int.reduceNeg,Int.reduceEq,Int.reduceNe,Nat.reduceBNe,Int.reduceAdd,Int.reduceSub,Int.reduceMul,Int.reducePow,Nat.reducePow,Int.reduceGT,Int.reduceGE,if_true,if_false,ite_true,ite_false,beq_self_eq_true,BEq.rfl,reduceCtorEq,eq_self,ne_eq,Function.comp_def,beq_iff_eq]
    refine q_New (n := n + 2) (ht _) (hb _) ot ob hm hTm hTb (by omega) (by omega) (fun _ s4 g4 => ?_) fun h => by rw [eOK] at h; cases h
    have c4 := g4 _ _ c3
    simp only [c4, evf,↓evp,evq,evr,fxa0,fxa1,fxa2,fxa3,fxa4,fxu,fxn,fxl,↓fxp,lgc,absL,fitL,flatL,ares,ares1,ofVal,unSc,aload,afill,splice,abound,asI,elems,IntKind.bits,sortT,eqNil,closedL,allByte,patch,pendOK,numA,Value.cells,Value.oneCell',ibin,List.replicate,Option.elim,Nat.reduceAdd,Nat.reduceSub,Nat.reduceMul,Nat.reduceLT,Nat.reduceEqDiff,Nat.reduceLeDiff,Nat.reduceBEq,Int.reduceLE,Int.reduceLT,Int.reduceToNat,Int.reduceBNe,Int.reduceBEq,Int.reduceNeg,Int.reduceEq,Int.reduceNe,Nat.reduceBNe,Int.reduceAdd,Int.reduceSub,Int.reduceMul,Int.reducePow,Nat.reducePow,Int.reduceGT,Int.reduceGE,if_true,if_false,ite_true,ite_false,beq_self_eq_true,BEq.rfl,reduceCtorEq,eq_self,ne_eq,Function.comp_def,beq_iff_eq]
    refine l_own (n := n + 9) (ht _) (hb _) ot ob (by omega) (by omega) fun tvb bvb s5 gt5 gb5 g5 => ?_
    simp only [evf,↓evp,evq,evr,fxa0,fxa1,fxa2,fxa3,fxa4,fxu,fxn,fxl,↓fxp,lgc,absL,fitL,flatL,ares,ares1,ofVal,unSc,aload,afill,splice,abound,asI,elems,IntKind.bits,sortT,eqNil,closedL,allByte,patch,pendOK,numA,Value.cells,Value.oneCell',ibin,List.replicate,Option.elim,Nat.reduceAdd,Nat.reduceSub,Nat.reduceMul,Nat.reduceLT,Nat.reduceEqDiff,Nat.reduceLeDiff,Nat.reduceBEq,Int.reduceLE,Int.reduceLT,Int.reduceToNat,Int.reduceBNe,Int.reduceBEq,Int.reduceNeg,Int.reduceEq,Int.reduceNe,Nat.reduceBNe,Int.reduceAdd,Int.reduceSub,Int.reduceMul,Int.reducePow,Nat.reducePow,Int.reduceGT,Int.reduceGE,if_true,if_false,ite_true,ite_false,beq_self_eq_true,BEq.rfl,reduceCtorEq,eq_self,ne_eq,Function.comp_def,beq_iff_eq]
    refine w_Check (n := n) (gt5.rd sz5 (by rw [bs_len]; omega)) (gb5.rd sz90 (flatMap_len (f := B4.v) (s := 5) (fun _ => rfl) _)) gt5.one gb5.one hm hTm hTb (fun _ s6 g6 => ?_) fun h => by rw [eN] at h; cases h
    have gg := ((((g2.trans g3).trans g4).trans g5).trans g6)
    have b6 := gg _ _ b1
    have b7 : ∀ o, (s6.set (st.length + 1) o)[st.length + 1]? = some o := fun o => get_set b6 o
    simp only [b6, b7, evf,↓evp,evq,evr,fxa0,fxa1,fxa2,fxa3,fxa4,fxu,fxn,fxl,↓fxp,lgc,absL,fitL,flatL,ares,ares1,ofVal,unSc,aload,afill,splice,abound,asI,elems,IntKind.bits,sortT,eqNil,closedL,allByte,patch,pendOK,numA,Value.cells,Value.oneCell',ibin,List.replicate,Option.elim,Nat.reduceAdd,Nat.reduceSub,Nat.reduceMul,Nat.reduceLT,Nat.reduceEqDiff,Nat.reduceLeDiff,Nat.reduceBEq,Int.reduceLE,Int.reduceLT,Int.reduceToNat,Int.reduceBNe,Int.reduceBEq,Int.reduceNeg,Int.reduceEq,Int.reduceNe,Nat.reduceBNe,Int.reduceAdd,Int.reduceSub,Int.reduceMul,Int.reducePow,Nat.reducePow,Int.reduceGT,Int.reduceGE,if_true,if_false,ite_true,ite_false,beq_self_eq_true,BEq.rfl,reduceCtorEq,eq_self,ne_eq,Function.comp_def,beq_iff_eq]
    have g6s : Grw st (s6.set (st.length + 1) (Ob.cells [.sc (.pointer none), .sc (.pointer none)])) := (g1.trans gg).set (by omega) _
    generalize hs7 : s6.set (st.length + 1) _ = s7 at g6s
    have b8 : s7[st.length + 1]? = some (.cells [.sc (.pointer none), .sc (.pointer none)]) := by rw [← hs7]; exact b7 _
    have fin := fun (o : Ob) => hE' eOK (s7.set (st.length + 1) o) (g6s.set (by omega) _)
    have b9 : ∀ o, (s7.set (st.length + 1) o)[st.length + 1]? = some o := fun o => get_set b8 o
    refine aloop_forF (fun k f s => s = s7 ∧ k = m ∧ f 1 = lv ∧ f 4 = .ref (st.length + 1) 0 ∧ f 5 = .sc (.bool false) ∧ f 6 = .sc (.bool true) ∧ f 11 = .sc (.int .i64 0)) ⟨rfl, rfl, by simp only [evf, ne_eq, Nat.reduceEqDiff, Nat.reduceLT, not_false_eq_true], by simp only [evf, ne_eq, Nat.reduceEqDiff, Nat.reduceLT, not_false_eq_true], by simp only [evf, ne_eq, Nat.reduceEqDiff, Nat.reduceLT, not_false_eq_true], by simp only [evf, ne_eq, Nat.reduceEqDiff, Nat.reduceLT, not_false_eq_true], by simp only [evf, ne_eq, Nat.reduceEqDiff, Nat.reduceLT, not_false_eq_true]⟩ ?_
    rintro I' hI' k f s ⟨rfl, hk, f1, f4, f5, f6, f11⟩
    refine ⟨k - 1, by omega, ?_⟩
    have al := alen_rd (he s) Try.underlying66
    cases d : decide ((0 : Int) < E.length)
    · simp only [f1, f4, f5, f6, f11, al, d, b8, b9, evf,↓evp,evq,evr,fxa0,fxa1,fxa2,fxa3,fxa4,fxu,fxn,fxl,↓fxp,lgc,absL,fitL,flatL,ares,ares1,ofVal,unSc,aload,afill,splice,abound,asI,elems,IntKind.bits,sortT,eqNil,closedL,allByte,patch,pendOK,numA,Value.cells,Value.oneCell',ibin,List.replicate,Option.elim,Nat.reduceAdd,Nat.reduceSub,Nat.reduceMul,Nat.reduceLT,Nat.reduceEqDiff,Nat.reduceLeDiff,Nat.reduceBEq,Int.reduceLE,Int.reduceLT,Int.reduceToNat,Int.reduceBNe,Int.reduceBEq,Int.reduceNeg,Int.reduceEq,Int.reduceNe,Nat.reduceBNe,Int.reduceAdd,Int.reduceSub,Int.reduceMul,Int.reducePow,Nat.reducePow,Int.reduceGT,Int.reduceGE,if_true,if_false,ite_true,ite_false,beq_self_eq_true,BEq.rfl,reduceCtorEq,eq_self,ne_eq,Function.comp_def,beq_iff_eq]
      exact fin _
    · simp only [f1, f4, f5, f6, f11, al, d, b8, b9, evf,↓evp,evq,evr,fxa0,fxa1,fxa2,fxa3,fxa4,fxu,fxn,fxl,↓fxp,lgc,absL,fitL,flatL,ares,ares1,ofVal,unSc,aload,afill,splice,abound,asI,elems,IntKind.bits,sortT,eqNil,closedL,allByte,patch,pendOK,numA,Value.cells,Value.oneCell',ibin,List.replicate,Option.elim,Nat.reduceAdd,Nat.reduceSub,Nat.reduceMul,Nat.reduceLT,Nat.reduceEqDiff,Nat.reduceLeDiff,Nat.reduceBEq,Int.reduceLE,Int.reduceLT,Int.reduceToNat,Int.reduceBNe,Int.reduceBEq,Int.reduceNeg,Int.reduceEq,Int.reduceNe,Nat.reduceBNe,Int.reduceAdd,Int.reduceSub,Int.reduceMul,Int.reducePow,Nat.reducePow,Int.reduceGT,Int.reduceGE,if_true,if_false,ite_true,ite_false,beq_self_eq_true,BEq.rfl,reduceCtorEq,eq_self,ne_eq,Function.comp_def,beq_iff_eq]
      exact fin _
  · have eN := (newOK_ref (WW := WW) (HH := HH) T L).trans eOK
    refine w_New (n := n + 1) rt2 rb2 gt2.one gb2.one hm hTm hTb (fun h => by rw [eN] at h; cases h) fun _ wd a b tv1 us os s3 hgo w3 g3 lwd la lb ltv => ?_
    have c3 := g3 _ _ (g2 _ _ c1)
    have l1 : s1.length = st.length + 2 := by rw [hs1]; simp
    have l2 := g2.le
    simp only [c3, ot.1, ot.2, ob.1, ob.2, evf,↓evp,evq,evr,fxa0,fxa1,fxa2,fxa3,fxa4,fxu,fxn,fxl,↓fxp,lgc,absL,fitL,flatL,ares,ares1,ofVal,unSc,aload,afill,splice,abound,asI,elems,IntKind.bits,sortT,eqNil,closedL,allByte,patch,pendOK,numA,Value.cells,Value.oneCell',ibin,List.replicate,Option.elim,Nat.reduceAdd,Nat.reduceSub,Nat.reduceMul,Nat.reduceLT,Nat.reduceEqDiff,Nat.reduceLeDiff,Nat.reduceBEq,Int.reduceLE,Int.reduceLT,Int.reduceToNat,Int.reduceBNe,Int.reduceBEq,Int.reduceNeg,Int.reduceEq,Int.reduceNe,Nat.reduceBNe,Int.reduceAdd,Int.reduceSub,Int.reduceMul,Int.reducePow,Nat.reducePow,Int.reduceGT,Int.reduceGE,if_true,if_false,ite_true,ite_false,beq_self_eq_true,BEq.rfl,reduceCtorEq,eq_self,ne_eq,Function.comp_def,beq_iff_eq]
    refine q_New (n := n + 2) (ht _) (hb _) ot ob hm hTm hTb (by omega) (by omega) (fun h => by rw [eOK] at h; cases h) fun _ rd tv2 bv2 s4 r4 g4 lrd ltv2 lbv2 => ?_
    have c4 := g4 _ _ c3
    have hwd3 : wd < s3.length := (List.getElem?_eq_some_iff.1 w3.wd.w).1
    simp only [c4, evf,↓evp,evq,evr,fxa0,fxa1,fxa2,fxa3,fxa4,fxu,fxn,fxl,↓fxp,lgc,absL,fitL,flatL,ares,ares1,ofVal,unSc,aload,afill,splice,abound,asI,elems,IntKind.bits,sortT,eqNil,closedL,allByte,patch,pendOK,numA,Value.cells,Value.oneCell',ibin,List.replicate,Option.elim,Nat.reduceAdd,Nat.reduceSub,Nat.reduceMul,Nat.reduceLT,Nat.reduceEqDiff,Nat.reduceLeDiff,Nat.reduceBEq,Int.reduceLE,Int.reduceLT,Int.reduceToNat,Int.reduceBNe,Int.reduceBEq,Int.reduceNeg,Int.reduceEq,Int.reduceNe,Nat.reduceBNe,Int.reduceAdd,Int.reduceSub,Int.reduceMul,Int.reducePow,Nat.reducePow,Int.reduceGT,Int.reduceGE,if_true,if_false,ite_true,ite_false,beq_self_eq_true,BEq.rfl,reduceCtorEq,eq_self,ne_eq,Function.comp_def,beq_iff_eq]
    refine l_own (n := n + 9) (ht _) (hb _) ot ob (by omega) (by omega) fun tvb bvb s5 gt5 gb5 g5 => ?_
    simp only [evf,↓evp,evq,evr,fxa0,fxa1,fxa2,fxa3,fxa4,fxu,fxn,fxl,↓fxp,lgc,absL,fitL,flatL,ares,ares1,ofVal,unSc,aload,afill,splice,abound,asI,elems,IntKind.bits,sortT,eqNil,closedL,allByte,patch,pendOK,numA,Value.cells,Value.oneCell',ibin,List.replicate,Option.elim,Nat.reduceAdd,Nat.reduceSub,Nat.reduceMul,Nat.reduceLT,Nat.reduceEqDiff,Nat.reduceLeDiff,Nat.reduceBEq,Int.reduceLE,Int.reduceLT,Int.reduceToNat,Int.reduceBNe,Int.reduceBEq,Int.reduceNeg,Int.reduceEq,Int.reduceNe,Nat.reduceBNe,Int.reduceAdd,Int.reduceSub,Int.reduceMul,Int.reducePow,Nat.reducePow,Int.reduceGT,Int.reduceGE,if_true,if_false,ite_true,ite_false,beq_self_eq_true,BEq.rfl,reduceCtorEq,eq_self,ne_eq,Function.comp_def,beq_iff_eq]
    refine w_Check (n := n) (gt5.rd sz5 (by rw [bs_len]; omega)) (gb5.rd sz90 (flatMap_len (f := B4.v) (s := 5) (fun _ => rfl) _)) gt5.one gb5.one hm hTm hTb (fun h => by rw [eN] at h; cases h) fun _ s6 g6 => ?_
    have gg := ((((g2.trans g3).trans g4).trans g5).trans g6)
    have b6 := gg _ _ b1
    have b7 : ∀ o, (s6.set (st.length + 1) o)[st.length + 1]? = some o := fun o => get_set b6 o
    simp only [b6, b7, evf,↓evp,evq,evr,fxa0,fxa1,fxa2,fxa3,fxa4,fxu,fxn,fxl,↓fxp,lgc,absL,fitL,flatL,ares,ares1,ofVal,unSc,aload,afill,splice,abound,asI,elems,IntKind.bits,sortT,eqNil,closedL,allByte,patch,pendOK,numA,Value.cells,Value.oneCell',ibin,List.replicate,Option.elim,Nat.reduceAdd,Nat.reduceSub,Nat.reduceMul,Nat.reduceLT,Nat.reduceEqDiff,Nat.reduceLeDiff,Nat.reduceBEq,Int.reduceLE,Int.reduceLT,Int.reduceToNat,Int.reduceBNe,Int.reduceBEq,Int.reduceNeg,Int.reduceEq,Int.reduceNe,Nat.reduceBNe,Int.reduceAdd,Int.reduceSub,Int.reduceMul,Int.reducePow,Nat.reducePow,Int.reduceGT,Int.reduceGE,if_true,if_false,ite_true,ite_false,beq_self_eq_true,BEq.rfl,reduceCtorEq,eq_self,ne_eq,Function.comp_def,beq_iff_eq]
    have bo6 : Bo s6 wd a b rd WW HH tv1 tv2 (.tsl [] 0 true true) bv2 (.tsl [] 0 true true) T us os L [] := by
      refine ⟨((w3.grw g4).grw g5).grw g6, (r4.grw g5).grw g6, new_rel hgo, refOK_srt eOK, by omega, fun j h => by cases h⟩
    have l6 : st.length + 1 < s6.length := (List.getElem?_eq_some_iff.1 b6).1
    have keep : ∀ o, PR (st.length + 1) (.tsl [] 0 true true) (.tsl [] 0 true true) s6 (s6.set (st.length + 1) o) := fun o => ⟨by rw [List.length_set]; exact Nat.le_refl _, fun j o' h1 _ _ h2 => by rw [List.getElem?_set_ne (Ne.symm h1)]; exact h2⟩
    have bo7 : ∀ cs, Bo (s6.set (st.length + 1) (.cells cs)) wd a b rd WW HH tv1 tv2 (.tsl [] 0 true true) bv2 (.tsl [] 0 true true) T us os L [] := fun cs => by
      have kk : ∀ j o', j ≠ st.length + 1 → s6[j]? = some o' → (s6.set (st.length + 1) (.cells cs))[j]? = some o' := fun j o' h1 h2 => by rw [List.getElem?_set_ne (Ne.symm h1)]; exact h2
      have kg : ∀ {e : TypeId} {v : V} {xs : List V} {q : Nat}, Gl s6 e v xs q → Gl (s6.set (st.length + 1) (.cells cs)) e v xs q := fun hg => hg.of fun j o hj ho => kk _ _ (fun hh => hg.ncells b6 (by rw [← hh]; exact hj)) ho
      have la6 : a ≠ st.length + 1 := by omega
      exact ⟨⟨⟨kk _ _ (by omega) bo6.p.wd.w, kk _ _ la6 bo6.p.wd.us, kk _ _ (by omega) bo6.p.wd.os⟩, kg bo6.p.tl, kg bo6.p.dl, bo6.p.ne, bo6.p.ab, bo6.p.rcs⟩, ⟨kk _ _ (by omega) bo6.r.w, kg bo6.r.tl, kg bo6.r.bl, kg bo6.r.el⟩, bo6.rel, bo6.srt, bo6.ne, bo6.nr⟩
    have g6s : Grw st (s6.set (st.length + 1) (Ob.cells [.ref wd 0, .ref rd 0])) := (g1.trans gg).set (by omega) _
    generalize hs7 : s6.set (st.length + 1) _ = s7 at g6s
    have b8 : s7[st.length + 1]? = some (.cells [.ref wd 0, .ref rd 0]) := by rw [← hs7]; exact b7 _
    have bo8 : Bo s7 wd a b rd WW HH tv1 tv2 (.tsl [] 0 true true) bv2 (.tsl [] 0 true true) T us os L [] := by rw [← hs7]; exact bo7 _
    have hL256 := (refOK_facts eOK).2.2.2
    refine aloop_forF (fun k f s => ∃ (i : Nat) (dv bv' ev : V) (us : List (Int × V)) (os : List ((Int × Int) × V)) (L' : List B4) (ds : List R4), k + i = m ∧ i ≤ E.length ∧ Bo s wd a b rd WW HH tv1 tv2 dv bv' ev T us os L' ds ∧ L'.length ≤ 256 ∧ ds.length ≤ i ∧ FS st s ∧ st.length + 2 ≤ s.length ∧ s[st.length + 1]? = some (.cells [.ref wd 0, .ref rd 0]) ∧ f 1 = lv ∧ f 4 = .ref (st.length + 1) 0 ∧ f 5 = .sc (.bool true) ∧ f 6 = .sc (.bool true) ∧ f 11 = .sc (.int .i64 i)) ⟨0, _, _, _, _, _, _, _, by omega, by omega, bo8, hL256, by simp, grw_fs g6s, by have := (List.getElem?_eq_some_iff.1 b8).1; omega, b8, by simp only [evf, ne_eq, Nat.reduceEqDiff, Nat.reduceLT, not_false_eq_true], by simp only [evf, ne_eq, Nat.reduceEqDiff, Nat.reduceLT, not_false_eq_true], by simp only [evf, ne_eq, Nat.reduceEqDiff, Nat.reduceLT, not_false_eq_true], by simp only [evf, ne_eq, Nat.reduceEqDiff, Nat.reduceLT, not_false_eq_true], by simp only [evf, ne_eq, Nat.reduceEqDiff, Nat.reduceLT, not_false_eq_true]; rfl⟩ ?_
    rintro I' hI' k f s ⟨i, dv, bv', ev, us', os', L', ds, hk, hi, bo, hL', hds, fs, hls, hb8, f1, f4, f5, f6, f11⟩
    refine ⟨k - 1, by omega, ?_⟩
    have al := alen_rd (he s) Try.underlying66
    by_cases hil : i < E.length
    · have d : decide ((i : Int) < E.length) = true := decide_eq_true (by omega)
      have e3 : IntKind.i64.wrap ((i : Int) + 1) = ((i + 1 : Nat) : Int) := by rw [IntWalk.i64_in _ (by omega)]; rfl
      obtain ⟨p1, p2⟩ := ix_flat (f := E4.v) (fun a => rfl) (he s) Try.underlying66 sz101 ag101 (by omega) hil
      simp only [f1, f4, f5, f6, f11, al, d, hb8, p1, p2, evf,↓evp,evq,evr,fxa0,fxa1,fxa2,fxa3,fxa4,fxu,fxn,fxl,↓fxp,lgc,absL,fitL,flatL,ares,ares1,ofVal,unSc,aload,afill,splice,abound,asI,elems,IntKind.bits,sortT,eqNil,closedL,allByte,patch,pendOK,numA,Value.cells,Value.oneCell',ibin,List.replicate,Option.elim,Nat.reduceAdd,Nat.reduceSub,Nat.reduceMul,Nat.reduceLT,Nat.reduceEqDiff,Nat.reduceLeDiff,Nat.reduceBEq,Int.reduceLE,Int.reduceLT,Int.reduceToNat,Int.reduceBNe,Int.reduceBEq,Int.reduceNeg,Int.reduceEq,Int.reduceNe,Nat.reduceBNe,Int.reduceAdd,Int.reduceSub,Int.reduceMul,Int.reducePow,Nat.reducePow,Int.reduceGT,Int.reduceGE,if_true,if_false,ite_true,ite_false,beq_self_eq_true,BEq.rfl,reduceCtorEq,eq_self,ne_eq,Function.comp_def,beq_iff_eq]
      refine l_Play (n := n + 1) E[i] bo hL' (by omega) hm fun dv2 bv3 ev2 us2 os2 L2 ds2 s8 bo2 hL2 hds2 fc2 le2 => ?_
      have hb9 := fc2 _ _ (by omega) (by omega) hb8
      simp only [f1, f4, f5, f6, f11, al, d, hb8, hb9, p1, p2, e3, evf,↓evp,evq,evr,fxa0,fxa1,fxa2,fxa3,fxa4,fxu,fxn,fxl,↓fxp,lgc,absL,fitL,flatL,ares,ares1,ofVal,unSc,aload,afill,splice,abound,asI,elems,IntKind.bits,sortT,eqNil,closedL,allByte,patch,pendOK,numA,Value.cells,Value.oneCell',ibin,List.replicate,Option.elim,Nat.reduceAdd,Nat.reduceSub,Nat.reduceMul,Nat.reduceLT,Nat.reduceEqDiff,Nat.reduceLeDiff,Nat.reduceBEq,Int.reduceLE,Int.reduceLT,Int.reduceToNat,Int.reduceBNe,Int.reduceBEq,Int.reduceNeg,Int.reduceEq,Int.reduceNe,Nat.reduceBNe,Int.reduceAdd,Int.reduceSub,Int.reduceMul,Int.reducePow,Nat.reducePow,Int.reduceGT,Int.reduceGE,if_true,if_false,ite_true,ite_false,beq_self_eq_true,BEq.rfl,reduceCtorEq,eq_self,ne_eq,Function.comp_def,beq_iff_eq]
      refine hI' _ _ _ ⟨i + 1, _, _, _, _, _, _, _, by omega, by omega, bo2, hL2, by omega, fun j cs hj => ?_, by omega, hb9, by simp only [f1, evf, ne_eq, Nat.reduceEqDiff, Nat.reduceLT, not_false_eq_true], by simp only [f4, evf, ne_eq, Nat.reduceEqDiff, Nat.reduceLT, not_false_eq_true], by simp only [f5, evf, ne_eq, Nat.reduceEqDiff, Nat.reduceLT, not_false_eq_true], by simp only [f6, evf, ne_eq, Nat.reduceEqDiff, Nat.reduceLT, not_false_eq_true], by simp only [evf, ne_eq, Nat.reduceEqDiff, Nat.reduceLT, not_false_eq_true]⟩
      have lj : j < st.length := (List.getElem?_eq_some_iff.1 hj).1
      exact fc2 _ _ (by omega) (by omega) (fs _ _ hj)
    · have d : decide ((i : Int) < E.length) = false := decide_eq_false (by omega)
      have b9 : ∀ o, (s.set (st.length + 1) o)[st.length + 1]? = some o := fun o => get_set hb8 o
      have hs : s.set (st.length + 1) (Ob.cells [.ref wd 0, .ref rd 0]) = s := set_self hb8
      simp only [f1, f4, f5, f6, f11, al, d, hb8, b9, evf,↓evp,evq,evr,fxa0,fxa1,fxa2,fxa3,fxa4,fxu,fxn,fxl,↓fxp,lgc,absL,fitL,flatL,ares,ares1,ofVal,unSc,aload,afill,splice,abound,asI,elems,IntKind.bits,sortT,eqNil,closedL,allByte,patch,pendOK,numA,Value.cells,Value.oneCell',ibin,List.replicate,Option.elim,Nat.reduceAdd,Nat.reduceSub,Nat.reduceMul,Nat.reduceLT,Nat.reduceEqDiff,Nat.reduceLeDiff,Nat.reduceBEq,Int.reduceLE,Int.reduceLT,Int.reduceToNat,Int.reduceBNe,Int.reduceBEq,Int.reduceNeg,Int.reduceEq,Int.reduceNe,Nat.reduceBNe,Int.reduceAdd,Int.reduceSub,Int.reduceMul,Int.reducePow,Nat.reducePow,Int.reduceGT,Int.reduceGE,if_true,if_false,ite_true,ite_false,beq_self_eq_true,BEq.rfl,reduceCtorEq,eq_self,ne_eq,Function.comp_def,beq_iff_eq]
      rw [hs]
      exact hO eOK wd a b rd tv1 tv2 dv bv' ev us' os' L' ds s bo hL' (by omega) fs
end
end Go.Proofs.Ytndjhaeeldegfaa
