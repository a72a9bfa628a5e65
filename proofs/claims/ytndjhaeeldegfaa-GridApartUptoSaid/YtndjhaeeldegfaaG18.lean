/- Chapter 4: a map of one's own; New by the document; Check by the program. -/
import Derived.Test.YtndjhaeeldegfaaG17
set_option linter.unusedVariables false
set_option linter.unusedSimpArgs false
set_option maxRecDepth 10000
namespace Go.Proofs.Ytndjhaeeldegfaa
open Go Go.M Go.RowKit
attribute [local congr] acallF_cong aloop_cong bcase_cong resK_cong valK_cong wantK_cong callK_cong xputK_cong qputK_cong resM_cong rfK_cong
attribute [local irreducible] seqK blockK loopK nextK bcase resK valK wantK funK putK dputK xputK qputK callK aops aop acode adraw aloop acallF acall invK resM rfK rfEnd rdEnd rdMid around
section
variable {n m : Nat} {st s : List Ob} {K : V → List Ob → Prop} {WW HH : Int} {T : List Int} {L : List B4} {tv bv : V}
theorem nil_app {P : Program} {s : List Ob} {e t : TypeId} {x : V} {zs : List V} {k : Nat} (ht : P.underlying t = some (.slice e)) {sz by_ : Nat} {z : Value} (hs : szOf P e = some sz) (hb : bytesOf P e = some by_) (hz : zeroOf P e = some z) (h0 : 0 < sz) (hzs : z.cells.size = sz)
    (hx : Rd P s e x zs k) (hc : closedL zs = true) (h1 : k * by_ ≤ 140737488355328) (h2 : k ≤ 9223372036854775807) :
    ∃ v' s', aappend P s t (.tsl [] 0 true true) x = some (v', s') ∧ Gl s' e v' zs k ∧ Grw s s' ∧ (∀ j, rowOf v' = some j → s.length ≤ j) := by
  obtain ⟨v', s', a1, a2, a3, a4⟩ := gl_app (P := P) (t := t) (e := e) (s := s) (v := .tsl [] 0 true true) (xs := []) (n := 0) (x := x) (.inl ⟨rfl, rfl, rfl⟩) ht hs hb hz h0 hzs (by simp) hx.1 hc (hx.2.2 _ hs) (by simpa using h1) (by simpa using h2)
  rw [List.nil_append, Nat.zero_add] at a2
  refine ⟨v', s', a1, a2, fun j o h => a3.2 _ _ (fun hh => by cases hh) h, fun j h => ?_⟩
  rcases a4 j h with h' | h'
  · cases h'
  · exact h'
theorem bs_len (T : List Int) : (bs T).length = T.length := by simp [bs]
set_option maxHeartbeats 2000000 in
theorem l_own (ht : Rd Try.prog st 5 tv (bs T) T.length) (hb : Rd Try.prog st 90 bv (L.flatMap B4.v) L.length) (ot : one tv = true ∧ cellsV tv = [tv]) (ob : one bv = true ∧ cellsV bv = [bv]) (hT : T.length ≤ 140737488355328) (hL : L.length ≤ 3518437208883)
    (hK : ∀ tv' bv' s, Gl s 5 tv' (bs T) T.length → Gl s 90 bv' (L.flatMap B4.v) L.length → Grw st s → K (.agg (mp WW HH tv' bv')) s) :
    acallF Try.prog pl (n + 1) m 59 [.agg (mp WW HH tv bv)] st K := by
  refine acallF_inF Try.func59 rfl rfl Try.ntmps59 (by simp) ?_
  obtain ⟨s1, hs1⟩ : ∃ s1, s1 = st ++ [Ob.cells (mp WW HH tv bv), Ob.cells [.sc (.int .i64 0), .sc (.int .i64 0), .tsl [] 0 true true, .tsl [] 0 true true]] := ⟨_, rfl⟩
  have g1 : Grw st s1 := by rw [hs1]; exact .push _ _
  have c1 : s1[st.length]? = some (.cells (mp WW HH tv bv)) := by rw [hs1]; exact get_new _ _ 0
  have b1 : s1[st.length + 1]? = some (.cells [.sc (.int .i64 0), .sc (.int .i64 0), .tsl [] 0 true true, .tsl [] 0 true true]) := by rw [hs1]; exact get_new _ _ 1
  obtain ⟨tv', s2, ap1, gl1, g2, n1⟩ := nil_app (t := 62) Try.underlying62 sz5 by5 ze5 (by omega) rfl (ht.grw g1) (closed_bs _) (by omega) (by omega)
  have c2 := g2 _ _ c1
  have b2 := g2 _ _ b1
  obtain ⟨o1, o2⟩ := gl1.one
  have lst : st.length < s2.length := (List.getElem?_eq_some_iff.1 c2).1
  obtain ⟨s3, hs3⟩ : ∃ s3, s3 = s2.set st.length (Ob.cells (mp WW HH tv' bv)) := ⟨_, rfl⟩
  have c3 : s3[st.length]? = some (.cells (mp WW HH tv' bv)) := by rw [hs3]; exact List.getElem?_set_self lst
  have b3 : s3[st.length + 1]? = some (.cells [.sc (.int .i64 0), .sc (.int .i64 0), .tsl [] 0 true true, .tsl [] 0 true true]) := by rw [hs3, List.getElem?_set_ne (by omega)]; exact b2
  have l1 : s1.length = st.length + 2 := by rw [hs1]; simp
  have g3 : Grw st s3 := by rw [hs3]; exact (g1.trans g2).set (Nat.le_refl _) _
  have gl3 : Gl s3 5 tv' (bs T) T.length := gl1.of fun j o hj ho => by have := n1 j hj; rw [hs3, List.getElem?_set_ne (by omega)]; exact ho
  obtain ⟨bv', s4, ap2, gl4, g4, n4⟩ := nil_app (t := 63) Try.underlying63 sz90 by90 ze90 (by omega) rfl (hb.grw g3) (closed_bd _) (by omega) (by omega)
  have c4 := g4 _ _ c3
  have b4 := g4 _ _ b3
  obtain ⟨o3, o4⟩ := gl4.one
  have lst4 : st.length < s4.length := (List.getElem?_eq_some_iff.1 c4).1
  have c5 : ∀ o, (s4.set st.length o)[st.length]? = some o := fun o => List.getElem?_set_self lst4
  have b5 : ∀ o, (s4.set st.length o)[st.length + 1]? = s4[st.length + 1]? := fun o => List.getElem?_set_ne (by omega)
  have lb4 : st.length + 1 < s4.length := (List.getElem?_eq_some_iff.1 b4).1
  have b6 : ∀ o o', ((s4.set st.length o).set (st.length + 1) o')[st.length + 1]? = some o' := fun o o' => List.getElem?_set_self (by rw [List.length_set]; exact lb4)
  simp only [mp] at hs1 c1 c2 hs3 c3 c4
  simp only [mp, ot.1, ot.2, ob.1, ob.2, evf,↓evp,evq,evr,fxa0,fxa1,fxa2,fxa3,fxa4,fxu,fxn,fxl,↓fxp,lgc,absL,fitL,flatL,ares,ares1,ofVal,unSc,aload,afill,splice,abound,asI,elems,IntKind.bits,sortT,eqNil,closedL,allByte,patch,pendOK,numA,Value.cells,Value.oneCell',ibin,List.replicate,Option.elim,Nat.reduceAdd,Nat.reduceSub,Nat.reduceMul,Nat.reduceLT,Nat.reduceEqDiff,Nat.reduceLeDiff,Nat.reduceBEq,Int.reduceLE,Int.reduceLT,Int.reduceToNat,Int.reduceBNe,Int.reduceBEq,Int.reduceNeg,Int.reduceEq,Int.reduceNe,Nat.reduceBNe,Int.reduceAdd,Int.reduceSub,Int.reduceMul,Int.reducePow,Nat.reducePow,Int.reduceGT,Int.reduceGE,if_true,if_false,ite_true,ite_false,beq_self_eq_true,BEq.rfl,reduceCtorEq,eq_self,ne_eq,Function.comp_def,beq_iff_eq]
  rw [← hs1]
  simp only [c1, ap1, c2, o1, o2, evf,↓evp,evq,evr,fxa0,fxa1,fxa2,fxa3,fxa4,fxu,fxn,fxl,↓fxp,lgc,absL,fitL,flatL,ares,ares1,ofVal,unSc,aload,afill,splice,abound,asI,elems,IntKind.bits,sortT,eqNil,closedL,allByte,patch,pendOK,numA,Value.cells,Value.oneCell',ibin,List.replicate,Option.elim,Nat.reduceAdd,Nat.reduceSub,Nat.reduceMul,Nat.reduceLT,Nat.reduceEqDiff,Nat.reduceLeDiff,Nat.reduceBEq,Int.reduceLE,Int.reduceLT,Int.reduceToNat,Int.reduceBNe,Int.reduceBEq,Int.reduceNeg,Int.reduceEq,Int.reduceNe,Nat.reduceBNe,Int.reduceAdd,Int.reduceSub,Int.reduceMul,Int.reducePow,Nat.reducePow,Int.reduceGT,Int.reduceGE,if_true,if_false,ite_true,ite_false,beq_self_eq_true,BEq.rfl,reduceCtorEq,eq_self,ne_eq,Function.comp_def,beq_iff_eq]
  rw [← hs3]
  simp only [c3, ap2, c4, b4, o1, o2, o3, o4, ob.1, ob.2, c5, b5, b6, evf,↓evp,evq,evr,fxa0,fxa1,fxa2,fxa3,fxa4,fxu,fxn,fxl,↓fxp,lgc,absL,fitL,flatL,ares,ares1,ofVal,unSc,aload,afill,splice,abound,asI,elems,IntKind.bits,sortT,eqNil,closedL,allByte,patch,pendOK,numA,Value.cells,Value.oneCell',ibin,List.replicate,Option.elim,Nat.reduceAdd,Nat.reduceSub,Nat.reduceMul,Nat.reduceLT,Nat.reduceEqDiff,Nat.reduceLeDiff,Nat.reduceBEq,Int.reduceLE,Int.reduceLT,Int.reduceToNat,Int.reduceBNe,Int.reduceBEq,Int.reduceNeg,Int.reduceEq,Int.reduceNe,Nat.reduceBNe,Int.reduceAdd,Int.reduceSub,Int.reduceMul,Int.reducePow,Nat.reducePow,Int.reduceGT,Int.reduceGE,if_true,if_false,ite_true,ite_false,beq_self_eq_true,BEq.rfl,reduceCtorEq,eq_self,ne_eq,Function.comp_def,beq_iff_eq]
  have l3 : s2.length = s3.length := by rw [hs3, List.length_set]
  refine hK tv' bv' _ ?_ ?_ ?_
  · refine gl3.of fun j o hj ho => ?_
    have := n1 j hj
    rw [List.getElem?_set_ne (by omega), List.getElem?_set_ne (by omega)]
    exact g4 _ _ ho
  · refine gl4.of fun j o hj ho => ?_
    have := n4 j hj
    have := g2.le
    rw [List.getElem?_set_ne (by omega), List.getElem?_set_ne (by omega)]
    exact ho
  · exact ((g3.trans g4).set (Nat.le_refl _) _).set (by omega) _
set_option maxHeartbeats 2000000 in
theorem q_New (ht : Rd Try.prog st 5 tv (bs T) T.length) (hb : Rd Try.prog st 90 bv (L.flatMap B4.v) L.length) (ot : one tv = true ∧ cellsV tv = [tv]) (ob : one bv = true ∧ cellsV bv = [bv]) (hm : 300 < m) (hTm : T.length < m) (hTb : ∀ t ∈ T, 0 ≤ t ∧ t < 256) (hT : T.length ≤ 140737488355328) (hL : L.length ≤ 3518437208883)
    (hE : refOK WW HH T L = false → ∀ s, Grw st s → K (.tup [.sc (.pointer none), .sc (.int .i64 1)]) s)
    (hO : refOK WW HH T L = true → ∀ rd tv' bv' s, Wr s rd WW HH tv' bv' (.tsl [] 0 true true) (bs T) L [] → Grw st s → st.length ≤ rd → (∀ j, rowOf tv' = some j → st.length ≤ j) → (∀ j, rowOf bv' = some j → st.length ≤ j) → K (.tup [.ref rd 0, .sc (.int .i64 0)]) s) :
    acallF Try.prog pl (n + 8) m 60 [.agg (mp WW HH tv bv)] st K := by
  refine acallF_inF Try.func60 rfl rfl Try.ntmps60 (by simp) ?_
  obtain ⟨s1, hs1⟩ : ∃ s1, s1 = st ++ [Ob.cells (mp WW HH tv bv)] := ⟨_, rfl⟩
  have g1 : Grw st s1 := by rw [hs1]; exact .push _ _
  have c1 : s1[st.length]? = some (.cells (mp WW HH tv bv)) := by rw [hs1]; exact get_new0 _ _
  simp only [mp] at hs1 c1
  simp only [mp, ot.1, ot.2, ob.1, ob.2, evf,↓evp,evq,evr,fxa0,fxa1,fxa2,fxa3,fxa4,fxu,fxn,fxl,↓fxp,lgc,absL,fitL,flatL,ares,ares1,ofVal,unSc,aload,afill,splice,abound,asI,elems,IntKind.bits,sortT,eqNil,closedL,allByte,patch,pendOK,numA,Value.cells,Value.oneCell',ibin,List.replicate,Option.elim,Nat.reduceAdd,Nat.reduceSub,Nat.reduceMul,Nat.reduceLT,Nat.reduceEqDiff,Nat.reduceLeDiff,Nat.reduceBEq,Int.reduceLE,Int.reduceLT,Int.reduceToNat,Int.reduceBNe,Int.reduceBEq,Int.reduceNeg,Int.reduceEq,Int.reduceNe,Nat.reduceBNe,Int.reduceAdd,Int.reduceSub,Int.reduceMul,Int.reducePow,Nat.reducePow,Int.reduceGT,Int.reduceGE,if_true,if_false,ite_true,ite_false,beq_self_eq_true,BEq.rfl,reduceCtorEq,eq_self,ne_eq,Function.comp_def,beq_iff_eq]
  rw [← hs1]
  refine q_Check (n := n) (ht.grw g1) (hb.grw g1) ot ob hm hTm hTb (fun e s2 g2 => ?_) fun e s2 g2 => ?_
  · simp only [evf,↓evp,evq,evr,fxa0,fxa1,fxa2,fxa3,fxa4,fxu,fxn,fxl,↓fxp,lgc,absL,fitL,flatL,ares,ares1,ofVal,unSc,aload,afill,splice,abound,asI,elems,IntKind.bits,sortT,eqNil,closedL,allByte,patch,pendOK,numA,Value.cells,Value.oneCell',ibin,List.replicate,Option.elim,Nat.reduceAdd,Nat.reduceSub,Nat.reduceMul,Nat.reduceLT,Nat.reduceEqDiff,Nat.reduceLeDiff,Nat.reduceBEq,Int.reduceLE,Int.reduceLT,Int.reduceToNat,Int.reduceBNe,Int.reduceBEq,Int.reduceNeg,Int.reduceEq,Int.reduceNe,Nat.reduceBNe,Int.reduceAdd,Int.reduceSub,Int.reduceMul,Int.reducePow,Nat.reducePow,Int.reduceGT,Int.reduceGE,if_true,if_false,ite_true,ite_false,beq_self_eq_true,BEq.rfl,reduceCtorEq,eq_self,ne_eq,Function.comp_def,beq_iff_eq]
    exact hE e _ (g1.trans g2)
  have c2 := g2 _ _ c1
  obtain ⟨s3, hs3⟩ : ∃ s3, s3 = s2 ++ [Ob.cells [.sc (.int .i64 WW), .sc (.int .i64 HH), .tsl [] 0 true true, .tsl [] 0 true true, .tsl [] 0 true true]] := ⟨_, rfl⟩
  have g3 : Grw s2 s3 := by rw [hs3]; exact .push _ _
  have c3 := g3 _ _ c2
  have w3 : s3[s2.length]? = some (.cells [.sc (.int .i64 WW), .sc (.int .i64 HH), .tsl [] 0 true true, .tsl [] 0 true true, .tsl [] 0 true true]) := by rw [hs3]; exact get_new0 _ _
  have gs3 := (g1.trans g2).trans g3
  obtain ⟨tv', s4, ap1, gl4, g4, n4⟩ := nil_app (t := 62) Try.underlying62 sz5 by5 ze5 (by omega) rfl (ht.grw gs3) (closed_bs _) (by omega) (by omega)
  have c4 := g4 _ _ c3
  have w4 := g4 _ _ w3
  obtain ⟨o1, o2⟩ := gl4.one
  have lw4 : s2.length < s4.length := (List.getElem?_eq_some_iff.1 w4).1
  have lst2 : st.length < s2.length := (List.getElem?_eq_some_iff.1 c2).1
  have l3 : s3.length = s2.length + 1 := by rw [hs3]; simp
  obtain ⟨s5, hs5⟩ : ∃ s5, s5 = s4.set s2.length (Ob.cells [.sc (.int .i64 WW), .sc (.int .i64 HH), tv', .tsl [] 0 true true, .tsl [] 0 true true]) := ⟨_, rfl⟩
  have w5 : s5[s2.length]? = some (.cells [.sc (.int .i64 WW), .sc (.int .i64 HH), tv', .tsl [] 0 true true, .tsl [] 0 true true]) := by rw [hs5]; exact List.getElem?_set_self lw4
  have c5 : s5[st.length]? = some (.cells [.sc (.int .i64 WW), .sc (.int .i64 HH), tv, bv]) := by rw [hs5, List.getElem?_set_ne (by omega)]; exact c4
  have g5 : Grw st s5 := by rw [hs5]; exact (gs3.trans g4).set (by omega) _
  have gl5 : Gl s5 5 tv' (bs T) T.length := gl4.of fun j o hj ho => by have := n4 j hj; rw [hs5, List.getElem?_set_ne (by omega)]; exact ho
  obtain ⟨bv', s6, ap2, gl6, g6, n6⟩ := nil_app (t := 63) Try.underlying63 sz90 by90 ze90 (by omega) rfl (hb.grw g5) (closed_bd _) (by omega) (by omega)
  have w6 := g6 _ _ w5
  have c6 := g6 _ _ c5
  obtain ⟨o3, o4⟩ := gl6.one
  have lw6 : s2.length < s6.length := (List.getElem?_eq_some_iff.1 w6).1
  have l5 : s5.length = s4.length := by rw [hs5, List.length_set]
  have l34 := g4.le
  simp only [evf,↓evp,evq,evr,fxa0,fxa1,fxa2,fxa3,fxa4,fxu,fxn,fxl,↓fxp,lgc,absL,fitL,flatL,ares,ares1,ofVal,unSc,aload,afill,splice,abound,asI,elems,IntKind.bits,sortT,eqNil,closedL,allByte,patch,pendOK,numA,Value.cells,Value.oneCell',ibin,List.replicate,Option.elim,Nat.reduceAdd,Nat.reduceSub,Nat.reduceMul,Nat.reduceLT,Nat.reduceEqDiff,Nat.reduceLeDiff,Nat.reduceBEq,Int.reduceLE,Int.reduceLT,Int.reduceToNat,Int.reduceBNe,Int.reduceBEq,Int.reduceNeg,Int.reduceEq,Int.reduceNe,Nat.reduceBNe,Int.reduceAdd,Int.reduceSub,Int.reduceMul,Int.reducePow,Nat.reducePow,Int.reduceGT,Int.reduceGE,if_true,if_false,ite_true,ite_false,beq_self_eq_true,BEq.rfl,reduceCtorEq,eq_self,ne_eq,Function.comp_def,beq_iff_eq]
  simp only [c2, evf,↓evp,evq,evr,fxa0,fxa1,fxa2,fxa3,fxa4,fxu,fxn,fxl,↓fxp,lgc,absL,fitL,flatL,ares,ares1,ofVal,unSc,aload,afill,splice,abound,asI,elems,IntKind.bits,sortT,eqNil,closedL,allByte,patch,pendOK,numA,Value.cells,Value.oneCell',ibin,List.replicate,Option.elim,Nat.reduceAdd,Nat.reduceSub,Nat.reduceMul,Nat.reduceLT,Nat.reduceEqDiff,Nat.reduceLeDiff,Nat.reduceBEq,Int.reduceLE,Int.reduceLT,Int.reduceToNat,Int.reduceBNe,Int.reduceBEq,Int.reduceNeg,Int.reduceEq,Int.reduceNe,Nat.reduceBNe,Int.reduceAdd,Int.reduceSub,Int.reduceMul,Int.reducePow,Nat.reducePow,Int.reduceGT,Int.reduceGE,if_true,if_false,ite_true,ite_false,beq_self_eq_true,BEq.rfl,reduceCtorEq,eq_self,ne_eq,Function.comp_def,beq_iff_eq]
  rw [← hs3]
  simp only [w3, c3, ap1, w4, c4, o1, o2, g4, evf,↓evp,evq,evr,fxa0,fxa1,fxa2,fxa3,fxa4,fxu,fxn,fxl,↓fxp,lgc,absL,fitL,flatL,ares,ares1,ofVal,unSc,aload,afill,splice,abound,asI,elems,IntKind.bits,sortT,eqNil,closedL,allByte,patch,pendOK,numA,Value.cells,Value.oneCell',ibin,List.replicate,Option.elim,Nat.reduceAdd,Nat.reduceSub,Nat.reduceMul,Nat.reduceLT,Nat.reduceEqDiff,Nat.reduceLeDiff,Nat.reduceBEq,Int.reduceLE,Int.reduceLT,Int.reduceToNat,Int.reduceBNe,Int.reduceBEq,Int.reduceNeg,Int.reduceEq,Int.reduceNe,Nat.reduceBNe,Int.reduceAdd,Int.reduceSub,Int.reduceMul,Int.reducePow,Nat.reducePow,Int.reduceGT,Int.reduceGE,if_true,if_false,ite_true,ite_false,beq_self_eq_true,BEq.rfl,reduceCtorEq,eq_self,ne_eq,Function.comp_def,beq_iff_eq]
  rw [← hs5]
  simp only [w5, c5, ap2, w6, c6, o1, o2, o3, o4, g6, evf,↓evp,evq,evr,fxa0,fxa1,fxa2,fxa3,fxa4,fxu,fxn,fxl,↓fxp,lgc,absL,fitL,flatL,ares,ares1,ofVal,unSc,aload,afill,splice,abound,asI,elems,IntKind.bits,sortT,eqNil,closedL,allByte,patch,pendOK,numA,Value.cells,Value.oneCell',ibin,List.replicate,Option.elim,Nat.reduceAdd,Nat.reduceSub,Nat.reduceMul,Nat.reduceLT,Nat.reduceEqDiff,Nat.reduceLeDiff,Nat.reduceBEq,Int.reduceLE,Int.reduceLT,Int.reduceToNat,Int.reduceBNe,Int.reduceBEq,Int.reduceNeg,Int.reduceEq,Int.reduceNe,Nat.reduceBNe,Int.reduceAdd,Int.reduceSub,Int.reduceMul,Int.reducePow,Nat.reducePow,Int.reduceGT,Int.reduceGE,if_true,if_false,ite_true,ite_false,beq_self_eq_true,BEq.rfl,reduceCtorEq,eq_self,ne_eq,Function.comp_def,beq_iff_eq]
  refine hO e s2.length tv' bv' _ ⟨List.getElem?_set_self lw6, ?_, ?_, .inl ⟨rfl, rfl, rfl⟩⟩ ((g5.trans g6).set (by omega) _) (by omega) (fun j hj => by have := n4 j hj; omega) fun j hj => by have := n6 j hj; omega
  · rw [bs_len]
    refine gl5.of fun j o hj ho => ?_
    have := n4 j hj
    rw [List.getElem?_set_ne (by omega)]
    exact g6 _ _ ho
  · refine gl6.of fun j o hj ho => ?_
    have := n6 j hj
    rw [List.getElem?_set_ne (by omega)]
    exact ho
theorem w_Check (ht : Rd Try.prog st 5 tv (bs T) T.length) (hb : Rd Try.prog st 90 bv (L.flatMap B4.v) L.length) (ot : one tv = true ∧ cellsV tv = [tv]) (ob : one bv = true ∧ cellsV bv = [bv]) (hm : 300 < m) (hTm : T.length < m) (hTb : ∀ t ∈ T, 0 ≤ t ∧ t < 256)
    (hE : newOK WW HH T L = false → ∀ s, Grw st s → K (.sc (.int .i64 1)) s)
    (hO : newOK WW HH T L = true → ∀ s, Grw st s → K (.sc (.int .i64 0)) s) :
    acallF Try.prog pl (n + 10) m 61 [.agg (mp WW HH tv bv)] st K := by
  refine acallF_inF Try.func61 rfl rfl Try.ntmps61 (by simp) ?_
  have g0 := Grw.push st [Ob.cells (mp WW HH tv bv)]
  have ht0 := ht.grw g0
  have hb0 := hb.grw g0
  simp only [mp] at g0 ht0 hb0
  simp only [mp, ot.1, ot.2, ob.1, ob.2, evf,↓evp,evq,evr,fxa0,fxa1,fxa2,fxa3,fxa4,fxu,fxn,fxl,↓fxp,lgc,absL,fitL,flatL,ares,ares1,ofVal,unSc,aload,afill,splice,abound,asI,elems,IntKind.bits,sortT,eqNil,closedL,allByte,patch,pendOK,numA,Value.cells,Value.oneCell',ibin,List.replicate,Option.elim,Nat.reduceAdd,Nat.reduceSub,Nat.reduceMul,Nat.reduceLT,Nat.reduceEqDiff,Nat.reduceLeDiff,Nat.reduceBEq,Int.reduceLE,Int.reduceLT,Int.reduceToNat,Int.reduceBNe,Int.reduceBEq,Int.reduceNeg,Int.reduceEq,Int.reduceNe,Nat.reduceBNe,Int.reduceAdd,Int.reduceSub,Int.reduceMul,Int.reducePow,Nat.reducePow,Int.reduceGT,Int.reduceGE,if_true,if_false,ite_true,ite_false,beq_self_eq_true,BEq.rfl,reduceCtorEq,eq_self,ne_eq,Function.comp_def,beq_iff_eq]
  refine w_New (n := n) ht0 hb0 ot ob hm hTm hTb (fun e s1 g1 => ?_) fun e wd a b tv' us os s1 _ _ g1 _ _ _ _ => ?_
  · simp only [evf,↓evp,evq,evr,fxa0,fxa1,fxa2,fxa3,fxa4,fxu,fxn,fxl,↓fxp,lgc,absL,fitL,flatL,ares,ares1,ofVal,unSc,aload,afill,splice,abound,asI,elems,IntKind.bits,sortT,eqNil,closedL,allByte,patch,pendOK,numA,Value.cells,Value.oneCell',ibin,List.replicate,Option.elim,Nat.reduceAdd,Nat.reduceSub,Nat.reduceMul,Nat.reduceLT,Nat.reduceEqDiff,Nat.reduceLeDiff,Nat.reduceBEq,Int.reduceLE,Int.reduceLT,Int.reduceToNat,Int.reduceBNe,Int.reduceBEq,Int.reduceNeg,Int.reduceEq,Int.reduceNe,Nat.reduceBNe,Int.reduceAdd,Int.reduceSub,Int.reduceMul,Int.reducePow,Nat.reducePow,Int.reduceGT,Int.reduceGE,if_true,if_false,ite_true,ite_false,beq_self_eq_true,BEq.rfl,reduceCtorEq,eq_self,ne_eq,Function.comp_def,beq_iff_eq]
    exact hE e _ (g0.trans g1)
  · simp only [evf,↓evp,evq,evr,fxa0,fxa1,fxa2,fxa3,fxa4,fxu,fxn,fxl,↓fxp,lgc,absL,fitL,flatL,ares,ares1,ofVal,unSc,aload,afill,splice,abound,asI,elems,IntKind.bits,sortT,eqNil,closedL,allByte,patch,pendOK,numA,Value.cells,Value.oneCell',ibin,List.replicate,Option.elim,Nat.reduceAdd,Nat.reduceSub,Nat.reduceMul,Nat.reduceLT,Nat.reduceEqDiff,Nat.reduceLeDiff,Nat.reduceBEq,Int.reduceLE,Int.reduceLT,Int.reduceToNat,Int.reduceBNe,Int.reduceBEq,Int.reduceNeg,Int.reduceEq,Int.reduceNe,Nat.reduceBNe,Int.reduceAdd,Int.reduceSub,Int.reduceMul,Int.reducePow,Nat.reducePow,Int.reduceGT,Int.reduceGE,if_true,if_false,ite_true,ite_false,beq_self_eq_true,BEq.rfl,reduceCtorEq,eq_self,ne_eq,Function.comp_def,beq_iff_eq]
    exact hO e _ (g0.trans g1)
end
end Go.Proofs.Ytndjhaeeldegfaa
