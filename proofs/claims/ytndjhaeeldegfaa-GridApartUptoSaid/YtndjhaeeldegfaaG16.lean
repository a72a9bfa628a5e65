/- Chapter 4's reference: a building is taken away. -/
import Derived.Test.YtndjhaeeldegfaaG15
set_option linter.unusedVariables false
set_option linter.unusedSimpArgs false
set_option maxRecDepth 10000
namespace Go.Proofs.Ytndjhaeeldegfaa
open Go Go.M Go.RowKit
attribute [local congr] acallF_cong aloop_cong bcase_cong resK_cong valK_cong wantK_cong callK_cong xputK_cong qputK_cong resM_cong rfK_cong
attribute [local irreducible] seqK blockK loopK nextK bcase resK valK wantK funK putK dputK xputK qputK callK aops aop acode adraw aloop acallF acall invK resM rfK rfEnd rdEnd rdMid around
theorem slice_start {P : Program} {st : List Ob} {e t : TypeId} {v : V} {xs : List V} {n : Nat} (h : Cut P st e v xs n) (ht : P.underlying t = some (.slice e)) {s : Nat} (hs : szOf P e = some s) {hi : Nat} (h1 : hi ≤ n) :
    ∃ v', aslice P st t v none (some (.sc (.int .i64 hi))) none = some v' ∧ Cut P st e v' (xs.take (hi * s)) hi := by
  obtain ⟨v', k1, k2⟩ := slice_mid h ht hs (Nat.zero_le hi) h1
  rw [Nat.zero_mul, List.drop_zero, Nat.sub_zero] at k2
  refine ⟨v', ?_, k2⟩
  rw [← k1]
  rcases h.1.cases with ⟨nil, full, rfl⟩ | ⟨id, off, full, gg, ys, m, l0, fz, s', rfl, _, _, _, _⟩
  · simp only [aslice, abound_nat _ _ _ _ h1]; rfl
  · simp only [aslice, abound_nat _ _ _ _ h1]; rfl
section
variable {n m : Nat} {st s : List Ob} {K : V → List Ob → Prop} {rd : Nat} {WW HH : Int} {tv bv ev : V} {ts : List V} {L : List B4} {ds : List R4} {x y w h id : Int}
set_option maxHeartbeats 4000000000000 in
theorem q_Raze (hy : Wr st rd WW HH tv bv ev ts L ds) (hm : 300 < m) (hl : L.length ≤ 256) (hdl : ds.length < 4000000000000)
    (hK1 : plcI id L 0 = -1 → ∀ s, Grw st s → K (.tup [.agg (rc 0 0 0 0), .sc (.int .i64 4)]) s)
    (hK0 : ∀ i (hi : i < L.length), plcI id L 0 = i → ∀ bv' ev' s, Wr s rd WW HH tv bv' ev' ts (L.take i ++ L.drop (i + 1)) (ds ++ [⟨L[i].x, L[i].y, L[i].w, L[i].h⟩]) → PR rd bv ev st s → (∀ j, rowOf bv' = some j → st.length ≤ j) → (∀ j, rowOf ev' = some j → rowOf ev = some j ∨ st.length ≤ j) →
      K (.tup [.agg (rc L[i].x L[i].y L[i].w L[i].h), .sc (.int .i64 0)]) s) :
    acallF Try.prog pl (n + 2) m 74 [.ref rd 0, .sc (.int .i64 id)] st K := by
  refine acallF_inF Try.func74 rfl rfl Try.ntmps74 (by simp) ?_
  have g0 := Grw.push st [.cells (rc 0 0 0 0)]
  have c0 : (st ++ [Ob.cells (rc 0 0 0 0)])[st.length]? = some (.cells (rc 0 0 0 0)) := get_new0 _ _
  have hy0 := hy.grw g0
  simp only [rc] at g0 hy0 c0
  simp only [evf,↓evp,evq,evr,fxa0,fxa1,fxa2,fxa3,fxa4,fxu,fxn,fxl,↓fxp,lgc,absL,fitL,flatL,ares,ares1,ofVal,unSc,aload,afill,splice,abound,asI,elems,IntKind.bits,sortT,eqNil,closedL,allByte,patch,pendOK,numA,Value.cells,Value.oneCell',ibin,List.replicate,Option.elim,Nat.reduceAdd,Nat.reduceSub,Nat.reduceMul,Nat.reduceLT,Nat.reduceEqDiff,Nat.reduceLeDiff,Nat.reduceBEq,Int.reduceLE,Int.reduceLT,Int.reduceToNat,Int.reduceBNe,Int.reduceBEq,Int.reduceNeg,Int.reduceEq,Int.reduceNe,Nat.reduceBNe,Int.reduceAdd,Int.reduceSub,Int.reduceMul,Int.reducePow,Nat.reducePow,Int.reduceGT,Int.reduceGE,if_true,if_false,ite_true,ite_false,beq_self_eq_true,BEq.rfl,reduceCtorEq,eq_self,ne_eq,Function.comp_def,beq_iff_eq]
  refine q_place (n := n) hy0 (by omega) (by omega) ?_
  rcases plcI_spec id L 0 with ⟨h1, _⟩ | ⟨i, hi, h1, _⟩
  · have h2 := hK1 h1
    simp only [h1, get_new, get_new0, M.set_new, M.set_new0, evf,↓evp,evq,evr,fxa0,fxa1,fxa2,fxa3,fxa4,fxu,fxn,fxl,↓fxp,lgc,absL,fitL,flatL,ares,ares1,ofVal,unSc,aload,afill,splice,abound,asI,elems,IntKind.bits,sortT,eqNil,closedL,allByte,patch,pendOK,numA,Value.cells,Value.oneCell',ibin,List.replicate,Option.elim,Nat.reduceAdd,Nat.reduceSub,Nat.reduceMul,Nat.reduceLT,Nat.reduceEqDiff,Nat.reduceLeDiff,Nat.reduceBEq,Int.reduceLE,Int.reduceLT,Int.reduceToNat,Int.reduceBNe,Int.reduceBEq,Int.reduceNeg,Int.reduceEq,Int.reduceNe,Nat.reduceBNe,Int.reduceAdd,Int.reduceSub,Int.reduceMul,Int.reducePow,Nat.reducePow,Int.reduceGT,Int.reduceGE,if_true,if_false,ite_true,ite_false,beq_self_eq_true,BEq.rfl,reduceCtorEq,eq_self,ne_eq,Function.comp_def,beq_iff_eq]
    exact h2 _ (Grw.push _ _)
  rw [Nat.zero_add] at h1
  have h2 := hK0 i hi h1
  have d : decide ((i : Int) < 0) = false := decide_eq_false (by omega)
  have y1 := hy0.w
  obtain ⟨p1, p2⟩ := ix_flat (f := B4.v) (fun a => rfl) hy0.rb Try.underlying63 sz90 ag90 (by omega) hi
  obtain ⟨p3, p4⟩ := b_r hy0.rb hi
  simp only [rc] at p4 h2
  generalize hu : L[i] = u at p4 h2
  -- the state with the rectangle's cell
  obtain ⟨s1, hs1⟩ : ∃ s1, s1 = st ++ [Ob.cells [.sc (.int .i64 0), .sc (.int .i64 0), .sc (.int .i64 0), .sc (.int .i64 0)], Ob.cells [.sc (.int .i64 u.x), .sc (.int .i64 u.y), .sc (.int .i64 u.w), .sc (.int .i64 u.h)]] := ⟨_, rfl⟩
  have g1 : Grw st s1 := by rw [hs1]; exact .push _ _
  have c1 : s1[st.length]? = some (.cells [.sc (.int .i64 0), .sc (.int .i64 0), .sc (.int .i64 0), .sc (.int .i64 0)]) := by rw [hs1]; exact get_new _ _ 0
  have r1 : s1[st.length + 1]? = some (.cells [.sc (.int .i64 u.x), .sc (.int .i64 u.y), .sc (.int .i64 u.w), .sc (.int .i64 u.h)]) := by rw [hs1]; exact get_new _ _ 1
  have l1 : s1.length = st.length + 2 := by rw [hs1]; simp
  have hy1 := hy.grw g1
  have w1 := hy1.w
  have hil : i ≤ L.length := by omega
  obtain ⟨va, ka, na⟩ := slice_start hy1.cb Try.underlying63 sz90 hil
  have ea : (L.flatMap B4.v).take (i * 5) = (L.take i).flatMap B4.v := flat_takeB L i
  rw [ea] at na
  obtain ⟨bv1, s2, ap1, bl1, tr1, nw1⟩ := gl_app (P := Try.prog) (t := 63) (e := 90) (s := s1) (v := .tsl [] 0 true true) (xs := []) (n := 0) (x := va) (.inl ⟨rfl, rfl, rfl⟩) Try.underlying63 sz90 by90 ze90 (by omega) rfl (by simp) na.1.1 (closed_bd _) (na.1.2.2 _ sz90) (by omega) (by omega)
  have g2 : Grw s1 s2 := fun j o h => tr1.2 _ _ (fun hh => by cases hh) h
  have hy2 := hy1.grw g2
  have w2 := hy2.w
  have c2 := g2 _ _ c1
  have r2 := g2 _ _ r1
  obtain ⟨vb, kb, nb⟩ := slice_end hy2.cb Try.underlying63 sz90 (lo := i + 1) hi
  have eb : (L.flatMap B4.v).drop ((i + 1) * 5) = (L.drop (i + 1)).flatMap B4.v := flatMap_drop (f := B4.v) (s := 5) (fun _ => rfl) _ _
  rw [eb] at nb
  simp only [List.nil_append, Nat.zero_add] at bl1
  have lt1 : (L.take i).length = i := by rw [List.length_take]; omega
  obtain ⟨bv2, s3, ap2, bl2, tr2, nw2⟩ := gl_app (P := Try.prog) (t := 63) (x := vb) bl1 Try.underlying63 sz90 by90 ze90 (by omega) rfl (by rw [flatMap_len (f := B4.v) (s := 5) (fun _ => rfl), lt1]) nb.1.1 (closed_bd _) (nb.1.2.2 _ sz90) (by omega) (by omega)
  have nb1 : ∀ j, j < s1.length → rowOf bv1 ≠ some j := fun j hj h => by
    rcases nw1 j h with h' | h'
    · cases h'
    · omega
  have nb2 : ∀ j, rowOf bv2 = some j → s1.length ≤ j := fun j h => by
    rcases nw2 j h with h' | h'
    · rcases Nat.lt_or_ge j s1.length with h3 | h3
      · exact absurd h' (nb1 j h3)
      · exact h3
    · have := g2.le; omega
  have hr0 : rd < st.length := (List.getElem?_eq_some_iff.1 hy.w).1
  have f3 : ∀ j o, j < s1.length → s1[j]? = some o → s3[j]? = some o := fun j o hj ho => tr2.2 _ _ (nb1 j hj) (g2 _ _ ho)
  have w3 := f3 _ _ (by omega) w1
  have c3 := f3 _ _ (by omega) c1
  have r3 := f3 _ _ (by omega) r1
  have e3 : IntKind.i64.wrap ((i : Int) + 1) = ((i + 1 : Nat) : Int) := by rw [IntWalk.i64_in _ (by omega)]; rfl
  obtain ⟨ho2, hc2⟩ := bl2.one
  have lrd3 : rd < s3.length := (List.getElem?_eq_some_iff.1 w3).1
  obtain ⟨s4, hs4⟩ : ∃ s4, s4 = s3.set rd (Ob.cells [.sc (.int .i64 WW), .sc (.int .i64 HH), tv, bv2, ev]) := ⟨_, rfl⟩
  have k4 : ∀ j o, j ≠ rd → s3[j]? = some o → s4[j]? = some o := fun j o hj ho => by rw [hs4, List.getElem?_set_ne (Ne.symm hj)]; exact ho
  have w4 : s4[rd]? = some (.cells [.sc (.int .i64 WW), .sc (.int .i64 HH), tv, bv2, ev]) := by rw [hs4]; exact List.getElem?_set_self lrd3
  have c4 := k4 _ _ (by omega) c3
  have r4 := k4 _ _ (by omega) r3
  have ntr : rowOf ev ≠ some rd := hy.el.ncells hy.w
  have rowlt : ∀ {e : TypeId} {v : V} {xs : List V} {k : Nat}, Gl st e v xs k → ∀ j, rowOf v = some j → j < st.length := fun hg j h => by
    rcases hg with ⟨rfl, _, _⟩ | ⟨id, lo, rfl, h1, _⟩
    · cases h
    · simp only [rowOf, Option.some.injEq] at h
      have := (List.getElem?_eq_some_iff.1 h1).1
      omega
  have el4 : Gl s4 78 ev (ds.flatMap R4.v) ds.length := hy1.el.of fun j o hj ho => k4 _ _ (fun h => ntr (by rw [← h]; exact hj)) (f3 _ _ (by have := rowlt hy.el j hj; omega) ho)
  have gX := fun X => Grw.push s4 X
  obtain ⟨ev', s5, ap3, el5, tr5, nw5⟩ := gl_app (P := Try.prog) (t := 83) (s := s4 ++ [.row 78 (rc u.x u.y u.w u.h) 1 0 false]) (x := .sl s4.length 0 1 false 1) (zs := rc u.x u.y u.w u.h) (k := 1) (el4.grw (gX _)) Try.underlying83 sz78 by78 ze78 (by omega) rfl (flatMap_len (f := R4.v) (s := 4) (fun _ => rfl) _) (by simp only [elems, get_new0, List.getElem?_cons_zero, sz78]; rfl) rfl rfl (by omega) (by omega)
  have f5 : ∀ j o, rowOf ev ≠ some j → s4[j]? = some o → s5[j]? = some o := fun j o hj ho => tr5.2 _ _ hj (gX _ _ _ ho)
  have nec : ∀ j, st.length ≤ j → rowOf ev ≠ some j := fun j hj h => by have := rowlt hy.el j h; omega
  have w5 := f5 _ _ ntr w4
  have c5 := f5 _ _ (nec _ (Nat.le_refl _)) c4
  have r5 := f5 _ _ (nec _ (by omega)) r4
  have w4X := fun X => gX X _ _ w4
  have c4X := fun X => gX X _ _ c4
  have r4X := fun X => gX X _ _ r4
  obtain ⟨ho5, hc5⟩ := el5.one
  have ls4 : st.length + 2 ≤ s4.length := by have := (List.getElem?_eq_some_iff.1 r4).1; omega
  have r5' : s5[s4.length]? = some (.row 78 (rc u.x u.y u.w u.h) 1 0 false) := tr5.2 _ _ (nec _ (by omega)) (get_new0 _ _)
  have r6 : ∀ o, (s5.set rd o)[s4.length]? = some (.row 78 (rc u.x u.y u.w u.h) 1 0 false) := fun o => by rw [List.getElem?_set_ne (by omega)]; exact r5'
  have q6 : ∀ o, (s5.set rd o)[st.length + 1]? = s5[st.length + 1]? := fun o => List.getElem?_set_ne (by omega)
  have q7 : ∀ o, (s5.set rd o)[st.length]? = s5[st.length]? := fun o => List.getElem?_set_ne (by omega)
  have q8 : ∀ o o', ((s5.set rd o).set st.length o')[st.length]? = some o' := fun o o' => get_set ((q7 o).trans c5) o'
  simp only [rc] at ap3 r6
  simp only [h1, d, y1, p1, p3, p4, get_new, get_new0, M.set_new, M.set_new0, evf,↓evp,evq,evr,fxa0,fxa1,fxa2,fxa3,fxa4,fxu,fxn,fxl,↓fxp,lgc,absL,fitL,flatL,ares,ares1,ofVal,unSc,aload,afill,splice,abound,asI,elems,IntKind.bits,sortT,eqNil,closedL,allByte,patch,pendOK,numA,Value.cells,Value.oneCell',ibin,List.replicate,Option.elim,Nat.reduceAdd,Nat.reduceSub,Nat.reduceMul,Nat.reduceLT,Nat.reduceEqDiff,Nat.reduceLeDiff,Nat.reduceBEq,Int.reduceLE,Int.reduceLT,Int.reduceToNat,Int.reduceBNe,Int.reduceBEq,Int.reduceNeg,Int.reduceEq,Int.reduceNe,Nat.reduceBNe,Int.reduceAdd,Int.reduceSub,Int.reduceMul,Int.reducePow,Nat.reducePow,Int.reduceGT,Int.reduceGE,if_true,if_false,ite_true,ite_false,beq_self_eq_true,BEq.rfl,reduceCtorEq,eq_self,ne_eq,Function.comp_def,beq_iff_eq]
  rw [← hs1]
  simp only [w1, ka, ap1, w2, kb, e3, ap2, w3, ho2, hc2, evf,↓evp,evq,evr,fxa0,fxa1,fxa2,fxa3,fxa4,fxu,fxn,fxl,↓fxp,lgc,absL,fitL,flatL,ares,ares1,ofVal,unSc,aload,afill,splice,abound,asI,elems,IntKind.bits,sortT,eqNil,closedL,allByte,patch,pendOK,numA,Value.cells,Value.oneCell',ibin,List.replicate,Option.elim,Nat.reduceAdd,Nat.reduceSub,Nat.reduceMul,Nat.reduceLT,Nat.reduceEqDiff,Nat.reduceLeDiff,Nat.reduceBEq,Int.reduceLE,Int.reduceLT,Int.reduceToNat,Int.reduceBNe,Int.reduceBEq,Int.reduceNeg,Int.reduceEq,Int.reduceNe,Nat.reduceBNe,Int.reduceAdd,Int.reduceSub,Int.reduceMul,Int.reducePow,Nat.reducePow,Int.reduceGT,Int.reduceGE,if_true,if_false,ite_true,ite_false,beq_self_eq_true,BEq.rfl,reduceCtorEq,eq_self,ne_eq,Function.comp_def,beq_iff_eq]
  rw [← hs4]
  simp only [w4, c4, r4, w4X, c4X, r4X, w5, c5, r5, ap3, ho5, hc5, r6, q6, q7, q8, evf,↓evp,evq,evr,fxa0,fxa1,fxa2,fxa3,fxa4,fxu,fxn,fxl,↓fxp,lgc,absL,fitL,flatL,ares,ares1,ofVal,unSc,aload,afill,splice,abound,asI,elems,IntKind.bits,sortT,eqNil,closedL,allByte,patch,pendOK,numA,Value.cells,Value.oneCell',ibin,List.replicate,Option.elim,Nat.reduceAdd,Nat.reduceSub,Nat.reduceMul,Nat.reduceLT,Nat.reduceEqDiff,Nat.reduceLeDiff,Nat.reduceBEq,Int.reduceLE,Int.reduceLT,Int.reduceToNat,Int.reduceBNe,Int.reduceBEq,Int.reduceNeg,Int.reduceEq,Int.reduceNe,Nat.reduceBNe,Int.reduceAdd,Int.reduceSub,Int.reduceMul,Int.reducePow,Nat.reducePow,Int.reduceGT,Int.reduceGE,if_true,if_false,ite_true,ite_false,beq_self_eq_true,BEq.rfl,reduceCtorEq,eq_self,ne_eq,Function.comp_def,beq_iff_eq]
  have lrd5 : rd < s5.length := (List.getElem?_eq_some_iff.1 w5).1
  have k8 : ∀ (o' o'' : Ob) j o, j ≠ rd → j ≠ st.length → s5[j]? = some o → ((s5.set rd o').set st.length o'')[j]? = some o := fun o' o'' j o hj hj2 ho => by rw [List.getElem?_set_ne (Ne.symm hj2), List.getElem?_set_ne (Ne.symm hj)]; exact ho
  have tt : ∀ j, rowOf tv = some j → j ≠ rd ∧ rowOf ev ≠ some j ∧ j < st.length := fun j hj => ⟨fun h => hy.tl.ncells hy.w (by rw [← h]; exact hj), hy.tl.nrow hy.el (by decide) j hj, rowlt hy.tl j hj⟩
  refine h2 bv2 ev' _ ⟨?_, ?_, ?_, ?_⟩ ⟨?_, fun j o j1 j2 j3 ho => ?_⟩ (fun j hj => by have := nb2 j hj; omega) fun j hj => ?_
  · rw [List.getElem?_set_ne (by omega)]; exact List.getElem?_set_self lrd5
  · refine hy1.tl.of fun j o hj ho => ?_
    obtain ⟨t1, t2, t3⟩ := tt j hj
    exact k8 _ _ _ _ t1 (by omega) (f5 _ _ t2 (k4 _ _ t1 (f3 _ _ (by omega) ho)))
  · have e : (L.take i ++ L.drop (i + 1)).flatMap B4.v = (L.take i).flatMap B4.v ++ (L.drop (i + 1)).flatMap B4.v := List.flatMap_append
    have e2 : (L.take i ++ L.drop (i + 1)).length = i + (L.length - (i + 1)) := by rw [List.length_append, lt1, List.length_drop]
    rw [e, e2]
    refine bl2.of fun j o hj ho => ?_
    have hj1 := nb2 j hj
    have n3 : j ≠ rd := by omega
    exact k8 _ _ _ _ n3 (by omega) (f5 _ _ (nec _ (by omega)) (k4 _ _ n3 ho))
  · have e : (ds ++ [(⟨u.x, u.y, u.w, u.h⟩ : R4)]).flatMap R4.v = ds.flatMap R4.v ++ rc u.x u.y u.w u.h := by simp [List.flatMap_append, R4.v]
    have e2 : (ds ++ [(⟨u.x, u.y, u.w, u.h⟩ : R4)]).length = ds.length + 1 := by simp
    rw [e, e2]
    refine el5.of fun j o hj ho => k8 _ _ _ _ (fun h => ?_) (fun h => ?_) ho
    · rcases nw5 j hj with h' | h'
      · exact ntr (by rw [← h]; exact h')
      · simp only [List.length_append] at h'; omega
    · rcases nw5 j hj with h' | h'
      · exact nec _ (by omega) h'
      · simp only [List.length_append] at h'; omega
  · rw [List.length_set, List.length_set]
    have := (List.getElem?_eq_some_iff.1 r5).1
    omega
  · have lj : j < st.length := (List.getElem?_eq_some_iff.1 ho).1
    exact k8 _ _ _ _ j1 (by omega) (f5 _ _ j3 (k4 _ _ j1 (f3 _ _ (by omega) (g1 _ _ ho))))
  · rcases nw5 j hj with h' | h'
    · exact .inl h'
    · exact .inr (by simp only [List.length_append] at h'; omega)
end
end Go.Proofs.Ytndjhaeeldegfaa
