/- Chapter 22: the law ReserveApart. Chapter 22: the law ReserveApart. -/
import Derived.Test.YtgmccnnjpejigaaX6
set_option linter.unusedVariables false
set_option linter.unusedSimpArgs false
set_option maxRecDepth 10000
namespace Go.Proofs.Ytgmccnnjpejigaa
open Go Go.M Go.RowKit
attribute [local congr] acallF_cong aloop_cong bcase_cong resK_cong valK_cong wantK_cong callK_cong xputK_cong qputK_cong resM_cong rfK_cong
attribute [local irreducible] seqK blockK loopK nextK bcase resK valK wantK funK putK dputK xputK qputK callK aops aop acode adraw aloop acallF acall invK resM rfK rfEnd rdEnd rdMid around
/-! ### Chapter 22: the law ReserveApart. -/
structure R5 where
  x : Int
  y : Int
  w : Int
  h : Int
def R5.v (r : R5) : List V := rc r.x r.y r.w r.h
def rOf (u : U) : R5 := ⟨u.x, u.y, u.w, u.h⟩
section
variable {n m : Nat} {st s : List Ob} {K : V → List Ob → Prop} {yv : V} {pre : List R5} {u : U}
set_option maxHeartbeats 4000000 in
/-- A round of 'ReserveApart'. -/
theorem rap_yl {ps : Array Tmp} {asg body : Code} (hc : frf (Try.f14.body.getD .skip) = some (ps, asg, body)) {F : Nat → V} {t9 lid : Nat} {p : Option Code} (q9 : F 9 = .ref t9 0)
    (h9 : s[t9]? = some (.cells [yv])) (gl : Gl s 34 yv (pre.flatMap R5.v) pre.length) (hp : pre.length ≤ 256) (hm : 300 < m)
    (hoth : ∀ q ∈ pre, meetB q.x q.y q.w q.h u.x u.y u.w u.h = false)
    (hl : s[lid]? = some (.loop .ready p (pl 14) (ofF 74 F) ps.toList asg body))
    (hK : ∀ yv2 s', Gl s' 34 yv2 ((pre ++ [rOf u]).flatMap R5.v) (pre.length + 1) → s'[t9]? = some (.cells [yv2]) → s'[lid]? = some (.loop .ready none (pl 14) (ofF 74 F) ps.toList asg body) → (∀ j o, j ≠ t9 → j ≠ lid → rowOf yv ≠ some j → s[j]? = some o → s'[j]? = some o) → s.length ≤ s'.length → (∀ j, rowOf yv2 = some j → rowOf yv = some j ∨ s.length ≤ j) → K (.sc (.bool true)) s') :
    acallF Try.prog pl (n + 5) m Try.prog.funcs.size [.yl lid, .sc (.int .i64 u.id), .agg (rc u.x u.y u.w u.h)] s K := by
  simp only [Try.f14, Option.getD_some, frf, Option.some.injEq, Prod.mk.injEq] at hc
  obtain ⟨rfl, rfl, rfl⟩ := hc
  refine acallF_yl hl rfl ?_
  rw [show (#[46, 47] : Array Tmp).toList = [46, 47] from rfl, aputs_two (by decide) (by decide)]
  simp only [rc, evf,↓evp,evq,evr,fxa0,fxa1,fxa2,fxa3,fxa4,fxu,fxn,fxl,↓fxp,lgc,absL,fitL,flatL,ares,ares1,ofVal,unSc,aload,afill,splice,abound,asI,elems,IntKind.bits,sortT,eqNil,closedL,allByte,patch,pendOK,numA,Value.cells,Value.oneCell',ibin,List.replicate,Option.elim,Nat.reduceAdd,Nat.reduceSub,Nat.reduceMul,Nat.reduceLT,Nat.reduceEqDiff,Nat.reduceLeDiff,Nat.reduceBEq,Int.reduceLE,Int.reduceLT,Int.reduceToNat,Int.reduceBNe,Int.reduceBEq,Int.reduceNeg,Int.reduceEq,Int.reduceNe,Nat.reduceBNe,Int.reduceAdd,Int.reduceSub,Int.reduceMul,Int.reducePow,Nat.reducePow,Int.reduceGT,Int.reduceGE,if_true,if_false,ite_true,ite_false,beq_self_eq_true,BEq.rfl,reduceCtorEq,eq_self,ne_eq,Function.comp_def,beq_iff_eq]
  have g0 := Grw.push s [.cells (rc u.x u.y u.w u.h)]
  have c6 : (s ++ [Ob.cells (rc u.x u.y u.w u.h)])[s.length]? = some (.cells (rc u.x u.y u.w u.h)) := get_new0 _ _
  simp only [rc] at g0 c6
  refine rdMid_ok (g0 _ _ hl) ?_
  generalize hs1 : (s ++ [Ob.cells _]) = s1 at g0 c6
  have l1 : s1.length = s.length + 1 := by rw [← hs1]; simp
  have nl : s.length ≠ lid := fun he => by subst he; rw [List.getElem?_eq_none (Nat.le_refl _)] at hl; cases hl
  have lt : lid < s1.length := (List.getElem?_eq_some_iff.1 (g0 _ _ hl)).1
  have nc : ∀ (j : Nat) (c : List V), s[j]? = some (.cells c) → j ≠ lid := fun j c hj he => by subst he; rw [hl] at hj; cases hj
  have nrl : rowOf yv ≠ some lid := fun he => by
    rcases gl with ⟨rfl, _, _⟩ | ⟨id, lo, rfl, h1, _⟩
    · cases he
    · simp only [rowOf, Option.some.injEq] at he
      subst he
      rw [hl] at h1; cases h1
  generalize hs2 : s1.set lid _ = s2
  have k : ∀ j o, j ≠ lid → s1[j]? = some o → s2[j]? = some o := fun j o hj ho => by rw [← hs2, List.getElem?_set_ne (Ne.symm hj)]; exact ho
  have d9 := k _ _ (nc _ _ h9) (g0 _ _ h9)
  have d6 := k _ _ nl c6
  have dl : ∀ o, s1.set lid o = s2 → s2[lid]? = some o := fun o ho => by rw [← ho]; exact List.getElem?_set_self lt
  have dl := dl _ hs2
  have gl2 : Gl s2 34 yv (pre.flatMap R5.v) pre.length := gl.of fun j o hj ho => k _ _ (fun he => nrl (by rw [← he]; exact hj)) (g0 _ _ ho)
  have l2 : s2.length = s1.length := by rw [← hs2, List.length_set]
  have fl : (pre.flatMap R5.v).length = pre.length * 4 := flatMap_len (f := R5.v) (s := 4) (fun _ => rfl) _
  simp only [evf,↓evp,evq,evr,fxa0,fxa1,fxa2,fxa3,fxa4,fxu,fxn,fxl,↓fxp,lgc,absL,fitL,flatL,ares,ares1,ofVal,unSc,aload,afill,splice,abound,asI,elems,IntKind.bits,sortT,eqNil,closedL,allByte,patch,pendOK,numA,Value.cells,Value.oneCell',ibin,List.replicate,Option.elim,Nat.reduceAdd,Nat.reduceSub,Nat.reduceMul,Nat.reduceLT,Nat.reduceEqDiff,Nat.reduceLeDiff,Nat.reduceBEq,Int.reduceLE,Int.reduceLT,Int.reduceToNat,Int.reduceBNe,Int.reduceBEq,Int.reduceNeg,Int.reduceEq,Int.reduceNe,Nat.reduceBNe,Int.reduceAdd,Int.reduceSub,Int.reduceMul,Int.reducePow,Nat.reducePow,Int.reduceGT,Int.reduceGE,if_true,if_false,ite_true,ite_false,beq_self_eq_true,BEq.rfl,reduceCtorEq,eq_self,ne_eq,Function.comp_def,beq_iff_eq]
  obtain ⟨s0len, hs0⟩ : ∃ q, q = s.length := ⟨_, rfl⟩
  rw [← hs0] at d6
  refine aloop_forF (fun k f s => ∃ i : Nat, Grw s2 s ∧ k + i = m ∧ i ≤ pre.length ∧ f 9 = .ref t9 0 ∧ f 11 = .ref s0len 0 ∧ f 12 = .sc (.int .i64 i)) ⟨0, fun _ _ h => h, by omega, by omega, by simp only [q9, evf, ne_eq, Nat.reduceEqDiff, Nat.reduceLT, not_false_eq_true], by simp only [hs0, evf, ne_eq, Nat.reduceEqDiff, Nat.reduceLT, not_false_eq_true], by simp only [evf, ne_eq, Nat.reduceEqDiff, Nat.reduceLT, not_false_eq_true]; rfl⟩ ?_
  rintro I' hI' kk f s3 ⟨i, gs, hk, hi, f9, f11, f12⟩
  refine ⟨kk - 1, by omega, ?_⟩
  have e9 := gs _ _ d9
  have e6 := gs _ _ d6
  have gl3 := gl2.grw gs
  have rd3 := gl3.rd (P := Try.prog) sz34 fl
  have al := alen_rd rd3 Try.underlying100
  have gX := fun X => Grw.push s3 X
  have e9X := fun X => gX X _ _ e9
  have e6X := fun X => gX X _ _ e6
  have e3 : IntKind.i64.wrap ((i : Int) + 1) = ((i + 1 : Nat) : Int) := by rw [IntWalk.i64_in _ (by omega)]; rfl
  by_cases hil : i < pre.length
  · have d : decide ((i : Int) < pre.length) = true := decide_eq_true (by omega)
    have q1 := fun X => (ix_flat (f := R5.v) (fun a => rfl) (rd3.grw (gX X)) Try.underlying100 sz34 ag34 (by omega) hil).1
    have q2 := fun X => (ix_flat (f := R5.v) (fun a => rfl) (rd3.grw (gX X)) Try.underlying100 sz34 ag34 (by omega) hil).2
    have hov := hoth _ (List.getElem_mem hil)
    simp only [R5.v, rc] at q2
    simp only [f9, f11, f12, e9, e6, al, d, e9X, e6X, q1, q2, get_new, get_new0, Go.M.set_new, Go.M.set_new0, evf,↓evp,evq,evr,fxa0,fxa1,fxa2,fxa3,fxa4,fxu,fxn,fxl,↓fxp,lgc,absL,fitL,flatL,ares,ares1,ofVal,unSc,aload,afill,splice,abound,asI,elems,IntKind.bits,sortT,eqNil,closedL,allByte,patch,pendOK,numA,Value.cells,Value.oneCell',ibin,List.replicate,Option.elim,Nat.reduceAdd,Nat.reduceSub,Nat.reduceMul,Nat.reduceLT,Nat.reduceEqDiff,Nat.reduceLeDiff,Nat.reduceBEq,Int.reduceLE,Int.reduceLT,Int.reduceToNat,Int.reduceBNe,Int.reduceBEq,Int.reduceNeg,Int.reduceEq,Int.reduceNe,Nat.reduceBNe,Int.reduceAdd,Int.reduceSub,Int.reduceMul,Int.reducePow,Nat.reducePow,Int.reduceGT,Int.reduceGE,if_true,if_false,ite_true,ite_false,beq_self_eq_true,BEq.rfl,reduceCtorEq,eq_self,ne_eq,Function.comp_def,beq_iff_eq]
    refine r_Meet (n := n) fun ra rb rc' rd s4 g4 => ?_
    rw [hov]
    have w0 : s4[s3.length]? = some Ob.gone := g4 _ _ (get_new0 _ _)
    have w1 : ∀ o, (s4.set s3.length o)[s3.length]? = some o := fun o => get_set w0 o
    have w2 : ∀ o o', ((s4.set s3.length o).set s3.length o') = s4.set s3.length o' := fun o o' => List.set_set ..
    have g7 : ∀ o, Grw s2 (s4.set s3.length o) := fun o j o' ho => by
      have lj : j < s2.length := (List.getElem?_eq_some_iff.1 ho).1
      have := gs.le
      rw [List.getElem?_set_ne (by omega)]
      exact g4 _ _ (gX _ _ _ (gs _ _ ho))
    simp only [rc, f9, f11, f12, w0, w1, w2, e3, evf,↓evp,evq,evr,fxa0,fxa1,fxa2,fxa3,fxa4,fxu,fxn,fxl,↓fxp,lgc,absL,fitL,flatL,ares,ares1,ofVal,unSc,aload,afill,splice,abound,asI,elems,IntKind.bits,sortT,eqNil,closedL,allByte,patch,pendOK,numA,Value.cells,Value.oneCell',ibin,List.replicate,Option.elim,Nat.reduceAdd,Nat.reduceSub,Nat.reduceMul,Nat.reduceLT,Nat.reduceEqDiff,Nat.reduceLeDiff,Nat.reduceBEq,Int.reduceLE,Int.reduceLT,Int.reduceToNat,Int.reduceBNe,Int.reduceBEq,Int.reduceNeg,Int.reduceEq,Int.reduceNe,Nat.reduceBNe,Int.reduceAdd,Int.reduceSub,Int.reduceMul,Int.reducePow,Nat.reducePow,Int.reduceGT,Int.reduceGE,if_true,if_false,ite_true,ite_false,beq_self_eq_true,BEq.rfl,reduceCtorEq,eq_self,ne_eq,Function.comp_def,beq_iff_eq]
    exact hI' _ _ _ ⟨i + 1, g7 _, by omega, hil, by simp only [f9, evf, ne_eq, Nat.reduceEqDiff, Nat.reduceLT, not_false_eq_true], by simp only [f11, evf, ne_eq, Nat.reduceEqDiff, Nat.reduceLT, not_false_eq_true], by simp only [evf, ne_eq, Nat.reduceEqDiff, Nat.reduceLT, not_false_eq_true]⟩
  · have d : decide ((i : Int) < pre.length) = false := decide_eq_false (by omega)
    obtain ⟨yv2, s5, ap, gl5, tr5, nw5⟩ := gl_app (P := Try.prog) (t := 100) (s := s3 ++ [.row 34 (rc u.x u.y u.w u.h) 1 0 false]) (x := .sl s3.length 0 1 false 1) (zs := rc u.x u.y u.w u.h) (k := 1) (gl3.grw (gX _)) Try.underlying100 sz34 by34 ze34 (by omega) rfl fl (by simp only [elems, get_new0, List.getElem?_cons_zero, sz34]; rfl) rfl rfl (by omega) (by omega)
    have nt9 : rowOf yv ≠ some t9 := gl3.ncells e9
    have e95 := tr5.2 _ _ nt9 (gX _ _ _ e9)
    obtain ⟨o1, o2⟩ := gl5.one
    have dl3 := tr5.2 _ _ nrl (gX _ _ _ (gs _ _ dl))
    have nyl : rowOf yv ≠ some s3.length := fun h => by have := gl3.lt _ h; omega
    have lt3 : t9 < s3.length := (List.getElem?_eq_some_iff.1 e9).1
    simp only [rc] at ap
    simp only [f9, f11, f12, e9, e6, al, d, e9X, e6X, ap, e95, o1, o2, get_new, get_new0, Go.M.set_new, Go.M.set_new0, evf,↓evp,evq,evr,fxa0,fxa1,fxa2,fxa3,fxa4,fxu,fxn,fxl,↓fxp,lgc,absL,fitL,flatL,ares,ares1,ofVal,unSc,aload,afill,splice,abound,asI,elems,IntKind.bits,sortT,eqNil,closedL,allByte,patch,pendOK,numA,Value.cells,Value.oneCell',ibin,List.replicate,Option.elim,Nat.reduceAdd,Nat.reduceSub,Nat.reduceMul,Nat.reduceLT,Nat.reduceEqDiff,Nat.reduceLeDiff,Nat.reduceBEq,Int.reduceLE,Int.reduceLT,Int.reduceToNat,Int.reduceBNe,Int.reduceBEq,Int.reduceNeg,Int.reduceEq,Int.reduceNe,Nat.reduceBNe,Int.reduceAdd,Int.reduceSub,Int.reduceMul,Int.reducePow,Nat.reducePow,Int.reduceGT,Int.reduceGE,if_true,if_false,ite_true,ite_false,beq_self_eq_true,BEq.rfl,reduceCtorEq,eq_self,ne_eq,Function.comp_def,beq_iff_eq]
    have nil' := nc _ _ h9
    have ly : t9 < s5.length := (List.getElem?_eq_some_iff.1 e95).1
    have ll : lid < s5.length := (List.getElem?_eq_some_iff.1 dl3).1
    have ls2 : s.length < s2.length := by omega
    have ls3 := gs.le
    have new5 : ∀ j, rowOf yv2 = some j → rowOf yv = some j ∨ s.length ≤ j := fun j hj => by
      rcases nw5 j hj with h | h
      · exact .inl h
      · exact .inr (by simp only [List.length_append] at h; omega)
    have lid2 : lid < s.length := (List.getElem?_eq_some_iff.1 hl).1
    have nby : ∀ j, rowOf yv2 = some j → j ≠ t9 ∧ j ≠ lid := fun j hj => by
      rcases nw5 j hj with h | h
      · exact ⟨fun he => nt9 (by rw [← he]; exact h), fun he => nrl (by rw [← he]; exact h)⟩
      · simp only [List.length_append, List.length_cons, List.length_nil] at h
        omega
    refine rdEnd_normal (by rw [List.getElem?_set_ne nil']; exact dl3) ?_
    refine hK yv2 _ ?_ ?_ ?_ ?_ ?_ new5
    · have e : (pre ++ [rOf u]).flatMap R5.v = pre.flatMap R5.v ++ rc u.x u.y u.w u.h := by simp [List.flatMap_append, rOf, R5.v]
      rw [e]
      refine gl5.of fun j o hj ho => ?_
      obtain ⟨j1, j2⟩ := nby j hj
      rw [List.getElem?_set_ne (Ne.symm j2), List.getElem?_set_ne (Ne.symm j1)]
      exact ho
    · rw [List.getElem?_set_ne (Ne.symm nil'), List.getElem?_set_self ly]
    · rw [List.getElem?_set_self (by rw [List.length_set]; exact ll)]
    · intro j o j1 j2 j3 ho
      rw [List.getElem?_set_ne (Ne.symm j2), List.getElem?_set_ne (Ne.symm j1)]
      exact tr5.2 _ _ j3 (gX _ _ _ (gs _ _ (k _ _ j2 (g0 _ _ ho))))
    · rw [List.length_set, List.length_set]
      have := tr5.1
      simp only [List.length_append] at this
      omega
end
/-! ### Chapter 22: the law ReserveApart. -/
section
variable {n m : Nat} {st s : List Ob} {K : V → List Ob → Prop} {E : List U} {C : List K4} {lv cv : V}
set_option maxHeartbeats 8000000 in
theorem l22_Apart (he : ∀ s, Rd Try.prog s 130 lv (E.flatMap U.v) E.length) (hid : ∀ e ∈ E, inR e.id) (hEm : E.length < m) (hEl : E.length ≤ 3518437208883) (hc : ∀ s, Rd Try.prog s 82 cv (C.flatMap K4.v) C.length) (hCm : C.length < m) (hCl : C.length ≤ 4398046511104) (hm : 300 < m) (hK : ∀ s, K (.sc (.bool true)) s) :
    acallF Try.prog pl (n + 12) m 14 [lv, cv] st K := by
  refine acallF_inF Try.func14 rfl rfl Try.ntmps14 (by simp) ?_
  obtain ⟨s0, hs0⟩ : ∃ s0, s0 = st ++ [Ob.cells [.sc (.bool false)]] := ⟨_, rfl⟩
  have c0 : s0[st.length]? = some (.cells [.sc (.bool false)]) := by rw [hs0]; exact get_new0 _ _
  simp only [evf,↓evp,evq,evr,fxa0,fxa1,fxa2,fxa3,fxa4,fxu,fxn,fxl,↓fxp,lgc,absL,fitL,flatL,ares,ares1,ofVal,unSc,aload,afill,splice,abound,asI,elems,IntKind.bits,sortT,eqNil,closedL,allByte,patch,pendOK,numA,Value.cells,Value.oneCell',ibin,List.replicate,Option.elim,Nat.reduceAdd,Nat.reduceSub,Nat.reduceMul,Nat.reduceLT,Nat.reduceEqDiff,Nat.reduceLeDiff,Nat.reduceBEq,Int.reduceLE,Int.reduceLT,Int.reduceToNat,Int.reduceBNe,Int.reduceBEq,Int.reduceNeg,Int.reduceEq,Int.reduceNe,Nat.reduceBNe,Int.reduceAdd,Int.reduceSub,Int.reduceMul,Int.reducePow,Nat.reducePow,Int.reduceGT,Int.reduceGE,if_true,if_false,ite_true,ite_false,beq_self_eq_true,BEq.rfl,reduceCtorEq,eq_self,ne_eq,Function.comp_def,beq_iff_eq]
  rw [← hs0]
  refine awake22 (n := n + 2) (by omega) fun s1 g1 => ?_
  have c1 := g1 _ _ c0
  simp only [evf,↓evp,evq,evr,fxa0,fxa1,fxa2,fxa3,fxa4,fxu,fxn,fxl,↓fxp,lgc,absL,fitL,flatL,ares,ares1,ofVal,unSc,aload,afill,splice,abound,asI,elems,IntKind.bits,sortT,eqNil,closedL,allByte,patch,pendOK,numA,Value.cells,Value.oneCell',ibin,List.replicate,Option.elim,Nat.reduceAdd,Nat.reduceSub,Nat.reduceMul,Nat.reduceLT,Nat.reduceEqDiff,Nat.reduceLeDiff,Nat.reduceBEq,Int.reduceLE,Int.reduceLT,Int.reduceToNat,Int.reduceBNe,Int.reduceBEq,Int.reduceNeg,Int.reduceEq,Int.reduceNe,Nat.reduceBNe,Int.reduceAdd,Int.reduceSub,Int.reduceMul,Int.reducePow,Nat.reducePow,Int.reduceGT,Int.reduceGE,if_true,if_false,ite_true,ite_false,beq_self_eq_true,BEq.rfl,reduceCtorEq,eq_self,ne_eq,Function.comp_def,beq_iff_eq]
  refine l22_Made (n := n + 3) he hid hEm hEl hm fun s2 ix a b tb u c z iy us os L sv hab huc hd hi rel gd hT hz hy g2 hle => ?_
  have c2 := g2 _ _ c1
  simp only [evf,↓evp,evq,evr,fxa0,fxa1,fxa2,fxa3,fxa4,fxu,fxn,fxl,↓fxp,lgc,absL,fitL,flatL,ares,ares1,ofVal,unSc,aload,afill,splice,abound,asI,elems,IntKind.bits,sortT,eqNil,closedL,allByte,patch,pendOK,numA,Value.cells,Value.oneCell',ibin,List.replicate,Option.elim,Nat.reduceAdd,Nat.reduceSub,Nat.reduceMul,Nat.reduceLT,Nat.reduceEqDiff,Nat.reduceLeDiff,Nat.reduceBEq,Int.reduceLE,Int.reduceLT,Int.reduceToNat,Int.reduceBNe,Int.reduceBEq,Int.reduceNeg,Int.reduceEq,Int.reduceNe,Nat.reduceBNe,Int.reduceAdd,Int.reduceSub,Int.reduceMul,Int.reducePow,Nat.reducePow,Int.reduceGT,Int.reduceGE,if_true,if_false,ite_true,ite_false,beq_self_eq_true,BEq.rfl,reduceCtorEq,eq_self,ne_eq,Function.comp_def,beq_iff_eq]
  have ntm : ∀ (j : Nat) (cs : List V) (s : List Ob), Ix s ix a b us os → ∀ cls cc, Tb s tb ix u c cls cc → s[j]? = some (.cells cs) → j ≠ a ∧ j ≠ b ∧ j ≠ u ∧ j ≠ c := fun j cs s h1 cls cc h2 hj =>
    ⟨(fun h => by have := h1.us; rw [← h, hj] at this; cases this), (fun h => by have := h1.os; rw [← h, hj] at this; cases this), (fun h => by have := h2.cl; rw [← h, hj] at this; cases this), (fun h => by have := h2.cc; rw [← h, hj] at this; cases this)⟩
  refine aloop_forF (fun k f s => ∃ (i : Nat) (M : List U) (gs cls : List (Int × V)) (cc : List ((Int × Int) × V)), k + i = m ∧ i ≤ C.length ∧ Ix s ix a b us os ∧ Tb s tb ix u c cls cc ∧ Cr L M gs cls cc ∧ s[st.length]? = some (.cells [.sc (.bool false)]) ∧ f 1 = cv ∧ f 4 = .ref st.length 0 ∧ f 5 = .ref ix 0 ∧ f 6 = .ref tb 0 ∧ f 8 = .sc (.int .i64 i))
    ⟨0, [], [], [], [], by omega, by omega, hi, hT, Cr.nil L, c2, by simp only [evf, ne_eq, Nat.reduceEqDiff, Nat.reduceLT, not_false_eq_true], by simp only [evf, ne_eq, Nat.reduceEqDiff, Nat.reduceLT, not_false_eq_true], by simp only [evf, ne_eq, Nat.reduceEqDiff, Nat.reduceLT, not_false_eq_true], by simp only [evf, ne_eq, Nat.reduceEqDiff, Nat.reduceLT, not_false_eq_true], by simp only [evf, ne_eq, Nat.reduceEqDiff, Nat.reduceLT, not_false_eq_true]; rfl⟩ ?_
  rintro I' hI' k f s ⟨i, M, gs, cls, cc, hk, hil0, hi, hT, hC, ct, f1, f4, f5, f6, f8⟩
  refine ⟨k - 1, by omega, ?_⟩
  have al := alen_rd (hc s) Try.underlying76
  have e3 : IntKind.i64.wrap ((i : Int) + 1) = ((i + 1 : Nat) : Int) := by rw [IntWalk.i64_in _ (by omega)]; rfl
  by_cases hil : i < C.length
  · have d : decide ((i : Int) < C.length) = true := decide_eq_true (by omega)
    obtain ⟨p1, p2⟩ := ix_flat (f := K4.v) (fun a => rfl) (hc s) Try.underlying76 sz82 ag82 (by omega) hil
    obtain ⟨p3, p4⟩ := k_id (hc s) hil
    obtain ⟨p5, p6⟩ := k_to (hc s) hil
    simp only [f1, f4, f5, f6, f8, al, d, p1, p3, p4, p5, p6, evf,↓evp,evq,evr,fxa0,fxa1,fxa2,fxa3,fxa4,fxu,fxn,fxl,↓fxp,lgc,absL,fitL,flatL,ares,ares1,ofVal,unSc,aload,afill,splice,abound,asI,elems,IntKind.bits,sortT,eqNil,closedL,allByte,patch,pendOK,numA,Value.cells,Value.oneCell',ibin,List.replicate,Option.elim,Nat.reduceAdd,Nat.reduceSub,Nat.reduceMul,Nat.reduceLT,Nat.reduceEqDiff,Nat.reduceLeDiff,Nat.reduceBEq,Int.reduceLE,Int.reduceLT,Int.reduceToNat,Int.reduceBNe,Int.reduceBEq,Int.reduceNeg,Int.reduceEq,Int.reduceNe,Nat.reduceBNe,Int.reduceAdd,Int.reduceSub,Int.reduceMul,Int.reducePow,Nat.reducePow,Int.reduceGT,Int.reduceGE,if_true,if_false,ite_true,ite_false,beq_self_eq_true,BEq.rfl,reduceCtorEq,eq_self,ne_eq,Function.comp_def,beq_iff_eq]
    refine do_Claim (n := n + 3) rel hi hT hC huc hm (fun _ s3 g3 => ?_) fun _ p gs' cls' cc' s3 hp hpe hT3 hC3 k3 => ?_
    · simp only [f1, f4, f5, f6, f8, e3, g3, evf,↓evp,evq,evr,fxa0,fxa1,fxa2,fxa3,fxa4,fxu,fxn,fxl,↓fxp,lgc,absL,fitL,flatL,ares,ares1,ofVal,unSc,aload,afill,splice,abound,asI,elems,IntKind.bits,sortT,eqNil,closedL,allByte,patch,pendOK,numA,Value.cells,Value.oneCell',ibin,List.replicate,Option.elim,Nat.reduceAdd,Nat.reduceSub,Nat.reduceMul,Nat.reduceLT,Nat.reduceEqDiff,Nat.reduceLeDiff,Nat.reduceBEq,Int.reduceLE,Int.reduceLT,Int.reduceToNat,Int.reduceBNe,Int.reduceBEq,Int.reduceNeg,Int.reduceEq,Int.reduceNe,Nat.reduceBNe,Int.reduceAdd,Int.reduceSub,Int.reduceMul,Int.reducePow,Nat.reducePow,Int.reduceGT,Int.reduceGE,if_true,if_false,ite_true,ite_false,beq_self_eq_true,BEq.rfl,reduceCtorEq,eq_self,ne_eq,Function.comp_def,beq_iff_eq]
      exact hI' _ _ _ ⟨i + 1, M, gs, cls, cc, by omega, hil, hi.grw g3, hT.grw g3, hC, g3 _ _ ct, by simp only [f1, evf, ne_eq, Nat.reduceEqDiff, Nat.reduceLT, not_false_eq_true], by simp only [f4, evf, ne_eq, Nat.reduceEqDiff, Nat.reduceLT, not_false_eq_true], by simp only [f5, evf, ne_eq, Nat.reduceEqDiff, Nat.reduceLT, not_false_eq_true], by simp only [f6, evf, ne_eq, Nat.reduceEqDiff, Nat.reduceLT, not_false_eq_true], by simp only [evf, ne_eq, Nat.reduceEqDiff, Nat.reduceLT, not_false_eq_true]⟩
    · have ci := ntm ix _ _ hi _ _ hT hi.ix
      have cz := ntm st.length _ _ hi _ _ hT ct
      have hi3 : Ix s3 ix a b us os := ⟨k3 _ _ ci.2.2.1 ci.2.2.2 hi.ix, k3 _ _ hd.1 hd.2.1 hi.us, k3 _ _ hd.2.2.1 hd.2.2.2 hi.os⟩
      simp only [f1, f4, f5, f6, f8, e3, evf,↓evp,evq,evr,fxa0,fxa1,fxa2,fxa3,fxa4,fxu,fxn,fxl,↓fxp,lgc,absL,fitL,flatL,ares,ares1,ofVal,unSc,aload,afill,splice,abound,asI,elems,IntKind.bits,sortT,eqNil,closedL,allByte,patch,pendOK,numA,Value.cells,Value.oneCell',ibin,List.replicate,Option.elim,Nat.reduceAdd,Nat.reduceSub,Nat.reduceMul,Nat.reduceLT,Nat.reduceEqDiff,Nat.reduceLeDiff,Nat.reduceBEq,Int.reduceLE,Int.reduceLT,Int.reduceToNat,Int.reduceBNe,Int.reduceBEq,Int.reduceNeg,Int.reduceEq,Int.reduceNe,Nat.reduceBNe,Int.reduceAdd,Int.reduceSub,Int.reduceMul,Int.reducePow,Nat.reducePow,Int.reduceGT,Int.reduceGE,if_true,if_false,ite_true,ite_false,beq_self_eq_true,BEq.rfl,reduceCtorEq,eq_self,ne_eq,Function.comp_def,beq_iff_eq]
      exact hI' _ _ _ ⟨i + 1, _, gs', cls', cc', by omega, hil, hi3, hT3, hC3, k3 _ _ cz.2.2.1 cz.2.2.2 ct, by simp only [f1, evf, ne_eq, Nat.reduceEqDiff, Nat.reduceLT, not_false_eq_true], by simp only [f4, evf, ne_eq, Nat.reduceEqDiff, Nat.reduceLT, not_false_eq_true], by simp only [f5, evf, ne_eq, Nat.reduceEqDiff, Nat.reduceLT, not_false_eq_true], by simp only [f6, evf, ne_eq, Nat.reduceEqDiff, Nat.reduceLT, not_false_eq_true], by simp only [evf, ne_eq, Nat.reduceEqDiff, Nat.reduceLT, not_false_eq_true]⟩
  · have d : decide ((i : Int) < C.length) = false := decide_eq_false (by omega)
    simp only [f1, f4, f5, f6, f8, al, d, evf,↓evp,evq,evr,fxa0,fxa1,fxa2,fxa3,fxa4,fxu,fxn,fxl,↓fxp,lgc,absL,fitL,flatL,ares,ares1,ofVal,unSc,aload,afill,splice,abound,asI,elems,IntKind.bits,sortT,eqNil,closedL,allByte,patch,pendOK,numA,Value.cells,Value.oneCell',ibin,List.replicate,Option.elim,Nat.reduceAdd,Nat.reduceSub,Nat.reduceMul,Nat.reduceLT,Nat.reduceEqDiff,Nat.reduceLeDiff,Nat.reduceBEq,Int.reduceLE,Int.reduceLT,Int.reduceToNat,Int.reduceBNe,Int.reduceBEq,Int.reduceNeg,Int.reduceEq,Int.reduceNe,Nat.reduceBNe,Int.reduceAdd,Int.reduceSub,Int.reduceMul,Int.reducePow,Nat.reducePow,Int.reduceGT,Int.reduceGE,if_true,if_false,ite_true,ite_false,beq_self_eq_true,BEq.rfl,reduceCtorEq,eq_self,ne_eq,Function.comp_def,beq_iff_eq]
    refine t_ApplyC (n := n + 1) rel gd hi hab hT huc hd hC hm fun us2 os2 s3 hi3 rel3 gd3 hT3 k3 => ?_
    have cz := ntm st.length _ _ hi _ _ hT ct
    have c3 := k3 _ _ cz.1 cz.2.1 cz.2.2.1 cz.2.2.2 ct
    simp only [f1, f4, f5, f6, f8, evf,↓evp,evq,evr,fxa0,fxa1,fxa2,fxa3,fxa4,fxu,fxn,fxl,↓fxp,lgc,absL,fitL,flatL,ares,ares1,ofVal,unSc,aload,afill,splice,abound,asI,elems,IntKind.bits,sortT,eqNil,closedL,allByte,patch,pendOK,numA,Value.cells,Value.oneCell',ibin,List.replicate,Option.elim,Nat.reduceAdd,Nat.reduceSub,Nat.reduceMul,Nat.reduceLT,Nat.reduceEqDiff,Nat.reduceLeDiff,Nat.reduceBEq,Int.reduceLE,Int.reduceLT,Int.reduceToNat,Int.reduceBNe,Int.reduceBEq,Int.reduceNeg,Int.reduceEq,Int.reduceNe,Nat.reduceBNe,Int.reduceAdd,Int.reduceSub,Int.reduceMul,Int.reducePow,Nat.reducePow,Int.reduceGT,Int.reduceGE,if_true,if_false,ite_true,ite_false,beq_self_eq_true,BEq.rfl,reduceCtorEq,eq_self,ne_eq,Function.comp_def,beq_iff_eq]
    obtain ⟨sq, hsq⟩ : ∃ sq, sq = s3 ++ [Ob.row 34 [] 0 0 false, Ob.cells [.sl s3.length 0 0 false 0]] := ⟨_, rfl⟩
    have gq : Grw s3 sq := by rw [hsq]; exact .push _ _
    have yq : sq[s3.length + 1]? = some (.cells [.sl s3.length 0 0 false 0]) := by rw [hsq]; exact get_new _ _ 1
    have rq : sq[s3.length]? = some (.row 34 [] 0 0 false) := by rw [hsq]; exact get_new _ _ 0
    have lq : sq.length = s3.length + 2 := by rw [hsq]; simp
    have cq := gq _ _ c3
    have hiq := hi3.grw gq
    have hTq := hT3.grw gq
    have lst3 : st.length < s3.length := (List.getElem?_eq_some_iff.1 c3).1
    rw [← hsq]
    refine o_All (n := n + 10) rfl rfl ?_
    obtain ⟨sa, hsa⟩ : ∃ sa, sa = sq ++ [Ob.cells [.ref ix 0]] := ⟨_, rfl⟩
    have ga : Grw sq sa := by rw [hsa]; exact .push _ _
    have va : sa[sq.length]? = some (.cells [.ref ix 0]) := by rw [hsa]; exact get_new0 _ _
    have lsa : sa.length = sq.length + 1 := by rw [hsa]; simp
    rw [← hsa]
    simp only [f1, f4, f5, f6, f8, evf,↓evp,evq,evr,fxa0,fxa1,fxa2,fxa3,fxa4,fxu,fxn,fxl,↓fxp,lgc,absL,fitL,flatL,ares,ares1,ofVal,unSc,aload,afill,splice,abound,asI,elems,IntKind.bits,sortT,eqNil,closedL,allByte,patch,pendOK,numA,Value.cells,Value.oneCell',ibin,List.replicate,Option.elim,Nat.reduceAdd,Nat.reduceSub,Nat.reduceMul,Nat.reduceLT,Nat.reduceEqDiff,Nat.reduceLeDiff,Nat.reduceBEq,Int.reduceLE,Int.reduceLT,Int.reduceToNat,Int.reduceBNe,Int.reduceBEq,Int.reduceNeg,Int.reduceEq,Int.reduceNe,Nat.reduceBNe,Int.reduceAdd,Int.reduceSub,Int.reduceMul,Int.reducePow,Nat.reducePow,Int.reduceGT,Int.reduceGE,if_true,if_false,ite_true,ite_false,beq_self_eq_true,BEq.rfl,reduceCtorEq,eq_self,ne_eq,Function.comp_def,beq_iff_eq]
    generalize hZ : (sa ++ [_]) = Z
    have gZ : Grw sa Z := by rw [← hZ]; exact .push _ _
    have lZ : Z.length = sa.length + 1 := by rw [← hZ]; simp
    obtain ⟨F, ps, asg, body, hcc, q9, hl0⟩ : ∃ F ps asg body, frf (Try.f14.body.getD .skip) = some (ps, asg, body) ∧ F 9 = .ref (s3.length + 1) 0 ∧ Z[sa.length]? = some (.loop .ready none (pl 14) (ofF 74 F) ps.toList asg body) := by
      refine ⟨_, _, _, _, rfl, ?_, (by rw [← hZ]; exact get_new0 sa _)⟩
      simp only [evf, ne_eq, Nat.reduceEqDiff, Nat.reduceLT, not_false_eq_true]
    have gnZ := ga.trans gZ
    generalize hL2 : L.map (applyU M) = L2 at rel3 gd3
    have eL : (L2.map U.id).length = L2.length := List.length_map _
    have lix : ix < s3.length := (List.getElem?_eq_some_iff.1 hi3.ix).1
    have la : a < s3.length := (List.getElem?_eq_some_iff.1 hi3.us).1
    have lb : b < s3.length := (List.getElem?_eq_some_iff.1 hi3.os).1
    have ltb : tb < s3.length := (List.getElem?_eq_some_iff.1 hT3.at_).1
    have lu : u < s3.length := (List.getElem?_eq_some_iff.1 hT3.cl).1
    have lc : c < s3.length := (List.getElem?_eq_some_iff.1 hT3.cc).1
    refine o_Each (n := n + 7) (l := sa.length) (rb := sq.length) (ids := L2.map U.id) (J := fun _ => False)
      (I := fun r ro k s => ∃ yv', s[r]? = some ro ∧ Z.length ≤ r ∧ rowOf yv' ≠ some r ∧ s[s3.length + 1]? = some (.cells [yv']) ∧ Gl s 34 yv' (((L2.take k).map rOf).flatMap R5.v) k ∧ s[sa.length]? = some (.loop .ready none (pl 14) (ofF 74 F) ps.toList asg body) ∧ (∀ j, rowOf yv' = some j → j = s3.length ∨ Z.length ≤ j) ∧ (∀ j o, j < sa.length → j ≠ s3.length → j ≠ s3.length + 1 → sa[j]? = some o → s[j]? = some o) ∧ Z.length ≤ s.length)
      (hiq.grw gnZ) (gZ _ _ va) rel3.ni rel3.mem gd3.pw gd3.ir (by rw [eL]; exact gd3.len) (by omega) ?_ ?_ ?_ ?_ (fun _ h => h.elim)
    · rintro r ro k s ⟨yv', i1, i2, i3, i4, i5, i6, i7, i8, i9⟩
      exact ⟨i8 _ _ (by omega) (by omega) (by omega) va, ⟨i8 _ _ (by omega) (by omega) (by omega) (ga _ _ hiq.ix), i8 _ _ (by omega) (by omega) (by omega) (ga _ _ hiq.us), i8 _ _ (by omega) (by omega) (by omega) (ga _ _ hiq.os)⟩, i1⟩
    · intro r ro s g hr1 hr2
      exact ⟨_, hr2, hr1, (fun h => by simp only [rowOf, Option.some.injEq] at h; omega), g _ _ (gnZ _ _ yq), .inr ⟨_, 0, rfl, g _ _ (gnZ _ _ rq), Nat.le_refl _⟩, g _ _ hl0, (fun j h => by simp only [rowOf, Option.some.injEq] at h; omega), (fun j o _ _ _ ho => g _ _ (gZ _ _ ho)), g.le⟩
    · rintro r ro i hil v s K' hv ⟨yv', i1, i2, i3, i4, i5, i6, i7, i8, i9⟩ hK1 _
      have hil' : i < L2.length := by rw [eL] at hil; exact hil
      simp only [List.getElem_map] at hv ⊢
      rw [rel3.at_id hil' hv]
      have e : ((L2.take i).map rOf).length = i := by simp; omega
      have e2 : (L2.take i).map rOf ++ [rOf L2[i]] = (L2.take (i + 1)).map rOf := by rw [← List.take_append_getElem (h := hil'), List.map_append]; rfl
      have hlen := gd3.len
      have hne := take_ne rel3.ids hil'
      refine rap_yl (n := n + 5) (yv := yv') (pre := (L2.take i).map rOf) (u := L2[i]) (t9 := s3.length + 1) (lid := sa.length) (F := F) (p := none) hcc q9 i4 (by rw [e]; exact i5) (by omega) (by omega) (fun q hq => ?_) i6 ?_
      · obtain ⟨p, hp, rfl⟩ := List.mem_map.1 hq
        exact rel3.apart (List.mem_of_mem_take hp) (List.getElem_mem hil') (hne p hp)
      intro yv2 s' k1 k2 k3 k4 k5 k6
      rw [e, e2] at k1
      have rs : r < s.length := (List.getElem?_eq_some_iff.1 i1).1
      refine hK1 _ ⟨yv2, k4 _ _ (by omega) (by omega) i3 i1, i2, (fun h => ?_), k2, k1, k3, (fun j h => ?_), (fun j o hj hj2 hj3 ho => ?_), by omega⟩
      · rcases k6 _ h with h | h
        · exact i3 h
        · omega
      · rcases k6 _ h with h | h
        · exact i7 _ h
        · omega
      · exact k4 _ _ (by omega) (by omega) (fun h => by have := i7 _ h; omega) (i8 _ _ hj hj2 hj3 ho)
    · rintro r ro s ⟨yv', i1, i2, i3, i4, i5, i6, i7, i8, i9⟩
      refine rfEnd_normal i6 (by decide) ?_
      generalize hsz : s.set sa.length _ = sz
      have k8 : ∀ j o, j < sa.length → j ≠ s3.length → j ≠ s3.length + 1 → sa[j]? = some o → sz[j]? = some o := fun j o h1 h2 h3 ho => by
        rw [← hsz, List.getElem?_set_ne (by omega)]; exact i8 _ _ h1 h2 h3 ho
      have hTz : Tb sz tb ix u c [] [] := ⟨k8 _ _ (by omega) (by omega) (by omega) (ga _ _ hTq.at_), k8 _ _ (by omega) (by omega) (by omega) (ga _ _ hTq.cl), k8 _ _ (by omega) (by omega) (by omega) (ga _ _ hTq.cc)⟩
      have cz := k8 _ _ (by omega) (by omega) (by omega) (ga _ _ cq)
      simp only [f1, f4, f5, f6, f8, evf,↓evp,evq,evr,fxa0,fxa1,fxa2,fxa3,fxa4,fxu,fxn,fxl,↓fxp,lgc,absL,fitL,flatL,ares,ares1,ofVal,unSc,aload,afill,splice,abound,asI,elems,IntKind.bits,sortT,eqNil,closedL,allByte,patch,pendOK,numA,Value.cells,Value.oneCell',ibin,List.replicate,Option.elim,Nat.reduceAdd,Nat.reduceSub,Nat.reduceMul,Nat.reduceLT,Nat.reduceEqDiff,Nat.reduceLeDiff,Nat.reduceBEq,Int.reduceLE,Int.reduceLT,Int.reduceToNat,Int.reduceBNe,Int.reduceBEq,Int.reduceNeg,Int.reduceEq,Int.reduceNe,Nat.reduceBNe,Int.reduceAdd,Int.reduceSub,Int.reduceMul,Int.reducePow,Nat.reducePow,Int.reduceGT,Int.reduceGE,if_true,if_false,ite_true,ite_false,beq_self_eq_true,BEq.rfl,reduceCtorEq,eq_self,ne_eq,Function.comp_def,beq_iff_eq]
      refine t_Len (n := n + 9) hTz ?_
      have e0 : (((([] : List (Int × V)).length : Nat) : Int) == 0) = true := rfl
      simp only [f1, f4, f5, f6, f8, e0, evf,↓evp,evq,evr,fxa0,fxa1,fxa2,fxa3,fxa4,fxu,fxn,fxl,↓fxp,lgc,absL,fitL,flatL,ares,ares1,ofVal,unSc,aload,afill,splice,abound,asI,elems,IntKind.bits,sortT,eqNil,closedL,allByte,patch,pendOK,numA,Value.cells,Value.oneCell',ibin,List.replicate,Option.elim,Nat.reduceAdd,Nat.reduceSub,Nat.reduceMul,Nat.reduceLT,Nat.reduceEqDiff,Nat.reduceLeDiff,Nat.reduceBEq,Int.reduceLE,Int.reduceLT,Int.reduceToNat,Int.reduceBNe,Int.reduceBEq,Int.reduceNeg,Int.reduceEq,Int.reduceNe,Nat.reduceBNe,Int.reduceAdd,Int.reduceSub,Int.reduceMul,Int.reducePow,Nat.reducePow,Int.reduceGT,Int.reduceGE,if_true,if_false,ite_true,ite_false,beq_self_eq_true,BEq.rfl,reduceCtorEq,eq_self,ne_eq,Function.comp_def,beq_iff_eq]
      refine awake22 (n := n + 2) (by omega) fun sy gy => ?_
      have cy := gy _ _ cz
      have by_ : ∀ o, (sy.set st.length o)[st.length]? = some o := fun o => get_set cy o
      simp only [f1, f4, f5, f6, f8, cy, by_, evf,↓evp,evq,evr,fxa0,fxa1,fxa2,fxa3,fxa4,fxu,fxn,fxl,↓fxp,lgc,absL,fitL,flatL,ares,ares1,ofVal,unSc,aload,afill,splice,abound,asI,elems,IntKind.bits,sortT,eqNil,closedL,allByte,patch,pendOK,numA,Value.cells,Value.oneCell',ibin,List.replicate,Option.elim,Nat.reduceAdd,Nat.reduceSub,Nat.reduceMul,Nat.reduceLT,Nat.reduceEqDiff,Nat.reduceLeDiff,Nat.reduceBEq,Int.reduceLE,Int.reduceLT,Int.reduceToNat,Int.reduceBNe,Int.reduceBEq,Int.reduceNeg,Int.reduceEq,Int.reduceNe,Nat.reduceBNe,Int.reduceAdd,Int.reduceSub,Int.reduceMul,Int.reducePow,Nat.reducePow,Int.reduceGT,Int.reduceGE,if_true,if_false,ite_true,ite_false,beq_self_eq_true,BEq.rfl,reduceCtorEq,eq_self,ne_eq,Function.comp_def,beq_iff_eq]
      exact hK _
end
end Go.Proofs.Ytgmccnnjpejigaa
