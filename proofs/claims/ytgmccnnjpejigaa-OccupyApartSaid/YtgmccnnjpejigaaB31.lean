/- Chapter 5: no cell ever has two units. -/
import Derived.Test.YtgmccnnjpejigaaB30
set_option linter.unusedVariables false
set_option linter.unusedSimpArgs false
set_option maxRecDepth 10000
namespace Go.Proofs.Ytgmccnnjpejigaa
open Go Go.M Go.RowKit
attribute [local congr] acallF_cong aloop_cong bcase_cong resK_cong valK_cong wantK_cong callK_cong xputK_cong qputK_cong resM_cong rfK_cong
attribute [local irreducible] seqK blockK loopK nextK bcase resK valK wantK funK putK dputK xputK qputK callK aops aop acode adraw aloop acallF acall invK resM rfK rfEnd rdEnd rdMid around
section
variable {n m : Nat} {st s : List Ob} {K : V → List Ob → Prop} {yv : V} {pre : List U} {u : U} {iy : Nat}
theorem one_unit (k : Nat) (hk : k < pre.length) : ((pre.flatMap U.v).drop (k * 5)).take ((k + 1 - k) * 5) = [pre[k]].flatMap U.v := by
  rw [flatMap_drop (f := U.v) (s := 5) (fun _ => rfl), Nat.add_sub_cancel_left, flat_take, List.drop_eq_getElem_cons hk]
  rfl
set_option maxHeartbeats 4000000 in
/-- A round of 'OccupyApart'. -/
theorem apart_yl {ps : Array Tmp} {asg body : Code} (hc : frf (Try.f4.body.getD .skip) = some (ps, asg, body)) {F : Nat → V} {t4 lid : Nat} {p : Option Code} (q4 : F 4 = .ref t4 0)
    (h4 : s[t4]? = some (.cells [.ref iy 0])) (hy : s[iy]? = some (.cells [yv])) (gl : Gl s 48 yv (pre.flatMap U.v) pre.length) (hp : pre.length ≤ 256) (hm : 300 < m)
    (hmay : mayB u.x u.y u.w u.h = true) (hoth : ∀ q ∈ pre, othR u.id u.x u.y u.w u.h q = false)
    (hl : s[lid]? = some (.loop .ready p (pl 4) (ofF 118 F) ps.toList asg body))
    (hK : ∀ yv2 s', Gl s' 48 yv2 ((pre ++ [u]).flatMap U.v) (pre.length + 1) → s'[iy]? = some (.cells [yv2]) → s'[lid]? = some (.loop .ready none (pl 4) (ofF 118 F) ps.toList asg body) → (∀ j o, j ≠ iy → j ≠ lid → rowOf yv ≠ some j → s[j]? = some o → s'[j]? = some o) → s.length ≤ s'.length → (∀ j, rowOf yv2 = some j → rowOf yv = some j ∨ s.length ≤ j) → K (.sc (.bool true)) s') :
    acallF Try.prog pl (n + 7) m Try.prog.funcs.size [.yl lid, .sc (.int .i64 u.id), .agg (rc u.x u.y u.w u.h)] s K := by
  simp only [Try.f4, Option.getD_some, frf, Option.some.injEq, Prod.mk.injEq] at hc
  obtain ⟨rfl, rfl, rfl⟩ := hc
  refine acallF_yl hl rfl ?_
  rw [show (#[80, 81] : Array Tmp).toList = [80, 81] from rfl, aputs_two (by decide) (by decide)]
  simp only [rc, evf,↓evp,evq,evr,fxa0,fxa1,fxa2,fxa3,fxa4,fxu,fxn,fxl,↓fxp,lgc,absL,fitL,flatL,ares,ares1,ofVal,unSc,aload,afill,splice,abound,asI,elems,IntKind.bits,sortT,eqNil,closedL,allByte,patch,pendOK,numA,Value.cells,Value.oneCell',ibin,List.replicate,Option.elim,Nat.reduceAdd,Nat.reduceSub,Nat.reduceMul,Nat.reduceLT,Nat.reduceEqDiff,Nat.reduceLeDiff,Nat.reduceBEq,Int.reduceLE,Int.reduceLT,Int.reduceToNat,Int.reduceBNe,Int.reduceBEq,Int.reduceNeg,Int.reduceEq,Int.reduceNe,Nat.reduceBNe,Int.reduceAdd,Int.reduceSub,Int.reduceMul,Int.reducePow,Nat.reducePow,Int.reduceGT,Int.reduceGE,if_true,if_false,ite_true,ite_false,beq_self_eq_true,BEq.rfl,reduceCtorEq,eq_self,ne_eq,Function.comp_def,beq_iff_eq]
  have g0 := Grw.push s [.cells (rc u.x u.y u.w u.h)]
  have c6 : (s ++ [Ob.cells (rc u.x u.y u.w u.h)])[s.length]? = some (.cells (rc u.x u.y u.w u.h)) := get_new0 _ _
  simp only [rc] at g0 c6
  refine rdMid_ok (g0 _ _ hl) ?_
  generalize hs1 : (s ++ [Ob.cells _]) = s1 at g0 c6
  have l1 : s1.length = s.length + 1 := by rw [← hs1]; simp
  have nl : s.length ≠ lid := fun he => by subst he; rw [List.getElem?_eq_none (Nat.le_refl _)] at hl; cases hl
  have lt : lid < s1.length := (List.getElem?_eq_some_iff.1 (g0 _ _ hl)).1
  have nc : ∀ (j : Nat) (c : List V), s[j]? = some (.cells c) → j ≠ lid := fun j c hj he => by subst he; rw [hl] at hj; cases hj
  have nrl : rowOf yv ≠ some lid := fun he => by
    rcases gl with ⟨rfl, _, _⟩ | ⟨id, lo, rfl, h1, _⟩
    · cases he
    · simp only [rowOf, Option.some.injEq] at he
      subst he
      rw [hl] at h1; cases h1
  generalize hs2 : s1.set lid _ = s2
  have k : ∀ j o, j ≠ lid → s1[j]? = some o → s2[j]? = some o := fun j o hj ho => by rw [← hs2, List.getElem?_set_ne (Ne.symm hj)]; exact ho
  have d4 := k _ _ (nc _ _ h4) (g0 _ _ h4)
  have dy := k _ _ (nc _ _ hy) (g0 _ _ hy)
  have d6 := k _ _ nl c6
  have dl : ∀ o, s1.set lid o = s2 → s2[lid]? = some o := fun o ho => by rw [← ho]; exact List.getElem?_set_self lt
  have dl := dl _ hs2
  have gl2 : Gl s2 48 yv (pre.flatMap U.v) pre.length := gl.of fun j o hj ho => k _ _ (fun he => nrl (by rw [← he]; exact hj)) (g0 _ _ ho)
  have l2 : s2.length = s1.length := by rw [← hs2, List.length_set]
  have fl : (pre.flatMap U.v).length = pre.length * 5 := flatMap_len (f := U.v) (s := 5) (fun _ => rfl) _
  simp only [evf,↓evp,evq,evr,fxa0,fxa1,fxa2,fxa3,fxa4,fxu,fxn,fxl,↓fxp,lgc,absL,fitL,flatL,ares,ares1,ofVal,unSc,aload,afill,splice,abound,asI,elems,IntKind.bits,sortT,eqNil,closedL,allByte,patch,pendOK,numA,Value.cells,Value.oneCell',ibin,List.replicate,Option.elim,Nat.reduceAdd,Nat.reduceSub,Nat.reduceMul,Nat.reduceLT,Nat.reduceEqDiff,Nat.reduceLeDiff,Nat.reduceBEq,Int.reduceLE,Int.reduceLT,Int.reduceToNat,Int.reduceBNe,Int.reduceBEq,Int.reduceNeg,Int.reduceEq,Int.reduceNe,Nat.reduceBNe,Int.reduceAdd,Int.reduceSub,Int.reduceMul,Int.reducePow,Nat.reducePow,Int.reduceGT,Int.reduceGE,if_true,if_false,ite_true,ite_false,beq_self_eq_true,BEq.rfl,reduceCtorEq,eq_self,ne_eq,Function.comp_def,beq_iff_eq]
  obtain ⟨s0len, hs0⟩ : ∃ q, q = s.length := ⟨_, rfl⟩
  rw [← hs0] at d6
  refine aloop_forF (fun k f s => ∃ i : Nat, Grw s2 s ∧ k + i = m ∧ i ≤ pre.length ∧ f 4 = .ref t4 0 ∧ f 7 = .sc (.int .i64 u.id) ∧ f 8 = .ref s0len 0 ∧ f 9 = .sc (.int .i64 i)) ⟨0, fun _ _ h => h, by omega, by omega, by simp only [q4, evf, ne_eq, Nat.reduceEqDiff, Nat.reduceLT, not_false_eq_true], by simp only [evf, ne_eq, Nat.reduceEqDiff, Nat.reduceLT, not_false_eq_true], by simp only [hs0, evf, ne_eq, Nat.reduceEqDiff, Nat.reduceLT, not_false_eq_true], by simp only [evf, ne_eq, Nat.reduceEqDiff, Nat.reduceLT, not_false_eq_true]; rfl⟩ ?_
  rintro I' hI' kk f s3 ⟨i, gs, hk, hi, f4, f7, f8, f9⟩
  refine ⟨kk - 1, by omega, ?_⟩
  have e4 := gs _ _ d4
  have ey := gs _ _ dy
  have e6 := gs _ _ d6
  have gl3 := gl2.grw gs
  have cut3 := gl3.cut (P := Try.prog) sz48 fl
  have al := alen_rd cut3.1 Try.underlying27
  have gX := fun X => Grw.push s3 X
  have e4X := fun X => gX X _ _ e4
  have eyX := fun X => gX X _ _ ey
  have e6X := fun X => gX X _ _ e6
  by_cases hil : i < pre.length
  · have d : decide ((i : Int) < pre.length) = true := decide_eq_true (by omega)
    have e3 : IntKind.i64.wrap ((i : Int) + 1) = ((i + 1 : Nat) : Int) := by rw [IntWalk.i64_in _ (by omega)]; rfl
    obtain ⟨vs, ka, na⟩ := slice_mid cut3 Try.underlying27 sz48 (show i ≤ i + 1 by omega) (show i + 1 ≤ pre.length by omega)
    rw [one_unit i hil, show i + 1 - i = 1 by omega] at na
    have kaX := fun X => aslice_grw (gX X) ka
    have on : M.one vs = true ∧ cellsV vs = [vs] := by
      rcases na.2.1 with ⟨xs, n, nil, f, rfl⟩ | ⟨id, off, n, gg, rfl⟩ <;> exact ⟨rfl, rfl⟩
    have hov := hoth _ (List.getElem_mem hil)
    simp only [f4, f7, f8, f9, e4, ey, e6, al, d, e3, e4X, eyX, e6X, ka, kaX, on.1, on.2, get_new, get_new0, M.set_new, M.set_new0, evf,↓evp,evq,evr,fxa0,fxa1,fxa2,fxa3,fxa4,fxu,fxn,fxl,↓fxp,lgc,absL,fitL,flatL,ares,ares1,ofVal,unSc,aload,afill,splice,abound,asI,elems,IntKind.bits,sortT,eqNil,closedL,allByte,patch,pendOK,numA,Value.cells,Value.oneCell',ibin,List.replicate,Option.elim,Nat.reduceAdd,Nat.reduceSub,Nat.reduceMul,Nat.reduceLT,Nat.reduceEqDiff,Nat.reduceLeDiff,Nat.reduceBEq,Int.reduceLE,Int.reduceLT,Int.reduceToNat,Int.reduceBNe,Int.reduceBEq,Int.reduceNeg,Int.reduceEq,Int.reduceNe,Nat.reduceBNe,Int.reduceAdd,Int.reduceSub,Int.reduceMul,Int.reducePow,Nat.reducePow,Int.reduceGT,Int.reduceGE,if_true,if_false,ite_true,ite_false,beq_self_eq_true,BEq.rfl,reduceCtorEq,eq_self,ne_eq,Function.comp_def,beq_iff_eq]
    refine r_Free (n := n) (L := [pre[i]]) ⟨get_new0 _ _, na.grw (gX _)⟩ (by simp; omega) (by simp) fun s4 g4 => ?_
    have eT : (mayB u.x u.y u.w u.h && !([pre[i]].any (othR u.id u.x u.y u.w u.h))) = true := by simp only [hmay, List.any_cons, List.any_nil, hov, Bool.or_self, Bool.not_false, Bool.and_self]
    rw [eT]
    have gg := (gX _).trans g4
    have b4 : s4[s3.length]? = some (.cells [vs]) := g4 _ _ (get_new0 _ _)
    simp only [f4, f7, f8, f9, g4, b4, e3, evf,↓evp,evq,evr,fxa0,fxa1,fxa2,fxa3,fxa4,fxu,fxn,fxl,↓fxp,lgc,absL,fitL,flatL,ares,ares1,ofVal,unSc,aload,afill,splice,abound,asI,elems,IntKind.bits,sortT,eqNil,closedL,allByte,patch,pendOK,numA,Value.cells,Value.oneCell',ibin,List.replicate,Option.elim,Nat.reduceAdd,Nat.reduceSub,Nat.reduceMul,Nat.reduceLT,Nat.reduceEqDiff,Nat.reduceLeDiff,Nat.reduceBEq,Int.reduceLE,Int.reduceLT,Int.reduceToNat,Int.reduceBNe,Int.reduceBEq,Int.reduceNeg,Int.reduceEq,Int.reduceNe,Nat.reduceBNe,Int.reduceAdd,Int.reduceSub,Int.reduceMul,Int.reducePow,Nat.reducePow,Int.reduceGT,Int.reduceGE,if_true,if_false,ite_true,ite_false,beq_self_eq_true,BEq.rfl,reduceCtorEq,eq_self,ne_eq,Function.comp_def,beq_iff_eq]
    exact hI' _ _ _ ⟨i + 1, gs.trans gg, by omega, hil, by simp only [f4, evf, ne_eq, Nat.reduceEqDiff, Nat.reduceLT, not_false_eq_true], by simp only [f7, evf, ne_eq, Nat.reduceEqDiff, Nat.reduceLT, not_false_eq_true], by simp only [f8, evf, ne_eq, Nat.reduceEqDiff, Nat.reduceLT, not_false_eq_true], by simp only [evf, ne_eq, Nat.reduceEqDiff, Nat.reduceLT, not_false_eq_true]⟩
  · have d : decide ((i : Int) < pre.length) = false := decide_eq_false (by omega)
    obtain ⟨yv2, s5, ap, gl5, tr5, nw5⟩ := gl_app (P := Try.prog) (t := 27) (s := s3 ++ [.row 48 (U.v u) 1 0 false]) (x := .sl s3.length 0 1 false 1) (zs := U.v u) (k := 1) (gl3.grw (gX _)) Try.underlying27 sz48 by48 ze48 (by omega) rfl fl (by simp only [elems, get_new0, List.getElem?_cons_zero, sz48]; rfl) rfl rfl (by omega) (by omega)
    have niy : rowOf yv ≠ some iy := gl3.ncells ey
    have nt4 : rowOf yv ≠ some t4 := gl3.ncells e4
    have ey5 := tr5.2 _ _ niy (gX _ _ _ ey)
    have e45 := tr5.2 _ _ nt4 (gX _ _ _ e4)
    obtain ⟨o1, o2⟩ := gl5.one
    have dl3 := tr5.2 _ _ nrl (gX _ _ _ (gs _ _ dl))
    have nyl : rowOf yv ≠ some s3.length := fun h => by have := gl3.lt _ h; omega
    have lt3 : iy < s3.length := (List.getElem?_eq_some_iff.1 ey).1
    have b5 : ∀ o, (s5.set iy o)[s3.length]? = some (.row 48 (U.v u) 1 0 false) := fun o => by rw [List.getElem?_set_ne (by omega)]; exact tr5.2 _ _ nyl (get_new0 _ _)
    simp only [U.v, rc] at ap b5
    simp only [f4, f7, f8, f9, e4, ey, e6, al, d, e4X, eyX, e6X, ap, b5, ey5, e45, o1, o2, get_new, get_new0, M.set_new, M.set_new0, evf,↓evp,evq,evr,fxa0,fxa1,fxa2,fxa3,fxa4,fxu,fxn,fxl,↓fxp,lgc,absL,fitL,flatL,ares,ares1,ofVal,unSc,aload,afill,splice,abound,asI,elems,IntKind.bits,sortT,eqNil,closedL,allByte,patch,pendOK,numA,Value.cells,Value.oneCell',ibin,List.replicate,Option.elim,Nat.reduceAdd,Nat.reduceSub,Nat.reduceMul,Nat.reduceLT,Nat.reduceEqDiff,Nat.reduceLeDiff,Nat.reduceBEq,Int.reduceLE,Int.reduceLT,Int.reduceToNat,Int.reduceBNe,Int.reduceBEq,Int.reduceNeg,Int.reduceEq,Int.reduceNe,Nat.reduceBNe,Int.reduceAdd,Int.reduceSub,Int.reduceMul,Int.reducePow,Nat.reducePow,Int.reduceGT,Int.reduceGE,if_true,if_false,ite_true,ite_false,beq_self_eq_true,BEq.rfl,reduceCtorEq,eq_self,ne_eq,Function.comp_def,beq_iff_eq]
    have nil' := nc _ _ hy
    have ly : iy < s5.length := (List.getElem?_eq_some_iff.1 ey5).1
    have ll : lid < s5.length := (List.getElem?_eq_some_iff.1 dl3).1
    have ls2 : s.length < s2.length := by omega
    have ls3 := gs.le
    have new5 : ∀ j, rowOf yv2 = some j → rowOf yv = some j ∨ s.length ≤ j := fun j hj => by
      rcases nw5 j hj with h | h
      · exact .inl h
      · exact .inr (by simp only [List.length_append] at h; omega)
    have lid2 : lid < s.length := (List.getElem?_eq_some_iff.1 hl).1
    have nby : ∀ j, rowOf yv2 = some j → j ≠ iy ∧ j ≠ lid := fun j hj => by
      rcases nw5 j hj with h | h
      · exact ⟨fun he => niy (by rw [← he]; exact h), fun he => nrl (by rw [← he]; exact h)⟩
      · simp only [List.length_append, List.length_cons, List.length_nil] at h
        have a1 : iy < s3.length := (List.getElem?_eq_some_iff.1 ey).1
        omega
    refine rdEnd_normal (by rw [List.getElem?_set_ne nil']; exact dl3) ?_
    refine hK yv2 _ ?_ ?_ ?_ ?_ ?_ new5
    · have e : (pre ++ [u]).flatMap U.v = pre.flatMap U.v ++ U.v u := by simp [List.flatMap_append]
      rw [e]
      refine gl5.of fun j o hj ho => ?_
      obtain ⟨j1, j2⟩ := nby j hj
      rw [List.getElem?_set_ne (Ne.symm j2), List.getElem?_set_ne (Ne.symm j1)]
      exact ho
    · rw [List.getElem?_set_ne (Ne.symm nil'), List.getElem?_set_self ly]
    · rw [List.getElem?_set_self (by rw [List.length_set]; exact ll)]
    · intro j o j1 j2 j3 ho
      rw [List.getElem?_set_ne (Ne.symm j2), List.getElem?_set_ne (Ne.symm j1)]
      exact tr5.2 _ _ j3 (gX _ _ _ (gs _ _ (k _ _ j2 (g0 _ _ ho))))
    · rw [List.length_set, List.length_set]
      have := tr5.1
      simp only [List.length_append] at this
      omega
end
end Go.Proofs.Ytgmccnnjpejigaa
