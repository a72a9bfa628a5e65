/- Chapter 4: a building is placed: whole. -/
import Derived.Test.YtndjhaeeldegfaaG7
import Derived.Test.YtndjhaeeldegfaaGP
set_option linter.unusedVariables false
set_option linter.unusedSimpArgs false
set_option maxRecDepth 10000
namespace Go.Proofs.Ytndjhaeeldegfaa
open Go Go.M Go.RowKit
attribute [local congr] acallF_cong aloop_cong bcase_cong resK_cong valK_cong wantK_cong callK_cong xputK_cong qputK_cong resM_cong rfK_cong
attribute [local irreducible] seqK blockK loopK nextK bcase resK valK wantK funK putK dputK xputK qputK callK aops aop acode adraw aloop acallF acall invK resM rfK rfEnd rdEnd rdMid around
structure R4 where
  x : Int
  y : Int
  w : Int
  h : Int
def R4.v (r : R4) : List V := rc r.x r.y r.w r.h
/-- A world, with all that it holds. -/
structure Wg (s : List Ob) (wd a b : Nat) (WW HH : Int) (tv dv : V) (ts : List V) (us : List (Int × V)) (os : List ((Int × Int) × V)) (ds : List R4) : Prop where
  wd : Wd s wd a b WW HH tv dv us os
  tl : Gl s 5 tv ts ts.length
  dl : Gl s 78 dv (ds.flatMap R4.v) ds.length
  ne : ∀ j, rowOf tv = some j → rowOf dv ≠ some j
  ab : a ≠ b
  rcs : ∀ i v, getI i us = some v → ∃ x y w h, v = .agg (rc x y w h)
/-- Nothing has turned but a world. -/
def PK (wd a b : Nat) (dv : V) (s s' : List Ob) : Prop := s.length ≤ s'.length ∧ ∀ j o, j ≠ wd → j ≠ a → j ≠ b → rowOf dv ≠ some j → s[j]? = some o → s'[j]? = some o
theorem Gl.ncells {s : List Ob} {e : TypeId} {v : V} {xs cs : List V} {n j : Nat} (h : Gl s e v xs n) (hj : s[j]? = some (.cells cs)) : rowOf v ≠ some j := by
  rcases h with ⟨rfl, rfl, rfl⟩ | ⟨id, lo, rfl, h1, h2⟩
  · intro h; cases h
  · intro h
    simp only [rowOf, Option.some.injEq] at h
    subst h
    rw [h1] at hj; cases hj
theorem Gl.nmap {s : List Ob} {e : TypeId} {v : V} {xs : List V} {es : List (Value × V)} {n j : Nat} (h : Gl s e v xs n) (hj : s[j]? = some (.map es)) : rowOf v ≠ some j := by
  rcases h with ⟨rfl, rfl, rfl⟩ | ⟨id, lo, rfl, h1, h2⟩
  · intro h; cases h
  · intro h
    simp only [rowOf, Option.some.injEq] at h
    subst h
    rw [h1] at hj; cases hj
section
variable {n m : Nat} {st s : List Ob} {K : V → List Ob → Prop} {wd a b : Nat} {WW HH : Int} {tv dv : V} {ts : List V} {us : List (Int × V)} {os : List ((Int × Int) × V)} {ds : List R4} {x y w h id : Int}
theorem Wg.grw (h : Wg st wd a b WW HH tv dv ts us os ds) (k : Grw st s) : Wg s wd a b WW HH tv dv ts us os ds := ⟨h.wd.grw k, h.tl.grw k, h.dl.grw k, h.ne, h.ab, h.rcs⟩
theorem closed_rs : ∀ L : List R4, closedL (L.flatMap R4.v) = true
  | [] => rfl
  | u :: L => by
    have := closed_rs L
    simp only [List.flatMap_cons, R4.v, rc, List.cons_append, List.nil_append, closedL, closed, Bool.true_and]
    exact this
theorem putI_rc {us : List (Int × V)} {id : Int} {v : V} (hv : ∃ x y w h, v = .agg (rc x y w h)) (hr : ∀ i v, getI i us = some v → ∃ x y w h, v = .agg (rc x y w h)) : ∀ i v', getI i (putI id v us) = some v' → ∃ x y w h, v' = .agg (rc x y w h) := by
  intro i v' h
  rw [getI_putI] at h
  split at h
  · cases h; exact hv
  · exact hr _ _ h
set_option maxHeartbeats 4000000000000 in
theorem w_Place1 (hi : Wg st wd a b WW HH tv dv ts us os ds) (hul : us.length < 1000000) (hdl : ds.length < 4000000000000) (hm : 8 < m)
    (hK1 : mayE us os WW HH id x y w h ≠ 0 → ∀ s, Grw st s → K (.sc (.int .i64 (mayE us os WW HH id x y w h))) s)
    (hK0 : mayE us os WW HH id x y w h = 0 → ∀ dv' s, Wg s wd a b WW HH tv dv' ts (putI id (.agg (rc x y w h)) us) (fillC (.sc (.int .i64 id)) x y w.toNat os (h.toNat * w.toNat)) (ds ++ [⟨x, y, w, h⟩]) → PK wd a b dv st s → (∀ j, rowOf dv' = some j → rowOf dv = some j ∨ st.length ≤ j) → K (.sc (.int .i64 0)) s) :
    acallF Try.prog pl (n + 8) m 42 [.ref wd 0, .agg (bd id x y w h)] st K := by
  refine acallF_inF Try.func42 rfl rfl Try.ntmps42 (by simp) ?_
  obtain ⟨S, hS⟩ : ∃ S, S = st ++ [Ob.cells [V.ref wd 0], Ob.cells (bd id x y w h)] := ⟨_, rfl⟩
  have g0 : Grw st S := by rw [hS]; exact .push _ _
  have c0 : S[st.length]? = some (.cells [V.ref wd 0]) := by rw [hS]; exact get_new _ _ 0
  have c1 : S[st.length + 1]? = some (.cells (bd id x y w h)) := by rw [hS]; exact get_new _ _ 1
  have lS : S.length = st.length + 2 := by rw [hS]; simp
  simp only [bd, rc] at hS
  simp only [bd, rc, evf,↓evp,evq,evr,fxa0,fxa1,fxa2,fxa3,fxa4,fxu,fxn,fxl,↓fxp,lgc,absL,fitL,flatL,ares,ares1,ofVal,unSc,aload,afill,splice,abound,asI,elems,IntKind.bits,sortT,eqNil,closedL,allByte,patch,pendOK,numA,Value.cells,Value.oneCell',ibin,List.replicate,Option.elim,Nat.reduceAdd,Nat.reduceSub,Nat.reduceMul,Nat.reduceLT,Nat.reduceEqDiff,Nat.reduceLeDiff,Nat.reduceBEq,Int.reduceLE,Int.reduceLT,Int.reduceToNat,Int.reduceBNe,Int.reduceBEq,Int.reduceNeg,Int.reduceEq,Int.reduceNe,Nat.reduceBNe,Int.reduceAdd,Int.reduceSub,Int.reduceMul,Int.reducePow,Nat.reducePow,Int.reduceGT,Int.reduceGE,if_true,if_false,ite_true,ite_false,beq_self_eq_true,BEq.rfl,reduceCtorEq,eq_self,ne_eq,Function.comp_def,beq_iff_eq]
  rw [← hS]
  have hi0 := hi.grw g0
  refine w_May1 (n := n) hi0.wd hi0.rcs hul hm fun s1 j1 => ?_
  have c0_1 := j1 _ _ c0
  have c1_1 := j1 _ _ c1
  have hi1 := hi0.grw j1
  have g1 := g0.trans j1
  cases e0 : mayE us os WW HH id x y w h != 0
  case true =>
    have e0' : mayE us os WW HH id x y w h ≠ 0 := by simpa using e0
    simp only [e0, evf,↓evp,evq,evr,fxa0,fxa1,fxa2,fxa3,fxa4,fxu,fxn,fxl,↓fxp,lgc,absL,fitL,flatL,ares,ares1,ofVal,unSc,aload,afill,splice,abound,asI,elems,IntKind.bits,sortT,eqNil,closedL,allByte,patch,pendOK,numA,Value.cells,Value.oneCell',ibin,List.replicate,Option.elim,Nat.reduceAdd,Nat.reduceSub,Nat.reduceMul,Nat.reduceLT,Nat.reduceEqDiff,Nat.reduceLeDiff,Nat.reduceBEq,Int.reduceLE,Int.reduceLT,Int.reduceToNat,Int.reduceBNe,Int.reduceBEq,Int.reduceNeg,Int.reduceEq,Int.reduceNe,Nat.reduceBNe,Int.reduceAdd,Int.reduceSub,Int.reduceMul,Int.reducePow,Nat.reducePow,Int.reduceGT,Int.reduceGE,if_true,if_false,ite_true,ite_false,beq_self_eq_true,BEq.rfl,reduceCtorEq,eq_self,ne_eq,Function.comp_def,beq_iff_eq]
    exact hK1 e0' _ g1
  have e0' : mayE us os WW HH id x y w h = 0 := by simpa using e0
  have hK0 := hK0 e0'
  have hbm : bmayB id x y w h WW HH = true := by
    cases hb : bmayB id x y w h WW HH
    · unfold mayE at e0'; rw [if_pos hb] at e0'; cases e0'
    · rfl
  obtain ⟨em, ew, eh, _, _⟩ := bmay_may hbm
  obtain ⟨fx, fy, fw, fh, fx2, fy2⟩ := may_facts em
  have w1 := hi1.wd.w
  simp only [bd, rc] at c1_1
  have up := up_int (e := 78) (v := .agg (rc x y w h)) Try.underlying104 rfl hi1.wd.us id
  simp only [rc] at up
  have la : a < s1.length := (List.getElem?_eq_some_iff.1 hi1.wd.us).1
  have ha0 : a < st.length := (List.getElem?_eq_some_iff.1 hi.wd.us).1
  have hb0 : b < st.length := (List.getElem?_eq_some_iff.1 hi.wd.os).1
  have hw0 : wd < st.length := (List.getElem?_eq_some_iff.1 hi.wd.w).1
  have c1' : ∀ o, (s1.set a o)[st.length + 1]? = s1[st.length + 1]? := fun o => List.getElem?_set_ne (by omega)
  simp only [c0_1, c1_1, w1, up, c1', e0, evf,↓evp,evq,evr,fxa0,fxa1,fxa2,fxa3,fxa4,fxu,fxn,fxl,↓fxp,lgc,absL,fitL,flatL,ares,ares1,ofVal,unSc,aload,afill,splice,abound,asI,elems,IntKind.bits,sortT,eqNil,closedL,allByte,patch,pendOK,numA,Value.cells,Value.oneCell',ibin,List.replicate,Option.elim,Nat.reduceAdd,Nat.reduceSub,Nat.reduceMul,Nat.reduceLT,Nat.reduceEqDiff,Nat.reduceLeDiff,Nat.reduceBEq,Int.reduceLE,Int.reduceLT,Int.reduceToNat,Int.reduceBNe,Int.reduceBEq,Int.reduceNeg,Int.reduceEq,Int.reduceNe,Nat.reduceBNe,Int.reduceAdd,Int.reduceSub,Int.reduceMul,Int.reducePow,Nat.reducePow,Int.reduceGT,Int.reduceGE,if_true,if_false,ite_true,ite_false,beq_self_eq_true,BEq.rfl,reduceCtorEq,eq_self,ne_eq,Function.comp_def,beq_iff_eq]
  generalize hs4 : s1.set a _ = s4
  refine c_Cells ?_
  simp only [evf,↓evp,evq,evr,fxa0,fxa1,fxa2,fxa3,fxa4,fxu,fxn,fxl,↓fxp,lgc,absL,fitL,flatL,ares,ares1,ofVal,unSc,aload,afill,splice,abound,asI,elems,IntKind.bits,sortT,eqNil,closedL,allByte,patch,pendOK,numA,Value.cells,Value.oneCell',ibin,List.replicate,Option.elim,Nat.reduceAdd,Nat.reduceSub,Nat.reduceMul,Nat.reduceLT,Nat.reduceEqDiff,Nat.reduceLeDiff,Nat.reduceBEq,Int.reduceLE,Int.reduceLT,Int.reduceToNat,Int.reduceBNe,Int.reduceBEq,Int.reduceNeg,Int.reduceEq,Int.reduceNe,Nat.reduceBNe,Int.reduceAdd,Int.reduceSub,Int.reduceMul,Int.reducePow,Nat.reducePow,Int.reduceGT,Int.reduceGE,if_true,if_false,ite_true,ite_false,beq_self_eq_true,BEq.rfl,reduceCtorEq,eq_self,ne_eq,Function.comp_def,beq_iff_eq]
  obtain ⟨W, rfl⟩ := Int.eq_ofNat_of_zero_le (show 0 ≤ w by omega)
  obtain ⟨H, rfl⟩ := Int.eq_ofNat_of_zero_le (show 0 ≤ h by omega)
  simp only [Int.toNat_natCast] at hK0
  have k4 : ∀ j o, j ≠ a → s1[j]? = some o → s4[j]? = some o := fun j o hj ho => by rw [← hs4, List.getElem?_set_ne (Ne.symm hj)]; exact ho
  have u4 : s4[a]? = some (.map (esI (putI id (.agg (rc x y W H)) us))) := by rw [← hs4, List.getElem?_set_self la]; rfl
  have l4 : s4.length = s1.length := by rw [← hs4, List.length_set]
  have g5 := fun X => Grw.push s4 X
  have l1 : st.length + 2 ≤ s1.length := by have := (List.getElem?_eq_some_iff.1 c1_1).1; omega
  have nda : rowOf dv ≠ some a := hi.dl.nmap hi.wd.us
  have ndb : rowOf dv ≠ some b := hi.dl.nmap hi.wd.os
  have ndw : rowOf dv ≠ some wd := hi.dl.ncells hi.wd.w
  have nta : rowOf tv ≠ some a := hi.tl.nmap hi.wd.us
  have ntb : rowOf tv ≠ some b := hi.tl.nmap hi.wd.os
  have ntw : rowOf tv ≠ some wd := hi.tl.ncells hi.wd.w
  have hwa := hi.wd.nwa
  have hwb := hi.wd.nwb
  have hab := hi.ab
  refine place_loop (n := n + 3) rfl (t2 := st.length) (t3 := st.length + 1) (wd := wd) (a := a) (b := b) (WW := WW) (HH := HH) (tv := tv) (dv := dv) (os := os) (id := id) (by simp only [evf, ne_eq, Nat.reduceEqDiff, Nat.reduceLT, not_false_eq_true]) (by simp only [evf, ne_eq, Nat.reduceEqDiff, Nat.reduceLT, not_false_eq_true]) em (by omega) (by omega) (g5 _ _ _ (k4 _ _ (by omega) c0_1)) (g5 _ _ _ (k4 _ _ (by omega) c1_1)) (g5 _ _ _ (k4 _ _ hwa w1)) (g5 _ _ _ (k4 _ _ (Ne.symm hab) hi1.wd.os)) (get_new0 _ _) (get_new _ _ 1) ?_
  intro s5 k1 k2 k3
  refine rfEnd_normal k2 (by decide) ?_
  generalize hs6 : s5.set (s4.length + 1) _ = s6
  have k6 : ∀ j o, j ≠ a → j ≠ b → s1[j]? = some o → s6[j]? = some o := fun j o ja jb ho => by
    have lj : j < s1.length := (List.getElem?_eq_some_iff.1 ho).1
    rw [← hs6]
    exact frame_new (st := st) (k3 _ _ jb (by omega) (g5 _ _ _ (k4 _ _ ja ho))) (by omega) _
  have c0_6 := k6 _ _ (by omega) (by omega) c0_1
  have c1_6 := k6 _ _ (by omega) (by omega) c1_1
  have w6 := k6 _ _ hwa hwb w1
  have u6 : s6[a]? = some (.map (esI (putI id (.agg (rc x y W H)) us))) := by
    rw [← hs6]
    exact frame_new (st := st) (k3 _ _ hab (by omega) (g5 _ _ _ u4)) (by omega) _
  have o6 : s6[b]? = some (.map (esC (fillC (.sc (.int .i64 id)) x y W os (H * W)))) := by
    rw [← hs6]
    exact frame_new (st := st) k1 (by omega) _
  have t6 : Gl s6 5 tv ts ts.length := hi1.tl.of fun j o hj ho => k6 _ _ (fun h => nta (by rw [← h]; exact hj)) (fun h => ntb (by rw [← h]; exact hj)) ho
  have d6 : Gl s6 78 dv (ds.flatMap R4.v) ds.length := hi1.dl.of fun j o hj ho => k6 _ _ (fun h => nda (by rw [← h]; exact hj)) (fun h => ndb (by rw [← h]; exact hj)) ho
  have l6 : st.length + 2 ≤ s6.length := by have := (List.getElem?_eq_some_iff.1 c1_6).1; omega
  have g7 := fun X => Grw.push s6 X
  obtain ⟨dv', s7, ap, dl7, tr7, nw7⟩ := gl_app (P := Try.prog) (t := 83) (s := s6 ++ [.row 78 (rc x y W H) 1 0 false]) (x := .sl s6.length 0 1 false 1) (zs := rc x y W H) (k := 1) (d6.grw (g7 _)) Try.underlying83 sz78 by78 ze78 (by omega) rfl (flatMap_len (f := R4.v) (s := 4) (fun _ => rfl) _) (by simp only [elems, get_new0, List.getElem?_cons_zero, sz78]; rfl) rfl rfl (by omega) (by omega)
  have f7 : ∀ j o, rowOf dv ≠ some j → s6[j]? = some o → s7[j]? = some o := fun j o hj ho => tr7.2 _ _ hj (g7 _ _ _ ho)
  have ndc : ∀ j, st.length ≤ j → rowOf dv ≠ some j := fun j hj h => by
    rcases hi.dl with ⟨rfl, _, _⟩ | ⟨id, lo, rfl, h1, _⟩
    · cases h
    · simp only [rowOf, Option.some.injEq] at h
      have := (List.getElem?_eq_some_iff.1 h1).1
      omega
  have c0_7 := f7 _ _ (ndc _ (Nat.le_refl _)) c0_6
  have c1_7 := f7 _ _ (ndc _ (by omega)) c1_6
  have w7 := f7 _ _ ndw w6
  have c0X := fun X => g7 X _ _ c0_6
  have c1X := fun X => g7 X _ _ c1_6
  have w6X := fun X => g7 X _ _ w6
  obtain ⟨hone, hcell⟩ := dl7.one
  simp only [rc] at ap
  have r7 : s7[s6.length]? = some (.row 78 (rc x y W H) 1 0 false) := tr7.2 _ _ (ndc _ (by omega)) (get_new0 _ _)
  have r7' : ∀ o, (s7.set wd o)[s6.length]? = some (.row 78 (rc x y W H) 1 0 false) := fun o => by rw [List.getElem?_set_ne (by omega)]; exact r7
  simp only [rc] at r7'
  simp only [c0_6, c1_6, w6, c0X, c1X, w6X, c0_7, c1_7, w7, ap, hone, hcell, r7', evf,↓evp,evq,evr,fxa0,fxa1,fxa2,fxa3,fxa4,fxu,fxn,fxl,↓fxp,lgc,absL,fitL,flatL,ares,ares1,ofVal,unSc,aload,afill,splice,abound,asI,elems,IntKind.bits,sortT,eqNil,closedL,allByte,patch,pendOK,numA,Value.cells,Value.oneCell',ibin,List.replicate,Option.elim,Nat.reduceAdd,Nat.reduceSub,Nat.reduceMul,Nat.reduceLT,Nat.reduceEqDiff,Nat.reduceLeDiff,Nat.reduceBEq,Int.reduceLE,Int.reduceLT,Int.reduceToNat,Int.reduceBNe,Int.reduceBEq,Int.reduceNeg,Int.reduceEq,Int.reduceNe,Nat.reduceBNe,Int.reduceAdd,Int.reduceSub,Int.reduceMul,Int.reducePow,Nat.reducePow,Int.reduceGT,Int.reduceGE,if_true,if_false,ite_true,ite_false,beq_self_eq_true,BEq.rfl,reduceCtorEq,eq_self,ne_eq,Function.comp_def,beq_iff_eq]
  have lw : wd < s7.length := (List.getElem?_eq_some_iff.1 w7).1
  have k8 : ∀ (o' : Ob) j o, j ≠ wd → s7[j]? = some o → (s7.set wd o')[j]? = some o := fun o' j o hj ho => by rw [List.getElem?_set_ne (Ne.symm hj)]; exact ho
  have ntl : ∀ j, rowOf tv = some j → j < st.length := fun j h => by
    rcases hi.tl with ⟨rfl, _, _⟩ | ⟨id, lo, rfl, h1, _⟩
    · cases h
    · simp only [rowOf, Option.some.injEq] at h
      have := (List.getElem?_eq_some_iff.1 h1).1
      omega
  have l61 : (s6 ++ [Ob.row 78 (rc x y W H) 1 0 false]).length = s6.length + 1 := by simp
  refine hK0 dv' _ ⟨⟨?_, k8 _ _ _ (Ne.symm hwa) (f7 _ _ nda u6), k8 _ _ _ (Ne.symm hwb) (f7 _ _ ndb o6)⟩, t6.of fun j o hj ho => k8 _ _ _ (fun h => ntw (by rw [← h]; exact hj)) (f7 _ _ (hi.ne j hj) ho), ?_, fun j hj h => ?_, hab, putI_rc ⟨_, _, _, _, rfl⟩ hi.rcs⟩ ⟨?_, fun j o jw ja jb jd ho => k8 _ _ _ jw (f7 _ _ jd (k6 _ _ ja jb (g1 _ _ ho)))⟩ fun j h => ?_
  · exact List.getElem?_set_self lw
  · have e : (ds ++ [(⟨x, y, (W : Int), (H : Int)⟩ : R4)]).flatMap R4.v = ds.flatMap R4.v ++ rc x y W H := by simp [List.flatMap_append, R4.v]
    have e2 : (ds ++ [(⟨x, y, (W : Int), (H : Int)⟩ : R4)]).length = ds.length + 1 := by simp
    rw [e, e2]
    refine dl7.of fun j o hj ho => k8 _ _ _ (fun h => ?_) ho
    rcases nw7 j hj with h' | h'
    · exact ndw (by rw [← h]; exact h')
    · omega
  · rcases nw7 j h with h' | h'
    · exact hi.ne j hj h'
    · have := ntl j hj
      omega
  · rw [List.length_set]
    have := (List.getElem?_eq_some_iff.1 c1_7).1
    omega
  · rcases nw7 j h with h' | h'
    · exact .inl h'
    · exact .inr (by omega)
end
end Go.Proofs.Ytndjhaeeldegfaa
