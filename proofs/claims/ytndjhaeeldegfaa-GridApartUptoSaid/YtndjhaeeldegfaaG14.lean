/- Chapter 4: a building is taken away. -/
import Derived.Test.YtndjhaeeldegfaaG13
set_option linter.unusedVariables false
set_option linter.unusedSimpArgs false
set_option maxRecDepth 10000
namespace Go.Proofs.Ytndjhaeeldegfaa
open Go Go.M Go.RowKit
attribute [local congr] acallF_cong aloop_cong bcase_cong resK_cong valK_cong wantK_cong callK_cong xputK_cong qputK_cong resM_cong rfK_cong
attribute [local irreducible] seqK blockK loopK nextK bcase resK valK wantK funK putK dputK xputK qputK callK aops aop acode adraw aloop acallF acall invK resM rfK rfEnd rdEnd rdMid around
theorem map_erase {α β : Type} (f : α → β) : ∀ (l : List α) (q : Nat), (l.eraseIdx q).map f = (l.map f).eraseIdx q
  | [], q => by simp
  | a :: l, 0 => by simp
  | a :: l, q + 1 => by simp [map_erase f l q]
section
variable {st : List Ob} {a : Nat} {t e : TypeId}
theorem dl_int {l : List (Int × V)} (ht : Try.prog.underlying t = some (.map 3 e)) (h : st[a]? = some (.map (esI l))) (i : Int) :
    adelete Try.prog st t (.map a) (.sc (.int .i64 i)) = some (.tup [], st.set a (.map (esI (delI i l)))) := by
  unfold adelete
  simp only [ht, toVal, h, akey_int Try.underlying3, esI, afind_int Try.underlying3]
  unfold delI
  cases hq : atI i l with
  | none => simp only; rw [set_self (by simpa [esI] using h)]
  | some q => simp only [map_erase]
theorem dl_cell {l : List ((Int × Int) × V)} (ht : Try.prog.underlying t = some (.map 24 e)) (h : st[a]? = some (.map (esC l))) (x y : Int) :
    adelete Try.prog st t (.map a) (.agg [.sc (.int .i64 x), .sc (.int .i64 y)]) = some (.tup [], st.set a (.map (esC (delC (x, y) l)))) := by
  unfold adelete
  have hk : toVal (.agg [.sc (.int .i64 x), .sc (.int .i64 y)]) = some (kc (x, y)) := rfl
  simp only [ht, hk, h, akey_cell, esC, afind_cell]
  unfold delC
  cases hq : atC (x, y) l with
  | none => simp only; rw [set_self (by simpa [esC] using h)]
  | some q => simp only [map_erase]
end
/-- Cells emptied, row by row. -/
def cutC (x y : Int) (W : Nat) (os : List ((Int × Int) × V)) : Nat → List ((Int × Int) × V)
  | 0 => os
  | k + 1 => delC (x + (k % W : Nat), y + (k / W : Nat)) (cutC x y W os k)
section
variable {n m : Nat} {st s : List Ob} {K : V → List Ob → Prop} {wd a b : Nat} {WW HH : Int} {tv dv : V} {us : List (Int × V)} {os : List ((Int × Int) × V)} {x y id : Int} {W H : Nat}
set_option maxHeartbeats 2000000 in
/-- A round of 'Raze'. -/
theorem raze_yl {ps : Array Tmp} {asg body : Code} (hc : frf (Try.f43.body.getD .skip) = some (ps, asg, body)) {F : Nat → V} {t2 lid : Nat} {p : Option Code} (q2 : F 2 = .ref t2 0)
    (h2 : s[t2]? = some (.cells [.ref wd 0])) (hix : s[wd]? = some (.cells [.sc (.int .i64 WW), .sc (.int .i64 HH), tv, .map a, .map b, dv])) (hb : s[b]? = some (.map (esC os)))
    (hl : s[lid]? = some (.loop .ready p (pl 43) (ofF 49 F) ps.toList asg body))
    (hK : ∀ s', s'[b]? = some (.map (esC (delC (x, y) os))) → s'[lid]? = some (.loop .ready none (pl 43) (ofF 49 F) ps.toList asg body) → (∀ j o, j ≠ b → j ≠ lid → s[j]? = some o → s'[j]? = some o) → K (.sc (.bool true)) s') :
    acallF Try.prog pl (n + 1) m Try.prog.funcs.size [.yl lid, .agg (cl x y)] s K := by
  simp only [Try.f43, Option.getD_some, frf, Option.some.injEq, Prod.mk.injEq] at hc
  obtain ⟨rfl, rfl, rfl⟩ := hc
  have hbl : b ≠ lid := fun he => by subst he; rw [hb] at hl; cases hl
  refine acallF_yl hl rfl ?_
  rw [show (#[32] : Array Tmp).toList = [32] from rfl, aputs_one (by decide)]
  simp only [cl, evf,↓evp,evq,evr,fxa0,fxa1,fxa2,fxa3,fxa4,fxu,fxn,fxl,↓fxp,lgc,absL,fitL,flatL,ares,ares1,ofVal,unSc,aload,afill,splice,abound,asI,elems,IntKind.bits,sortT,eqNil,closedL,allByte,patch,pendOK,numA,Value.cells,Value.oneCell',ibin,List.replicate,Option.elim,Nat.reduceAdd,Nat.reduceSub,Nat.reduceMul,Nat.reduceLT,Nat.reduceEqDiff,Nat.reduceLeDiff,Nat.reduceBEq,Int.reduceLE,Int.reduceLT,Int.reduceToNat,Int.reduceBNe,Int.reduceBEq,Int.reduceNeg,Int.reduceEq,Int.reduceNe,Nat.reduceBNe,Int.reduceAdd,Int.reduceSub,Int.reduceMul,Int.reducePow,Nat.reducePow,Int.reduceGT,Int.reduceGE,if_true,if_false,ite_true,ite_false,beq_self_eq_true,BEq.rfl,reduceCtorEq,eq_self,ne_eq,Function.comp_def,beq_iff_eq]
  have g0 := Grw.push s [.cells [.sc (.int .i64 x), .sc (.int .i64 y)]]
  have c6 : (s ++ [Ob.cells [V.sc (.int .i64 x), V.sc (.int .i64 y)]])[s.length]? = some (.cells [V.sc (.int .i64 x), V.sc (.int .i64 y)]) := get_new0 _ _
  refine rdMid_ok (g0 _ _ hl) ?_
  generalize hs1 : (s ++ [Ob.cells [V.sc (.int .i64 x), V.sc (.int .i64 y)]]) = s1 at g0 c6
  have nl : s.length ≠ lid := fun he => by subst he; rw [List.getElem?_eq_none (Nat.le_refl _)] at hl; cases hl
  have lt : lid < s1.length := (List.getElem?_eq_some_iff.1 (g0 _ _ hl)).1
  have nc : ∀ (j : Nat) (c : List V), s[j]? = some (.cells c) → j ≠ lid := fun j c hj he => by subst he; rw [hl] at hj; cases hj
  generalize hs2 : s1.set lid _ = s2
  have k : ∀ j o, j ≠ lid → s1[j]? = some o → s2[j]? = some o := fun j o hj ho => by rw [← hs2, List.getElem?_set_ne (Ne.symm hj)]; exact ho
  have d2 := k _ _ (nc _ _ h2) (g0 _ _ h2)
  have di := k _ _ (nc _ _ hix) (g0 _ _ hix)
  have db := k _ _ hbl (g0 _ _ hb)
  have d6 := k _ _ nl c6
  have up := dl_cell (e := 3) Try.underlying105 db x y
  simp only [q2, d2, di, d6, up, evf,↓evp,evq,evr,fxa0,fxa1,fxa2,fxa3,fxa4,fxu,fxn,fxl,↓fxp,lgc,absL,fitL,flatL,ares,ares1,ofVal,unSc,aload,afill,splice,abound,asI,elems,IntKind.bits,sortT,eqNil,closedL,allByte,patch,pendOK,numA,Value.cells,Value.oneCell',ibin,List.replicate,Option.elim,Nat.reduceAdd,Nat.reduceSub,Nat.reduceMul,Nat.reduceLT,Nat.reduceEqDiff,Nat.reduceLeDiff,Nat.reduceBEq,Int.reduceLE,Int.reduceLT,Int.reduceToNat,Int.reduceBNe,Int.reduceBEq,Int.reduceNeg,Int.reduceEq,Int.reduceNe,Nat.reduceBNe,Int.reduceAdd,Int.reduceSub,Int.reduceMul,Int.reducePow,Nat.reducePow,Int.reduceGT,Int.reduceGE,if_true,if_false,ite_true,ite_false,beq_self_eq_true,BEq.rfl,reduceCtorEq,eq_self,ne_eq,Function.comp_def,beq_iff_eq]
  have dl : ∀ o, s1.set lid o = s2 → s2[lid]? = some o := fun o ho => by rw [← ho]; exact List.getElem?_set_self lt
  have dl := dl _ hs2
  have lb : b < s2.length := (List.getElem?_eq_some_iff.1 db).1
  refine rdEnd_normal (by rw [List.getElem?_set_ne hbl]; exact dl) ?_
  refine hK _ ?_ ?_ ?_
  · rw [List.getElem?_set_ne (Ne.symm hbl), List.getElem?_set_self lb]
  · rw [List.getElem?_set_self (by rw [List.length_set, ← hs2, List.length_set]; exact lt)]
  · intro j o hj hjl ho
    rw [List.getElem?_set_ne (Ne.symm hjl), List.getElem?_set_ne (Ne.symm hj)]
    exact k _ _ hjl (g0 _ _ ho)
set_option maxHeartbeats 1000000 in
theorem raze_loop {ps : Array Tmp} {asg body : Code} (hc : frf (Try.f43.body.getD .skip) = some (ps, asg, body)) {F : Nat → V} {t2 lid rb : Nat} (q2 : F 2 = .ref t2 0)
    (hmay : mayB x y W H = true) (hm : W < m) (hm2 : H < m)
    (h2 : s[t2]? = some (.cells [.ref wd 0])) (hix : s[wd]? = some (.cells [.sc (.int .i64 WW), .sc (.int .i64 HH), tv, .map a, .map b, dv])) (hb : s[b]? = some (.map (esC os))) (hr : s[rb]? = some (.cells (rc x y W H)))
    (hl : s[lid]? = some (.loop .ready none (pl 43) (ofF 49 F) ps.toList asg body))
    (hK : ∀ s', s'[b]? = some (.map (esC (cutC x y W os (H * W)))) → s'[lid]? = some (.loop .ready none (pl 43) (ofF 49 F) ps.toList asg body) → Kp b lid s s' → K (.tup []) s') :
    acallF Try.prog pl (n + 4) m 94 [.yl lid, .ref rb 0] s K := by
  have hbl : b ≠ lid := fun he => by subst he; rw [hb] at hl; cases hl
  have nb : ∀ (j : Nat) (c : List V), s[j]? = some (.cells c) → j ≠ b := fun j c hj he => by subst he; rw [hb] at hj; cases hj
  have nl : ∀ (j : Nat) (c : List V), s[j]? = some (.cells c) → j ≠ lid := fun j c hj he => by subst he; rw [hl] at hj; cases hj
  refine c_Cells1 (x := x) (y := y) (W := W) (H := H) (I := fun k s' => s'[b]? = some (.map (esC (cutC x y W os k))) ∧ s'[lid]? = some (.loop .ready none (pl 43) (ofF 49 F) ps.toList asg body) ∧ Kp b lid s s') (J := fun _ => False)
    hmay hm hm2 (fun k s' h => h.2.2 _ _ (nb _ _ hr) (nl _ _ hr) hr) (fun k s1 s2 h g => ⟨g _ _ h.1, g _ _ h.2.1, fun j o h1 h2 h3 => g _ _ (h.2.2 j o h1 h2 h3)⟩) ⟨hb, hl, fun j o _ _ h => h⟩ ?_ (fun s' h => hK s' h.1 h.2.1 h.2.2) (fun s' h => h.elim)
  intro j i s' K' hj hi ⟨e1, e2, e3⟩ hK1 hK2
  refine raze_yl (n := n + 2) hc q2 (e3 _ _ (nb _ _ h2) (nl _ _ h2) h2) (e3 _ _ (nb _ _ hix) (nl _ _ hix) hix) e1 e2 ?_
  intro s2 k1 k2 k3
  refine hK1 _ ⟨?_, k2, fun j o h1 h2 h3 => k3 j o h1 h2 (e3 j o h1 h2 h3)⟩
  rw [k1]
  simp only [cutC]
  rw [show (j * W + i) % W = i by rw [Nat.mul_comm, Nat.mul_add_mod, Nat.mod_eq_of_lt hi], show (j * W + i) / W = j by rw [Nat.mul_comm, Nat.mul_add_div (by omega), Nat.div_eq_of_lt hi, Nat.add_zero]]
end
section
variable {n m : Nat} {st s : List Ob} {K : V → List Ob → Prop} {wd a b : Nat} {WW HH : Int} {tv dv : V} {ts : List V} {us : List (Int × V)} {os : List ((Int × Int) × V)} {ds : List R4} {x y w h id : Int}
set_option maxHeartbeats 4000000000000 in
theorem w_Raze1 (hi : Wg st wd a b WW HH tv dv ts us os ds) (hnd : ndI us) (hmy : ∀ i v, getI i us = some v → ∃ x y w h, v = .agg (rc x y w h) ∧ mayB x y w h = true ∧ w ≤ 8 ∧ h ≤ 8) (hdl : ds.length < 4000000000000) (hm : 8 < m)
    (hK1 : getI id us = none → ∀ s, Grw st s → K (.tup [.agg (rc 0 0 0 0), .sc (.int .i64 4)]) s)
    (hK0 : ∀ x y w h, getI id us = some (.agg (rc x y w h)) → ∀ dv' s, Wg s wd a b WW HH tv dv' ts (delI id us) (cutC x y w.toNat os (h.toNat * w.toNat)) (ds ++ [⟨x, y, w, h⟩]) → PK wd a b dv st s → (∀ j, rowOf dv' = some j → rowOf dv = some j ∨ st.length ≤ j) → K (.tup [.agg (rc x y w h), .sc (.int .i64 0)]) s) :
    acallF Try.prog pl (n + 8) m 43 [.ref wd 0, .sc (.int .i64 id)] st K := by
  refine acallF_inF Try.func43 rfl rfl Try.ntmps43 (by simp) ?_
  obtain ⟨S, hS⟩ : ∃ S, S = st ++ [Ob.cells [V.ref wd 0], Ob.cells (rc 0 0 0 0)] := ⟨_, rfl⟩
  have g0 : Grw st S := by rw [hS]; exact .push _ _
  have c0 : S[st.length]? = some (.cells [V.ref wd 0]) := by rw [hS]; exact get_new _ _ 0
  have c1 : S[st.length + 1]? = some (.cells (rc 0 0 0 0)) := by rw [hS]; exact get_new _ _ 1
  have lS : S.length = st.length + 2 := by rw [hS]; simp
  simp only [rc] at hS c1
  simp only [rc, evf,↓evp,evq,evr,fxa0,fxa1,fxa2,fxa3,fxa4,fxu,fxn,fxl,↓fxp,lgc,absL,fitL,flatL,ares,ares1,ofVal,unSc,aload,afill,splice,abound,asI,elems,IntKind.bits,sortT,eqNil,closedL,allByte,patch,pendOK,numA,Value.cells,Value.oneCell',ibin,List.replicate,Option.elim,Nat.reduceAdd,Nat.reduceSub,Nat.reduceMul,Nat.reduceLT,Nat.reduceEqDiff,Nat.reduceLeDiff,Nat.reduceBEq,Int.reduceLE,Int.reduceLT,Int.reduceToNat,Int.reduceBNe,Int.reduceBEq,Int.reduceNeg,Int.reduceEq,Int.reduceNe,Nat.reduceBNe,Int.reduceAdd,Int.reduceSub,Int.reduceMul,Int.reducePow,Nat.reducePow,Int.reduceGT,Int.reduceGE,if_true,if_false,ite_true,ite_false,beq_self_eq_true,BEq.rfl,reduceCtorEq,eq_self,ne_eq,Function.comp_def,beq_iff_eq]
  rw [← hS]
  have hi0 := hi.grw g0
  have w0 := hi0.wd.w
  refine w_is1 (n := n + 6) hi0.wd ?_
  have gX := fun X => Grw.push S X
  have c0X := fun X => gX X _ _ c0
  have c1X := fun X => gX X _ _ c1
  have w0X := fun X => gX X _ _ w0
  have look := lk_int (e := 78) (z := .agg [.sc (.int .i64 0), .sc (.int .i64 0), .sc (.int .i64 0), .sc (.int .i64 0)]) Try.underlying104 (by kernel_rfl) hi0.wd.us id
  have c1s : ∀ (s : List Ob) (o o' : Ob), s[st.length + 1]? = some o → (s.set (st.length + 1) o')[st.length + 1]? = some o' := fun s o o' h => get_set h o'
  cases e2 : getI id us
  case none =>
    rw [e2] at look
    simp only [c0, c1, w0, look, c0X, c1X, w0X, c1s _ _ _ (c1X _), get_new, get_new0, M.set_new, M.set_new0, evf,↓evp,evq,evr,fxa0,fxa1,fxa2,fxa3,fxa4,fxu,fxn,fxl,↓fxp,lgc,absL,fitL,flatL,ares,ares1,ofVal,unSc,aload,afill,splice,abound,asI,elems,IntKind.bits,sortT,eqNil,closedL,allByte,patch,pendOK,numA,Value.cells,Value.oneCell',ibin,List.replicate,Option.elim,Nat.reduceAdd,Nat.reduceSub,Nat.reduceMul,Nat.reduceLT,Nat.reduceEqDiff,Nat.reduceLeDiff,Nat.reduceBEq,Int.reduceLE,Int.reduceLT,Int.reduceToNat,Int.reduceBNe,Int.reduceBEq,Int.reduceNeg,Int.reduceEq,Int.reduceNe,Nat.reduceBNe,Int.reduceAdd,Int.reduceSub,Int.reduceMul,Int.reducePow,Nat.reducePow,Int.reduceGT,Int.reduceGE,if_true,if_false,ite_true,ite_false,beq_self_eq_true,BEq.rfl,reduceCtorEq,eq_self,ne_eq,Function.comp_def,beq_iff_eq]
    exact hK1 e2 _ ((g0.trans (gX _)).set (by omega) _)
  rename_i vv
  obtain ⟨x, y, w, h, rfl, em, ew, eh⟩ := hmy _ _ e2
  rw [e2] at look
  have hK0 := hK0 x y w h e2
  obtain ⟨fx, fy, fw, fh, fx2, fy2⟩ := may_facts em
  have dX := fun X => dl_int (e := 78) Try.underlying104 (hi0.wd.grw (gX X)).us id
  have ha0 : a < st.length := (List.getElem?_eq_some_iff.1 hi.wd.us).1
  have hb0 : b < st.length := (List.getElem?_eq_some_iff.1 hi.wd.os).1
  have hw0 : wd < st.length := (List.getElem?_eq_some_iff.1 hi.wd.w).1
  simp only [rc] at look
  simp only [c0, c1, w0, look, c0X, c1X, w0X, dX, get_new, get_new0, M.set_new, M.set_new0, evf,↓evp,evq,evr,fxa0,fxa1,fxa2,fxa3,fxa4,fxu,fxn,fxl,↓fxp,lgc,absL,fitL,flatL,ares,ares1,ofVal,unSc,aload,afill,splice,abound,asI,elems,IntKind.bits,sortT,eqNil,closedL,allByte,patch,pendOK,numA,Value.cells,Value.oneCell',ibin,List.replicate,Option.elim,Nat.reduceAdd,Nat.reduceSub,Nat.reduceMul,Nat.reduceLT,Nat.reduceEqDiff,Nat.reduceLeDiff,Nat.reduceBEq,Int.reduceLE,Int.reduceLT,Int.reduceToNat,Int.reduceBNe,Int.reduceBEq,Int.reduceNeg,Int.reduceEq,Int.reduceNe,Nat.reduceBNe,Int.reduceAdd,Int.reduceSub,Int.reduceMul,Int.reducePow,Nat.reducePow,Int.reduceGT,Int.reduceGE,if_true,if_false,ite_true,ite_false,beq_self_eq_true,BEq.rfl,reduceCtorEq,eq_self,ne_eq,Function.comp_def,beq_iff_eq]
  generalize hs1 : S ++ [Ob.cells _] = s1
  have g01 : Grw S s1 := by rw [← hs1]; exact gX _
  have c2 : s1[S.length]? = some (.cells [.sc (.int .i64 x), .sc (.int .i64 y), .sc (.int .i64 w), .sc (.int .i64 h)]) := by rw [← hs1]; exact get_new0 _ _
  have g1 := g0.trans g01
  have hi1 := hi0.grw g01
  have c0_1 := g01 _ _ c0
  have c1_1 := g01 _ _ c1
  have w1 := hi1.wd.w
  have la : a < s1.length := (List.getElem?_eq_some_iff.1 hi1.wd.us).1
  have c2' : ∀ o, (s1.set a o)[S.length]? = s1[S.length]? := fun o => List.getElem?_set_ne (by omega)
  simp only [c2', c2, evf,↓evp,evq,evr,fxa0,fxa1,fxa2,fxa3,fxa4,fxu,fxn,fxl,↓fxp,lgc,absL,fitL,flatL,ares,ares1,ofVal,unSc,aload,afill,splice,abound,asI,elems,IntKind.bits,sortT,eqNil,closedL,allByte,patch,pendOK,numA,Value.cells,Value.oneCell',ibin,List.replicate,Option.elim,Nat.reduceAdd,Nat.reduceSub,Nat.reduceMul,Nat.reduceLT,Nat.reduceEqDiff,Nat.reduceLeDiff,Nat.reduceBEq,Int.reduceLE,Int.reduceLT,Int.reduceToNat,Int.reduceBNe,Int.reduceBEq,Int.reduceNeg,Int.reduceEq,Int.reduceNe,Nat.reduceBNe,Int.reduceAdd,Int.reduceSub,Int.reduceMul,Int.reducePow,Nat.reducePow,Int.reduceGT,Int.reduceGE,if_true,if_false,ite_true,ite_false,beq_self_eq_true,BEq.rfl,reduceCtorEq,eq_self,ne_eq,Function.comp_def,beq_iff_eq]
  generalize hs4 : s1.set a _ = s4
  refine c_Cells ?_
  simp only [evf,↓evp,evq,evr,fxa0,fxa1,fxa2,fxa3,fxa4,fxu,fxn,fxl,↓fxp,lgc,absL,fitL,flatL,ares,ares1,ofVal,unSc,aload,afill,splice,abound,asI,elems,IntKind.bits,sortT,eqNil,closedL,allByte,patch,pendOK,numA,Value.cells,Value.oneCell',ibin,List.replicate,Option.elim,Nat.reduceAdd,Nat.reduceSub,Nat.reduceMul,Nat.reduceLT,Nat.reduceEqDiff,Nat.reduceLeDiff,Nat.reduceBEq,Int.reduceLE,Int.reduceLT,Int.reduceToNat,Int.reduceBNe,Int.reduceBEq,Int.reduceNeg,Int.reduceEq,Int.reduceNe,Nat.reduceBNe,Int.reduceAdd,Int.reduceSub,Int.reduceMul,Int.reducePow,Nat.reducePow,Int.reduceGT,Int.reduceGE,if_true,if_false,ite_true,ite_false,beq_self_eq_true,BEq.rfl,reduceCtorEq,eq_self,ne_eq,Function.comp_def,beq_iff_eq]
  obtain ⟨W, rfl⟩ := Int.eq_ofNat_of_zero_le (show 0 ≤ w by omega)
  obtain ⟨H, rfl⟩ := Int.eq_ofNat_of_zero_le (show 0 ≤ h by omega)
  simp only [Int.toNat_natCast] at hK0
  have k4 : ∀ j o, j ≠ a → s1[j]? = some o → s4[j]? = some o := fun j o hj ho => by rw [← hs4, List.getElem?_set_ne (Ne.symm hj)]; exact ho
  have u4 : s4[a]? = some (.map (esI (delI id us))) := by rw [← hs4, List.getElem?_set_self la]
  have l4 : s4.length = s1.length := by rw [← hs4, List.length_set]
  have g5 := fun X => Grw.push s4 X
  have l1 : st.length + 3 ≤ s1.length := by have := (List.getElem?_eq_some_iff.1 c2).1; omega
  have nda : rowOf dv ≠ some a := hi.dl.nmap hi.wd.us
  have ndb : rowOf dv ≠ some b := hi.dl.nmap hi.wd.os
  have ndw : rowOf dv ≠ some wd := hi.dl.ncells hi.wd.w
  have nta : rowOf tv ≠ some a := hi.tl.nmap hi.wd.us
  have ntb : rowOf tv ≠ some b := hi.tl.nmap hi.wd.os
  have ntw : rowOf tv ≠ some wd := hi.tl.ncells hi.wd.w
  have hwa := hi.wd.nwa
  have hwb := hi.wd.nwb
  have hab := hi.ab
  refine raze_loop (n := n + 3) rfl (t2 := st.length) (wd := wd) (a := a) (b := b) (WW := WW) (HH := HH) (tv := tv) (dv := dv) (os := os) (by simp only [evf, ne_eq, Nat.reduceEqDiff, Nat.reduceLT, not_false_eq_true]) em (by omega) (by omega) (g5 _ _ _ (k4 _ _ (by omega) c0_1)) (g5 _ _ _ (k4 _ _ hwa w1)) (g5 _ _ _ (k4 _ _ (Ne.symm hab) hi1.wd.os)) (get_new0 _ _) (get_new _ _ 1) ?_
  intro s5 k1 k2 k3
  refine rfEnd_normal k2 (by decide) ?_
  generalize hs6 : s5.set (s4.length + 1) _ = s6
  have k6 : ∀ j o, j ≠ a → j ≠ b → s1[j]? = some o → s6[j]? = some o := fun j o ja jb ho => by
    have lj : j < s1.length := (List.getElem?_eq_some_iff.1 ho).1
    rw [← hs6]
    exact frame_new (st := st) (k3 _ _ jb (by omega) (g5 _ _ _ (k4 _ _ ja ho))) (by omega) _
  have c0_6 := k6 _ _ (by omega) (by omega) c0_1
  have c1_6 := k6 _ _ (by omega) (by omega) c1_1
  have c2_6 := k6 _ _ (by omega) (by omega) c2
  have w6 := k6 _ _ hwa hwb w1
  have u6 : s6[a]? = some (.map (esI (delI id us))) := by
    rw [← hs6]
    exact frame_new (st := st) (k3 _ _ hab (by omega) (g5 _ _ _ u4)) (by omega) _
  have o6 : s6[b]? = some (.map (esC (cutC x y W os (H * W)))) := by
    rw [← hs6]
    exact frame_new (st := st) k1 (by omega) _
  have t6 : Gl s6 5 tv ts ts.length := hi1.tl.of fun j o hj ho => k6 _ _ (fun h => nta (by rw [← h]; exact hj)) (fun h => ntb (by rw [← h]; exact hj)) ho
  have d6 : Gl s6 78 dv (ds.flatMap R4.v) ds.length := hi1.dl.of fun j o hj ho => k6 _ _ (fun h => nda (by rw [← h]; exact hj)) (fun h => ndb (by rw [← h]; exact hj)) ho
  have l6 : st.length + 3 ≤ s6.length := by have := (List.getElem?_eq_some_iff.1 c2_6).1; omega
  have g7 := fun X => Grw.push s6 X
  obtain ⟨dv', s7, ap, dl7, tr7, nw7⟩ := gl_app (P := Try.prog) (t := 83) (s := s6 ++ [.row 78 (rc x y W H) 1 0 false]) (x := .sl s6.length 0 1 false 1) (zs := rc x y W H) (k := 1) (d6.grw (g7 _)) Try.underlying83 sz78 by78 ze78 (by omega) rfl (flatMap_len (f := R4.v) (s := 4) (fun _ => rfl) _) (by simp only [elems, get_new0, List.getElem?_cons_zero, sz78]; rfl) rfl rfl (by omega) (by omega)
  have f7 : ∀ j o, rowOf dv ≠ some j → s6[j]? = some o → s7[j]? = some o := fun j o hj ho => tr7.2 _ _ hj (g7 _ _ _ ho)
  have ndc : ∀ j, st.length ≤ j → rowOf dv ≠ some j := fun j hj h => by
    rcases hi.dl with ⟨rfl, _, _⟩ | ⟨id, lo, rfl, h1, _⟩
    · cases h
    · simp only [rowOf, Option.some.injEq] at h
      have := (List.getElem?_eq_some_iff.1 h1).1
      omega
  have c0_7 := f7 _ _ (ndc _ (Nat.le_refl _)) c0_6
  have c1_7 := f7 _ _ (ndc _ (by omega)) c1_6
  have c2_7 := f7 _ _ (ndc _ (by omega)) c2_6
  have w7 := f7 _ _ ndw w6
  have c0X := fun X => g7 X _ _ c0_6
  have c2X := fun X => g7 X _ _ c2_6
  have w6X := fun X => g7 X _ _ w6
  obtain ⟨hone, hcell⟩ := dl7.one
  have r7 : s7[s6.length]? = some (.row 78 (rc x y W H) 1 0 false) := tr7.2 _ _ (ndc _ (by omega)) (get_new0 _ _)
  have r7' : ∀ o, (s7.set wd o)[s6.length]? = some (.row 78 (rc x y W H) 1 0 false) := fun o => by rw [List.getElem?_set_ne (by omega)]; exact r7
  have c27 : ∀ o, (s7.set wd o)[S.length]? = s7[S.length]? := fun o => List.getElem?_set_ne (by omega)
  have c17 : ∀ o, (s7.set wd o)[st.length + 1]? = s7[st.length + 1]? := fun o => List.getElem?_set_ne (by omega)
  have c18 : ∀ o o', ((s7.set wd o).set (st.length + 1) o')[st.length + 1]? = some o' := fun o o' => c1s _ _ _ ((c17 o).trans c1_7)
  simp only [rc] at ap r7'
  simp only [c0_6, c2_6, w6, c0X, c2X, w6X, c0_7, c1_7, c2_7, w7, ap, hone, hcell, r7', c27, c17, c18, evf,↓evp,evq,evr,fxa0,fxa1,fxa2,fxa3,fxa4,fxu,fxn,fxl,↓fxp,lgc,absL,fitL,flatL,ares,ares1,ofVal,unSc,aload,afill,splice,abound,asI,elems,IntKind.bits,sortT,eqNil,closedL,allByte,patch,pendOK,numA,Value.cells,Value.oneCell',ibin,List.replicate,Option.elim,Nat.reduceAdd,Nat.reduceSub,Nat.reduceMul,Nat.reduceLT,Nat.reduceEqDiff,Nat.reduceLeDiff,Nat.reduceBEq,Int.reduceLE,Int.reduceLT,Int.reduceToNat,Int.reduceBNe,Int.reduceBEq,Int.reduceNeg,Int.reduceEq,Int.reduceNe,Nat.reduceBNe,Int.reduceAdd,Int.reduceSub,Int.reduceMul,Int.reducePow,Nat.reducePow,Int.reduceGT,Int.reduceGE,if_true,if_false,ite_true,ite_false,beq_self_eq_true,BEq.rfl,reduceCtorEq,eq_self,ne_eq,Function.comp_def,beq_iff_eq]
  have lw : wd < s7.length := (List.getElem?_eq_some_iff.1 w7).1
  have k8 : ∀ (o' o'' : Ob) j o, j ≠ wd → j ≠ st.length + 1 → s7[j]? = some o → ((s7.set wd o').set (st.length + 1) o'')[j]? = some o := fun o' o'' j o hj hj2 ho => by rw [List.getElem?_set_ne (Ne.symm hj2), List.getElem?_set_ne (Ne.symm hj)]; exact ho
  have ntl : ∀ j, rowOf tv = some j → j < st.length := fun j h => by
    rcases hi.tl with ⟨rfl, _, _⟩ | ⟨id, lo, rfl, h1, _⟩
    · cases h
    · simp only [rowOf, Option.some.injEq] at h
      have := (List.getElem?_eq_some_iff.1 h1).1
      omega
  refine hK0 dv' _ ⟨⟨?_, k8 _ _ _ _ (Ne.symm hwa) (by omega) (f7 _ _ nda u6), k8 _ _ _ _ (Ne.symm hwb) (by omega) (f7 _ _ ndb o6)⟩, t6.of fun j o hj ho => k8 _ _ _ _ (fun h => ntw (by rw [← h]; exact hj)) (by have := ntl j hj; omega) (f7 _ _ (hi.ne j hj) ho), ?_, fun j hj h => ?_, hab, fun i v hv => ?_⟩ ⟨?_, fun j o jw ja jb jd ho => ?_⟩ fun j h => ?_
  · rw [List.getElem?_set_ne (by omega)]; exact List.getElem?_set_self lw
  · have e : (ds ++ [(⟨x, y, (W : Int), (H : Int)⟩ : R4)]).flatMap R4.v = ds.flatMap R4.v ++ rc x y W H := by simp [List.flatMap_append, R4.v]
    have e2 : (ds ++ [(⟨x, y, (W : Int), (H : Int)⟩ : R4)]).length = ds.length + 1 := by simp
    rw [e, e2]
    refine dl7.of fun j o hj ho => k8 _ _ _ _ (fun h => ?_) (fun h => ?_) ho
    · rcases nw7 j hj with h' | h'
      · exact ndw (by rw [← h]; exact h')
      · simp only [List.length_append] at h'; omega
    · rcases nw7 j hj with h' | h'
      · exact ndc _ (by omega) h'
      · simp only [List.length_append] at h'; omega
  · rcases nw7 j h with h' | h'
    · exact hi.ne j hj h'
    · have := ntl j hj
      simp only [List.length_append] at h'; omega
  · rw [getI_delI _ _ hnd] at hv
    split at hv
    · cases hv
    · exact hi.rcs _ _ hv
  · rw [List.length_set, List.length_set]
    have := (List.getElem?_eq_some_iff.1 c1_7).1
    omega
  · have lj : j < st.length := (List.getElem?_eq_some_iff.1 ho).1
    exact k8 _ _ _ _ jw (by omega) (f7 _ _ jd (k6 _ _ ja jb (g1 _ _ ho)))
  · rcases nw7 j h with h' | h'
    · exact .inl h'
    · exact .inr (by simp only [List.length_append] at h'; omega)
theorem w_Dirty1 (hi : Wg st wd a b WW HH tv dv ts us os ds) (hdl : ds.length < 4000000000000)
    (hK0 : (id < 0 ∨ (ds.length : Int) ≤ id) → K (.tsl [] 0 true true) st)
    (hK1 : 0 ≤ id → id < ds.length → ∀ v' s, Gl s 78 v' ((ds.drop id.toNat).flatMap R4.v) (ds.drop id.toNat).length → Grw st s → K v' s) :
    acallF Try.prog pl (n + 2) m 37 [.ref wd 0, .sc (.int .i64 id)] st K := by
  refine acallF_inF Try.func37 rfl rfl Try.ntmps37 (by simp) ?_
  have w1 := hi.wd.w
  have cut := hi.dl.cut sz78 (flatMap_len (f := R4.v) (s := 4) (fun _ => rfl) _)
  have al := alen_rd cut.1 Try.underlying83
  simp only [evf,↓evp,evq,evr,fxa0,fxa1,fxa2,fxa3,fxa4,fxu,fxn,fxl,↓fxp,lgc,absL,fitL,flatL,ares,ares1,ofVal,unSc,aload,afill,splice,abound,asI,elems,IntKind.bits,sortT,eqNil,closedL,allByte,patch,pendOK,numA,Value.cells,Value.oneCell',ibin,List.replicate,Option.elim,Nat.reduceAdd,Nat.reduceSub,Nat.reduceMul,Nat.reduceLT,Nat.reduceEqDiff,Nat.reduceLeDiff,Nat.reduceBEq,Int.reduceLE,Int.reduceLT,Int.reduceToNat,Int.reduceBNe,Int.reduceBEq,Int.reduceNeg,Int.reduceEq,Int.reduceNe,Nat.reduceBNe,Int.reduceAdd,Int.reduceSub,Int.reduceMul,Int.reducePow,Nat.reducePow,Int.reduceGT,Int.reduceGE,if_true,if_false,ite_true,ite_false,beq_self_eq_true,BEq.rfl,reduceCtorEq,eq_self,ne_eq,Function.comp_def,beq_iff_eq]
  refine w_is1 hi.wd ?_
  cases d1 : decide (id < 0)
  case true =>
    simp only [w1, d1, evf,↓evp,evq,evr,fxa0,fxa1,fxa2,fxa3,fxa4,fxu,fxn,fxl,↓fxp,lgc,absL,fitL,flatL,ares,ares1,ofVal,unSc,aload,afill,splice,abound,asI,elems,IntKind.bits,sortT,eqNil,closedL,allByte,patch,pendOK,numA,Value.cells,Value.oneCell',ibin,List.replicate,Option.elim,Nat.reduceAdd,Nat.reduceSub,Nat.reduceMul,Nat.reduceLT,Nat.reduceEqDiff,Nat.reduceLeDiff,Nat.reduceBEq,Int.reduceLE,Int.reduceLT,Int.reduceToNat,Int.reduceBNe,Int.reduceBEq,Int.reduceNeg,Int.reduceEq,Int.reduceNe,Nat.reduceBNe,Int.reduceAdd,Int.reduceSub,Int.reduceMul,Int.reducePow,Nat.reducePow,Int.reduceGT,Int.reduceGE,if_true,if_false,ite_true,ite_false,beq_self_eq_true,BEq.rfl,reduceCtorEq,eq_self,ne_eq,Function.comp_def,beq_iff_eq]
    exact hK0 (.inl (of_decide_eq_true d1))
  cases d2 : decide (id ≥ (ds.length : Int))
  case true =>
    simp only [w1, d1, d2, al, evf,↓evp,evq,evr,fxa0,fxa1,fxa2,fxa3,fxa4,fxu,fxn,fxl,↓fxp,lgc,absL,fitL,flatL,ares,ares1,ofVal,unSc,aload,afill,splice,abound,asI,elems,IntKind.bits,sortT,eqNil,closedL,allByte,patch,pendOK,numA,Value.cells,Value.oneCell',ibin,List.replicate,Option.elim,Nat.reduceAdd,Nat.reduceSub,Nat.reduceMul,Nat.reduceLT,Nat.reduceEqDiff,Nat.reduceLeDiff,Nat.reduceBEq,Int.reduceLE,Int.reduceLT,Int.reduceToNat,Int.reduceBNe,Int.reduceBEq,Int.reduceNeg,Int.reduceEq,Int.reduceNe,Nat.reduceBNe,Int.reduceAdd,Int.reduceSub,Int.reduceMul,Int.reducePow,Nat.reducePow,Int.reduceGT,Int.reduceGE,if_true,if_false,ite_true,ite_false,beq_self_eq_true,BEq.rfl,reduceCtorEq,eq_self,ne_eq,Function.comp_def,beq_iff_eq]
    exact hK0 (.inr (of_decide_eq_true d2))
  have d1' := of_decide_eq_false d1
  have d2' := of_decide_eq_false d2
  obtain ⟨q, rfl⟩ := Int.eq_ofNat_of_zero_le (show 0 ≤ id by omega)
  obtain ⟨v', k1, k2⟩ := slice_end cut Try.underlying83 sz78 (lo := q) (by omega)
  simp only [w1, d1, d2, al, k1, evf,↓evp,evq,evr,fxa0,fxa1,fxa2,fxa3,fxa4,fxu,fxn,fxl,↓fxp,lgc,absL,fitL,flatL,ares,ares1,ofVal,unSc,aload,afill,splice,abound,asI,elems,IntKind.bits,sortT,eqNil,closedL,allByte,patch,pendOK,numA,Value.cells,Value.oneCell',ibin,List.replicate,Option.elim,Nat.reduceAdd,Nat.reduceSub,Nat.reduceMul,Nat.reduceLT,Nat.reduceEqDiff,Nat.reduceLeDiff,Nat.reduceBEq,Int.reduceLE,Int.reduceLT,Int.reduceToNat,Int.reduceBNe,Int.reduceBEq,Int.reduceNeg,Int.reduceEq,Int.reduceNe,Nat.reduceBNe,Int.reduceAdd,Int.reduceSub,Int.reduceMul,Int.reducePow,Nat.reducePow,Int.reduceGT,Int.reduceGE,if_true,if_false,ite_true,ite_false,beq_self_eq_true,BEq.rfl,reduceCtorEq,eq_self,ne_eq,Function.comp_def,beq_iff_eq]
  have e : (ds.flatMap R4.v).drop (q * 4) = (ds.drop q).flatMap R4.v := flatMap_drop (f := R4.v) (s := 4) (fun _ => rfl) _ _
  rw [e] at k2
  have k3 := hK1 (by omega) (by omega)
  simp only [Int.toNat_natCast, List.length_drop] at k3
  refine c_cloneR (n := n) k2.1 (closed_rs _) (by omega) fun v2 s2 gl2 g2 _ => ?_
  simp only [evf,↓evp,evq,evr,fxa0,fxa1,fxa2,fxa3,fxa4,fxu,fxn,fxl,↓fxp,lgc,absL,fitL,flatL,ares,ares1,ofVal,unSc,aload,afill,splice,abound,asI,elems,IntKind.bits,sortT,eqNil,closedL,allByte,patch,pendOK,numA,Value.cells,Value.oneCell',ibin,List.replicate,Option.elim,Nat.reduceAdd,Nat.reduceSub,Nat.reduceMul,Nat.reduceLT,Nat.reduceEqDiff,Nat.reduceLeDiff,Nat.reduceBEq,Int.reduceLE,Int.reduceLT,Int.reduceToNat,Int.reduceBNe,Int.reduceBEq,Int.reduceNeg,Int.reduceEq,Int.reduceNe,Nat.reduceBNe,Int.reduceAdd,Int.reduceSub,Int.reduceMul,Int.reducePow,Nat.reducePow,Int.reduceGT,Int.reduceGE,if_true,if_false,ite_true,ite_false,beq_self_eq_true,BEq.rfl,reduceCtorEq,eq_self,ne_eq,Function.comp_def,beq_iff_eq]
  exact k3 v2 s2 gl2 g2
end
end Go.Proofs.Ytndjhaeeldegfaa
