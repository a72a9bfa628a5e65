/- Chapter 22: a claim. -/
import Derived.Test.YtgmccnnjpejigaaB16
set_option linter.unusedVariables false
set_option linter.unusedSimpArgs false
set_option maxRecDepth 10000
namespace Go.Proofs.Ytgmccnnjpejigaa
open Go Go.M Go.RowKit
attribute [local congr] acallF_cong aloop_cong bcase_cong resK_cong valK_cong wantK_cong callK_cong xputK_cong qputK_cong resM_cong rfK_cong
attribute [local irreducible] seqK blockK loopK nextK bcase resK valK wantK funK putK dputK xputK qputK callK aops aop acode adraw aloop acallF acall invK resM rfK rfEnd rdEnd rdMid around
section
variable {n m : Nat} {st s : List Ob} {K : V → List Ob → Prop} {tb ix a b u c : Nat} {us cls : List (Int × V)} {os cc : List ((Int × Int) × V)} {x y w h id : Int} {W H : Nat}
set_option maxHeartbeats 2000000 in
theorem claim_yl {ps : Array Tmp} {asg body : Code} (hc : frf (Try.f43.body.getD .skip) = some (ps, asg, body)) {F : Nat → V} {t3 t4 lid : Nat} {p : Option Code} (q3 : F 3 = .ref t3 0) (q4 : F 4 = .ref t4 0)
    (h3 : s[t3]? = some (.cells [.ref tb 0])) (h4 : s[t4]? = some (.cells [.sc (.int .i64 id)])) (hix : s[tb]? = some (.cells [.ref ix 0, .map u, .map c])) (hb : s[c]? = some (.map (esC cc)))
    (hl : s[lid]? = some (.loop .ready p (pl 43) (ofF 44 F) ps.toList asg body))
    (hK : ∀ s', s'[c]? = some (.map (esC (putC (x, y) (.sc (.int .i64 id)) cc))) → s'[lid]? = some (.loop .ready none (pl 43) (ofF 44 F) ps.toList asg body) → (∀ j o, j ≠ c → j ≠ lid → s[j]? = some o → s'[j]? = some o) → K (.sc (.bool true)) s') :
    acallF Try.prog pl (n + 1) m Try.prog.funcs.size [.yl lid, .agg (cl x y)] s K := by
  simp only [Try.f43, Option.getD_some, frf, Option.some.injEq, Prod.mk.injEq] at hc
  obtain ⟨rfl, rfl, rfl⟩ := hc
  have hbl : c ≠ lid := fun he => by subst he; rw [hb] at hl; cases hl
  refine acallF_yl hl rfl ?_
  rw [show (#[37] : Array Tmp).toList = [37] from rfl, aputs_one (by decide)]
  simp only [cl, evf,↓evp,evq,evr,fxa0,fxa1,fxa2,fxa3,fxa4,fxu,fxn,fxl,↓fxp,lgc,absL,fitL,flatL,ares,ares1,ofVal,unSc,aload,afill,splice,abound,asI,elems,IntKind.bits,sortT,eqNil,closedL,allByte,patch,pendOK,numA,Value.cells,Value.oneCell',ibin,List.replicate,Option.elim,Nat.reduceAdd,Nat.reduceSub,Nat.reduceMul,Nat.reduceLT,Nat.reduceEqDiff,Nat.reduceLeDiff,Nat.reduceBEq,Int.reduceLE,Int.reduceLT,Int.reduceToNat,Int.reduceBNe,Int.reduceBEq,Int.reduceNeg,Int.reduceEq,Int.reduceNe,Nat.reduceBNe,Int.reduceAdd,Int.reduceSub,Int.reduceMul,Int.reducePow,Nat.reducePow,Int.reduceGT,Int.reduceGE,if_true,if_false,ite_true,ite_false,beq_self_eq_true,BEq.rfl,reduceCtorEq,eq_self,ne_eq,Function.comp_def,beq_iff_eq]
  have g0 := Grw.push s [.cells [.sc (.int .i64 x), .sc (.int .i64 y)]]
  have c6 : (s ++ [Ob.cells [V.sc (.int .i64 x), V.sc (.int .i64 y)]])[s.length]? = some (.cells [V.sc (.int .i64 x), V.sc (.int .i64 y)]) := get_new0 _ _
  refine rdMid_ok (g0 _ _ hl) ?_
  generalize hs1 : (s ++ [Ob.cells [V.sc (.int .i64 x), V.sc (.int .i64 y)]]) = s1 at g0 c6
  have nl : s.length ≠ lid := fun he => by subst he; rw [List.getElem?_eq_none (Nat.le_refl _)] at hl; cases hl
  have lt : lid < s1.length := (List.getElem?_eq_some_iff.1 (g0 _ _ hl)).1
  have nc : ∀ (j : Nat) (c : List V), s[j]? = some (.cells c) → j ≠ lid := fun j c hj he => by subst he; rw [hl] at hj; cases hj
  generalize hs2 : s1.set lid _ = s2
  have k : ∀ j o, j ≠ lid → s1[j]? = some o → s2[j]? = some o := fun j o hj ho => by rw [← hs2, List.getElem?_set_ne (Ne.symm hj)]; exact ho
  have d3 := k _ _ (nc _ _ h3) (g0 _ _ h3)
  have d4 := k _ _ (nc _ _ h4) (g0 _ _ h4)
  have di := k _ _ (nc _ _ hix) (g0 _ _ hix)
  have db := k _ _ hbl (g0 _ _ hb)
  have d6 := k _ _ nl c6
  have up := up_cell (e := 3) (v := .sc (.int .i64 id)) Try.underlying60 rfl db x y
  simp only [q3, q4, d3, d4, di, d6, up, evf,↓evp,evq,evr,fxa0,fxa1,fxa2,fxa3,fxa4,fxu,fxn,fxl,↓fxp,lgc,absL,fitL,flatL,ares,ares1,ofVal,unSc,aload,afill,splice,abound,asI,elems,IntKind.bits,sortT,eqNil,closedL,allByte,patch,pendOK,numA,Value.cells,Value.oneCell',ibin,List.replicate,Option.elim,Nat.reduceAdd,Nat.reduceSub,Nat.reduceMul,Nat.reduceLT,Nat.reduceEqDiff,Nat.reduceLeDiff,Nat.reduceBEq,Int.reduceLE,Int.reduceLT,Int.reduceToNat,Int.reduceBNe,Int.reduceBEq,Int.reduceNeg,Int.reduceEq,Int.reduceNe,Nat.reduceBNe,Int.reduceAdd,Int.reduceSub,Int.reduceMul,Int.reducePow,Nat.reducePow,Int.reduceGT,Int.reduceGE,if_true,if_false,ite_true,ite_false,beq_self_eq_true,BEq.rfl,reduceCtorEq,eq_self,ne_eq,Function.comp_def,beq_iff_eq]
  have dl : ∀ o, s1.set lid o = s2 → s2[lid]? = some o := fun o ho => by rw [← ho]; exact List.getElem?_set_self lt
  have dl := dl _ hs2
  have lb : c < s2.length := (List.getElem?_eq_some_iff.1 db).1
  refine rdEnd_normal (by rw [List.getElem?_set_ne hbl]; exact dl) ?_
  refine hK _ ?_ ?_ ?_
  · rw [List.getElem?_set_ne (Ne.symm hbl), List.getElem?_set_self lb]
  · rw [List.getElem?_set_self (by rw [List.length_set, ← hs2, List.length_set]; exact lt)]
  · intro j o hj hjl ho
    rw [List.getElem?_set_ne (Ne.symm hjl), List.getElem?_set_ne (Ne.symm hj)]
    exact k _ _ hjl (g0 _ _ ho)
set_option maxHeartbeats 1000000 in
theorem claim_loop {ps : Array Tmp} {asg body : Code} (hc : frf (Try.f43.body.getD .skip) = some (ps, asg, body)) {F : Nat → V} {t3 t4 lid rb : Nat} (q3 : F 3 = .ref t3 0) (q4 : F 4 = .ref t4 0)
    (hmay : mayB x y W H = true) (hm : W < m) (hm2 : H < m)
    (h3 : s[t3]? = some (.cells [.ref tb 0])) (h4 : s[t4]? = some (.cells [.sc (.int .i64 id)])) (hix : s[tb]? = some (.cells [.ref ix 0, .map u, .map c])) (hb : s[c]? = some (.map (esC cc))) (hr : s[rb]? = some (.cells (rc x y W H)))
    (hl : s[lid]? = some (.loop .ready none (pl 43) (ofF 44 F) ps.toList asg body))
    (hK : ∀ s', s'[c]? = some (.map (esC (fillC (.sc (.int .i64 id)) x y W cc (H * W)))) → s'[lid]? = some (.loop .ready none (pl 43) (ofF 44 F) ps.toList asg body) → Kp c lid s s' → K (.tup []) s') :
    acallF Try.prog pl (n + 4) m 106 [.yl lid, .ref rb 0] s K := by
  have hbl : c ≠ lid := fun he => by subst he; rw [hb] at hl; cases hl
  have nb : ∀ (j : Nat) (c' : List V), s[j]? = some (.cells c') → j ≠ c := fun j c' hj he => by subst he; rw [hb] at hj; cases hj
  have nl : ∀ (j : Nat) (c : List V), s[j]? = some (.cells c) → j ≠ lid := fun j c hj he => by subst he; rw [hl] at hj; cases hj
  refine c_Cells1 (x := x) (y := y) (W := W) (H := H) (I := fun k s' => s'[c]? = some (.map (esC (fillC (.sc (.int .i64 id)) x y W cc k))) ∧ s'[lid]? = some (.loop .ready none (pl 43) (ofF 44 F) ps.toList asg body) ∧ Kp c lid s s') (J := fun _ => False)
    hmay hm hm2 (fun k s' h => h.2.2 _ _ (nb _ _ hr) (nl _ _ hr) hr) (fun k s1 s2 h g => ⟨g _ _ h.1, g _ _ h.2.1, fun j o h1 h2 h3 => g _ _ (h.2.2 j o h1 h2 h3)⟩) ⟨hb, hl, fun j o _ _ h => h⟩ ?_ (fun s' h => hK s' h.1 h.2.1 h.2.2) (fun s' h => h.elim)
  intro j i s' K' hj hi ⟨e1, e2, e3⟩ hK1 hK2
  refine claim_yl (n := n + 2) hc q3 q4 (e3 _ _ (nb _ _ h3) (nl _ _ h3) h3) (e3 _ _ (nb _ _ h4) (nl _ _ h4) h4) (e3 _ _ (nb _ _ hix) (nl _ _ hix) hix) e1 e2 ?_
  intro s2 k1 k2 k3
  refine hK1 _ ⟨?_, k2, fun j o h1 h2 h3 => k3 j o h1 h2 (e3 j o h1 h2 h3)⟩
  rw [k1]
  simp only [fillC]
  rw [show (j * W + i) % W = i by rw [Nat.mul_comm, Nat.mul_add_mod, Nat.mod_eq_of_lt hi], show (j * W + i) / W = j by rw [Nat.mul_comm, Nat.mul_add_div (by omega), Nat.div_eq_of_lt hi, Nat.add_zero]]
set_option maxHeartbeats 4000000 in
theorem t_Claim (hint : ∀ c v, getC c os = some v → ∃ i, v = .sc (.int .i64 i)) (hcl : ∀ i v, getI i cls = some v → ∃ x y, v = .agg (cl x y)) (huc : u ≠ c) (hT : Tb st tb ix u c cls cc) (hi : Ix st ix a b us os) {px py : Int} (hg : getI id us = some (.agg (rc px py W H))) (hsm : W * H ≤ 64) (hm : W < m) (hm2 : H < m)
    (h8 : getI id cls ≠ none → ∀ s, Grw st s → K (.sc (.int .i64 8)) s)
    (h1 : getI id cls = none → mayB x y W H = false → ∀ s, Grw st s → K (.sc (.int .i64 1)) s)
    (h6 : getI id cls = none → mayB x y W H = true → (anyB (fun i => i != id) os x y W (H * W) || clAny cc x y W (H * W)) = true → ∀ s, Grw st s → K (.sc (.int .i64 6)) s)
    (h0 : getI id cls = none → mayB x y W H = true → anyB (fun i => i != id) os x y W (H * W) = false → clAny cc x y W (H * W) = false → ∀ s, Tb s tb ix u c (putI id (.agg (cl x y)) cls) (fillC (.sc (.int .i64 id)) x y W cc (H * W)) → Kp u c st s → K (.sc (.int .i64 0)) s) :
    acallF Try.prog pl (n + 8) m 43 [.ref tb 0, .sc (.int .i64 id), .agg (cl x y)] st K := by
  refine acallF_inF Try.func43 rfl Try.ntmps43 (by simp) ?_
  have gX := fun X => Grw.push st X
  have T1 := fun X => hT.grw (gX X)
  simp only [cl, get_new, get_new0, evf,↓evp,evq,evr,fxa0,fxa1,fxa2,fxa3,fxa4,fxu,fxn,fxl,↓fxp,lgc,absL,fitL,flatL,ares,ares1,ofVal,unSc,aload,afill,splice,abound,asI,elems,IntKind.bits,sortT,eqNil,closedL,allByte,patch,pendOK,numA,Value.cells,Value.oneCell',ibin,List.replicate,Option.elim,Nat.reduceAdd,Nat.reduceSub,Nat.reduceMul,Nat.reduceLT,Nat.reduceEqDiff,Nat.reduceLeDiff,Nat.reduceBEq,Int.reduceLE,Int.reduceLT,Int.reduceToNat,Int.reduceBNe,Int.reduceBEq,Int.reduceNeg,Int.reduceEq,Int.reduceNe,Nat.reduceBNe,Int.reduceAdd,Int.reduceSub,Int.reduceMul,Int.reducePow,Nat.reducePow,Int.reduceGT,Int.reduceGE,if_true,if_false,ite_true,ite_false,beq_self_eq_true,BEq.rfl,reduceCtorEq,eq_self,ne_eq,Function.comp_def,beq_iff_eq]
  refine t_May (n := n) hint hcl (T1 _) (hi.grw (gX _)) hg hsm hm hm2 (fun e s1 j1 => ?_) (fun e e' s1 j1 => ?_) (fun e e' e'' s1 j1 => ?_) fun e1 e2 e3 e4 s1 j1 => ?_
  · simp only [evf,↓evp,evq,evr,fxa0,fxa1,fxa2,fxa3,fxa4,fxu,fxn,fxl,↓fxp,lgc,absL,fitL,flatL,ares,ares1,ofVal,unSc,aload,afill,splice,abound,asI,elems,IntKind.bits,sortT,eqNil,closedL,allByte,patch,pendOK,numA,Value.cells,Value.oneCell',ibin,List.replicate,Option.elim,Nat.reduceAdd,Nat.reduceSub,Nat.reduceMul,Nat.reduceLT,Nat.reduceEqDiff,Nat.reduceLeDiff,Nat.reduceBEq,Int.reduceLE,Int.reduceLT,Int.reduceToNat,Int.reduceBNe,Int.reduceBEq,Int.reduceNeg,Int.reduceEq,Int.reduceNe,Nat.reduceBNe,Int.reduceAdd,Int.reduceSub,Int.reduceMul,Int.reducePow,Nat.reducePow,Int.reduceGT,Int.reduceGE,if_true,if_false,ite_true,ite_false,beq_self_eq_true,BEq.rfl,reduceCtorEq,eq_self,ne_eq,Function.comp_def,beq_iff_eq]
    exact h8 e _ ((gX _).trans j1)
  · simp only [evf,↓evp,evq,evr,fxa0,fxa1,fxa2,fxa3,fxa4,fxu,fxn,fxl,↓fxp,lgc,absL,fitL,flatL,ares,ares1,ofVal,unSc,aload,afill,splice,abound,asI,elems,IntKind.bits,sortT,eqNil,closedL,allByte,patch,pendOK,numA,Value.cells,Value.oneCell',ibin,List.replicate,Option.elim,Nat.reduceAdd,Nat.reduceSub,Nat.reduceMul,Nat.reduceLT,Nat.reduceEqDiff,Nat.reduceLeDiff,Nat.reduceBEq,Int.reduceLE,Int.reduceLT,Int.reduceToNat,Int.reduceBNe,Int.reduceBEq,Int.reduceNeg,Int.reduceEq,Int.reduceNe,Nat.reduceBNe,Int.reduceAdd,Int.reduceSub,Int.reduceMul,Int.reducePow,Nat.reducePow,Int.reduceGT,Int.reduceGE,if_true,if_false,ite_true,ite_false,beq_self_eq_true,BEq.rfl,reduceCtorEq,eq_self,ne_eq,Function.comp_def,beq_iff_eq]
    exact h1 e e' _ ((gX _).trans j1)
  · simp only [evf,↓evp,evq,evr,fxa0,fxa1,fxa2,fxa3,fxa4,fxu,fxn,fxl,↓fxp,lgc,absL,fitL,flatL,ares,ares1,ofVal,unSc,aload,afill,splice,abound,asI,elems,IntKind.bits,sortT,eqNil,closedL,allByte,patch,pendOK,numA,Value.cells,Value.oneCell',ibin,List.replicate,Option.elim,Nat.reduceAdd,Nat.reduceSub,Nat.reduceMul,Nat.reduceLT,Nat.reduceEqDiff,Nat.reduceLeDiff,Nat.reduceBEq,Int.reduceLE,Int.reduceLT,Int.reduceToNat,Int.reduceBNe,Int.reduceBEq,Int.reduceNeg,Int.reduceEq,Int.reduceNe,Nat.reduceBNe,Int.reduceAdd,Int.reduceSub,Int.reduceMul,Int.reducePow,Nat.reducePow,Int.reduceGT,Int.reduceGE,if_true,if_false,ite_true,ite_false,beq_self_eq_true,BEq.rfl,reduceCtorEq,eq_self,ne_eq,Function.comp_def,beq_iff_eq]
    exact h6 e e' e'' _ ((gX _).trans j1)
  have k0 := j1 _ _ (get_new0 _ _)
  have k1 := j1 _ _ (get_new _ _ 1)
  have k2 := j1 _ _ (get_new _ _ 2)
  have g1 := (gX _).trans j1
  have T2 := fun X => (hT.grw g1).grw (Grw.push s1 X)
  have a2 := fun X => (T2 X).at_
  have k0' := fun X => Grw.push s1 X _ _ k0
  have k1' := fun X => Grw.push s1 X _ _ k1
  have k2' := fun X => Grw.push s1 X _ _ k2
  simp only [k0', k1', k2', a2, evf,↓evp,evq,evr,fxa0,fxa1,fxa2,fxa3,fxa4,fxu,fxn,fxl,↓fxp,lgc,absL,fitL,flatL,ares,ares1,ofVal,unSc,aload,afill,splice,abound,asI,elems,IntKind.bits,sortT,eqNil,closedL,allByte,patch,pendOK,numA,Value.cells,Value.oneCell',ibin,List.replicate,Option.elim,Nat.reduceAdd,Nat.reduceSub,Nat.reduceMul,Nat.reduceLT,Nat.reduceEqDiff,Nat.reduceLeDiff,Nat.reduceBEq,Int.reduceLE,Int.reduceLT,Int.reduceToNat,Int.reduceBNe,Int.reduceBEq,Int.reduceNeg,Int.reduceEq,Int.reduceNe,Nat.reduceBNe,Int.reduceAdd,Int.reduceSub,Int.reduceMul,Int.reducePow,Nat.reducePow,Int.reduceGT,Int.reduceGE,if_true,if_false,ite_true,ite_false,beq_self_eq_true,BEq.rfl,reduceCtorEq,eq_self,ne_eq,Function.comp_def,beq_iff_eq]
  refine o_Find1 (n := n + 5) ((hi.grw g1).grw (Grw.push s1 [Ob.gone])) hg fun s2 j2 => ?_
  have p0 : s2[s1.length]? = some Ob.gone := j2 _ _ (get_new0 _ _)
  have l0 : s1.length < s2.length := (List.getElem?_eq_some_iff.1 p0).1
  have q0 : ∀ o, (s2.set s1.length o)[s1.length]? = some o := fun o => get_set p0 o
  have q1 : ∀ o o', ((s2.set s1.length o).set s1.length o') = s2.set s1.length o' := fun o o' => List.set_set ..
  have gg : Grw s1 s2 := (Grw.push s1 _).trans j2
  have gs : ∀ o, Grw s1 (s2.set s1.length o) := fun o => gg.set (Nat.le_refl _) o
  have b0 := fun o => gs o _ _ k0
  have b1 := fun o => gs o _ _ k1
  have b2 := fun o => gs o _ _ k2
  have T3 := fun o => (hT.grw g1).grw (gs o)
  have a3 := fun o => (T3 o).at_
  have hu : u < st.length := (List.getElem?_eq_some_iff.1 hT.cl).1
  have hcc : c < st.length := (List.getElem?_eq_some_iff.1 hT.cc).1
  have htb : tb < st.length := (List.getElem?_eq_some_iff.1 hT.at_).1
  have l1 : st.length + 2 < s1.length := (List.getElem?_eq_some_iff.1 k2).1
  have ntu : tb ≠ u := fun he => by have h1 := hT.at_; rw [he, hT.cl] at h1; cases h1
  have ntc : tb ≠ c := fun he => by have h1 := hT.at_; rw [he, hT.cc] at h1; cases h1
  have up := fun o => up_int (e := 32) (v := .agg (cl x y)) Try.underlying89 rfl (T3 o).cl id
  have c5 : ∀ o o', ((s2.set s1.length o).set u o')[s1.length]? = some o := fun o o' => by rw [List.getElem?_set_ne (by omega)]; exact q0 o
  simp only [cl] at up
  simp only [rc, p0, q0, q1, b0, b1, b2, a3, up, c5, evf,↓evp,evq,evr,fxa0,fxa1,fxa2,fxa3,fxa4,fxu,fxn,fxl,↓fxp,lgc,absL,fitL,flatL,ares,ares1,ofVal,unSc,aload,afill,splice,abound,asI,elems,IntKind.bits,sortT,eqNil,closedL,allByte,patch,pendOK,numA,Value.cells,Value.oneCell',ibin,List.replicate,Option.elim,Nat.reduceAdd,Nat.reduceSub,Nat.reduceMul,Nat.reduceLT,Nat.reduceEqDiff,Nat.reduceLeDiff,Nat.reduceBEq,Int.reduceLE,Int.reduceLT,Int.reduceToNat,Int.reduceBNe,Int.reduceBEq,Int.reduceNeg,Int.reduceEq,Int.reduceNe,Nat.reduceBNe,Int.reduceAdd,Int.reduceSub,Int.reduceMul,Int.reducePow,Nat.reducePow,Int.reduceGT,Int.reduceGE,if_true,if_false,ite_true,ite_false,beq_self_eq_true,BEq.rfl,reduceCtorEq,eq_self,ne_eq,Function.comp_def,beq_iff_eq]
  refine c_Cells ?_
  generalize hs4 : s2.set s1.length (Ob.cells [V.sc (.int .i64 x), V.sc (.int .i64 y), V.sc (.int .i64 W), V.sc (.int .i64 H)]) = s4 at c5
  have hb0 := b0 (Ob.cells [V.sc (.int .i64 x), V.sc (.int .i64 y), V.sc (.int .i64 W), V.sc (.int .i64 H)])
  have hb1 := b1 (Ob.cells [V.sc (.int .i64 x), V.sc (.int .i64 y), V.sc (.int .i64 W), V.sc (.int .i64 H)])
  have hT4 := T3 (Ob.cells [V.sc (.int .i64 x), V.sc (.int .i64 y), V.sc (.int .i64 W), V.sc (.int .i64 H)])
  have hg4 := gs (Ob.cells [V.sc (.int .i64 x), V.sc (.int .i64 y), V.sc (.int .i64 W), V.sc (.int .i64 H)])
  rw [hs4] at hb0 hb1 hT4 hg4
  have len4 : s1.length < s4.length := by rw [← hs4, List.length_set]; exact l0
  generalize hs5 : s4.set u _ = s5
  have k5 : ∀ j o, j ≠ u → s4[j]? = some o → s5[j]? = some o := fun j o hj ho => by rw [← hs5, List.getElem?_set_ne (Ne.symm hj)]; exact ho
  have u5 : s5[u]? = some (.map (esI (putI id (.agg (cl x y)) cls))) := by rw [← hs5, List.getElem?_set_self (by omega)]; rfl
  have len5 : s5.length = s4.length := by rw [← hs5, List.length_set]
  have g6 := fun X => Grw.push s5 X
  simp only [evf,↓evp,evq,evr,fxa0,fxa1,fxa2,fxa3,fxa4,fxu,fxn,fxl,↓fxp,lgc,absL,fitL,flatL,ares,ares1,ofVal,unSc,aload,afill,splice,abound,asI,elems,IntKind.bits,sortT,eqNil,closedL,allByte,patch,pendOK,numA,Value.cells,Value.oneCell',ibin,List.replicate,Option.elim,Nat.reduceAdd,Nat.reduceSub,Nat.reduceMul,Nat.reduceLT,Nat.reduceEqDiff,Nat.reduceLeDiff,Nat.reduceBEq,Int.reduceLE,Int.reduceLT,Int.reduceToNat,Int.reduceBNe,Int.reduceBEq,Int.reduceNeg,Int.reduceEq,Int.reduceNe,Nat.reduceBNe,Int.reduceAdd,Int.reduceSub,Int.reduceMul,Int.reducePow,Nat.reducePow,Int.reduceGT,Int.reduceGE,if_true,if_false,ite_true,ite_false,beq_self_eq_true,BEq.rfl,reduceCtorEq,eq_self,ne_eq,Function.comp_def,beq_iff_eq]
  refine claim_loop (n := n + 3) rfl (t3 := st.length) (t4 := st.length + 1) (tb := tb) (ix := ix) (u := u) (c := c) (cc := cc) (id := id) (by simp only [evf, ne_eq, Nat.reduceEqDiff, Nat.reduceLT, not_false_eq_true]) (by simp only [evf, ne_eq, Nat.reduceEqDiff, Nat.reduceLT, not_false_eq_true]) e2 hm hm2 (g6 _ _ _ (k5 _ _ (by omega) hb0)) (g6 _ _ _ (k5 _ _ (by omega) hb1)) (g6 _ _ _ (k5 _ _ ntu hT4.at_)) (g6 _ _ _ (k5 _ _ (Ne.symm huc) hT4.cc)) (get_new0 _ _) (get_new _ _ 1) ?_
  intro s' j4 j5 j6
  refine rfEnd_normal j5 (by decide) ?_
  simp only [evf,↓evp,evq,evr,fxa0,fxa1,fxa2,fxa3,fxa4,fxu,fxn,fxl,↓fxp,lgc,absL,fitL,flatL,ares,ares1,ofVal,unSc,aload,afill,splice,abound,asI,elems,IntKind.bits,sortT,eqNil,closedL,allByte,patch,pendOK,numA,Value.cells,Value.oneCell',ibin,List.replicate,Option.elim,Nat.reduceAdd,Nat.reduceSub,Nat.reduceMul,Nat.reduceLT,Nat.reduceEqDiff,Nat.reduceLeDiff,Nat.reduceBEq,Int.reduceLE,Int.reduceLT,Int.reduceToNat,Int.reduceBNe,Int.reduceBEq,Int.reduceNeg,Int.reduceEq,Int.reduceNe,Nat.reduceBNe,Int.reduceAdd,Int.reduceSub,Int.reduceMul,Int.reducePow,Nat.reducePow,Int.reduceGT,Int.reduceGE,if_true,if_false,ite_true,ite_false,beq_self_eq_true,BEq.rfl,reduceCtorEq,eq_self,ne_eq,Function.comp_def,beq_iff_eq]
  have fin : ∀ (z : Ob) j o, j ≠ s5.length + 1 → s'[j]? = some o → (s'.set (s5.length + 1) z)[j]? = some o := fun z j o hj ho => by rw [List.getElem?_set_ne (Ne.symm hj)]; exact ho
  refine h0 e1 e2 e3 e4 _ ⟨fin _ _ _ (by omega) (j6 _ _ ntc (by omega) (g6 _ _ _ (k5 _ _ ntu hT4.at_))), fin _ _ _ (by omega) (j6 _ _ huc (by omega) (g6 _ _ _ u5)), fin _ _ _ (by omega) j4⟩ ?_
  intro j o ja jb hj
  have lj : j < st.length := (List.getElem?_eq_some_iff.1 hj).1
  exact fin _ _ _ (by omega) (j6 _ _ jb (by omega) (g6 _ _ _ (k5 _ _ ja (hg4 _ _ (g1 _ _ hj)))))
end
end Go.Proofs.Ytgmccnnjpejigaa
