/- Chapter 5: an index with units: nobody met. -/
import Derived.Test.YtgmccnnjpejigaaB7
set_option linter.unusedVariables false
set_option linter.unusedSimpArgs false
set_option maxRecDepth 10000
namespace Go.Proofs.Ytgmccnnjpejigaa
open Go Go.M Go.RowKit
attribute [local congr] acallF_cong aloop_cong bcase_cong resK_cong valK_cong wantK_cong callK_cong xputK_cong qputK_cong resM_cong rfK_cong
attribute [local irreducible] seqK blockK loopK nextK bcase resK valK wantK funK putK dputK xputK qputK callK aops aop acode adraw aloop acallF acall invK resM rfK rfEnd rdEnd rdMid around
section
variable {n m : Nat} {st s : List Ob} {K : V → List Ob → Prop} {ix a b : Nat} {us : List (Int × V)} {os : List ((Int × Int) × V)} {x y id : Int} {W H : Nat}
set_option maxHeartbeats 2000000 in
/-- A round of 'meets' at a free cell. -/
theorem meets_yl {ps : Array Tmp} {asg body : Code} (hc : frf (Try.f61.body.getD .skip) = some (ps, asg, body)) {F : Nat → V} {t3 lid : Nat} {p : Option Code} (q3 : F 3 = .ref t3 0)
    (h3 : s[t3]? = some (.cells [.ref ix 0])) (hix : s[ix]? = some (.cells [.map a, .map b])) (hb : s[b]? = some (.map (esC os))) (hfree : getC (x, y) os = none)
    (hl : s[lid]? = some (.loop .ready p (pl 61) (ofF 60 F) ps.toList asg body))
    (hK : ∀ s', s'[lid]? = some (.loop .ready none (pl 61) (ofF 60 F) ps.toList asg body) → (∀ j o, j ≠ lid → s[j]? = some o → s'[j]? = some o) → K (.sc (.bool true)) s') :
    acallF Try.prog pl (n + 1) m Try.prog.funcs.size [.yl lid, .agg (cl x y)] s K := by
  simp only [Try.f61, Option.getD_some, frf, Option.some.injEq, Prod.mk.injEq] at hc
  obtain ⟨rfl, rfl, rfl⟩ := hc
  have hbl : b ≠ lid := fun he => by subst he; rw [hb] at hl; cases hl
  refine acallF_yl hl rfl ?_
  rw [show (#[22] : Array Tmp).toList = [22] from rfl, aputs_one (by decide)]
  simp only [cl, evf,↓evp,evq,evr,fxa0,fxa1,fxa2,fxa3,fxa4,fxu,fxn,fxl,↓fxp,lgc,absL,fitL,flatL,ares,ares1,ofVal,unSc,aload,afill,splice,abound,asI,elems,IntKind.bits,sortT,eqNil,closedL,allByte,patch,pendOK,numA,Value.cells,Value.oneCell',ibin,List.replicate,Option.elim,Nat.reduceAdd,Nat.reduceSub,Nat.reduceMul,Nat.reduceLT,Nat.reduceEqDiff,Nat.reduceLeDiff,Nat.reduceBEq,Int.reduceLE,Int.reduceLT,Int.reduceToNat,Int.reduceBNe,Int.reduceBEq,Int.reduceNeg,Int.reduceEq,Int.reduceNe,Nat.reduceBNe,Int.reduceAdd,Int.reduceSub,Int.reduceMul,Int.reducePow,Nat.reducePow,Int.reduceGT,Int.reduceGE,if_true,if_false,ite_true,ite_false,beq_self_eq_true,BEq.rfl,reduceCtorEq,eq_self,ne_eq,Function.comp_def,beq_iff_eq]
  have g0 := Grw.push s [.cells [.sc (.int .i64 x), .sc (.int .i64 y)]]
  have c6 : (s ++ [Ob.cells [V.sc (.int .i64 x), V.sc (.int .i64 y)]])[s.length]? = some (.cells [V.sc (.int .i64 x), V.sc (.int .i64 y)]) := get_new0 _ _
  refine rdMid_ok (g0 _ _ hl) ?_
  generalize hs1 : (s ++ [Ob.cells [V.sc (.int .i64 x), V.sc (.int .i64 y)]]) = s1 at g0 c6
  have nl : s.length ≠ lid := fun he => by subst he; rw [List.getElem?_eq_none (Nat.le_refl _)] at hl; cases hl
  have lt : lid < s1.length := (List.getElem?_eq_some_iff.1 (g0 _ _ hl)).1
  have n3 : t3 ≠ lid := fun he => by subst he; rw [h3] at hl; cases hl
  have ni : ix ≠ lid := fun he => by subst he; rw [hix] at hl; cases hl
  generalize hs2 : s1.set lid _ = s2
  have k : ∀ j o, j ≠ lid → s1[j]? = some o → s2[j]? = some o := fun j o hj ho => by rw [← hs2, List.getElem?_set_ne (Ne.symm hj)]; exact ho
  have d3 := k _ _ n3 (g0 _ _ h3)
  have di := k _ _ ni (g0 _ _ hix)
  have db := k _ _ hbl (g0 _ _ hb)
  have d6 := k _ _ nl c6
  have look := lk_cell (e := 3) (z := .sc (.int .i64 0)) Try.underlying60 (by kernel_rfl) db x y
  simp only [hfree] at look
  have dl : ∀ o, s1.set lid o = s2 → s2[lid]? = some o := fun o ho => by rw [← ho]; exact List.getElem?_set_self lt
  have dl := dl _ hs2
  have ll : lid < s2.length := (List.getElem?_eq_some_iff.1 dl).1
  simp only [q3, d3, di, d6, look, evf,↓evp,evq,evr,fxa0,fxa1,fxa2,fxa3,fxa4,fxu,fxn,fxl,↓fxp,lgc,absL,fitL,flatL,ares,ares1,ofVal,unSc,aload,afill,splice,abound,asI,elems,IntKind.bits,sortT,eqNil,closedL,allByte,patch,pendOK,numA,Value.cells,Value.oneCell',ibin,List.replicate,Option.elim,Nat.reduceAdd,Nat.reduceSub,Nat.reduceMul,Nat.reduceLT,Nat.reduceEqDiff,Nat.reduceLeDiff,Nat.reduceBEq,Int.reduceLE,Int.reduceLT,Int.reduceToNat,Int.reduceBNe,Int.reduceBEq,Int.reduceNeg,Int.reduceEq,Int.reduceNe,Nat.reduceBNe,Int.reduceAdd,Int.reduceSub,Int.reduceMul,Int.reducePow,Nat.reducePow,Int.reduceGT,Int.reduceGE,if_true,if_false,ite_true,ite_false,beq_self_eq_true,BEq.rfl,reduceCtorEq,eq_self,ne_eq,Function.comp_def,beq_iff_eq]
  refine rdEnd_normal dl ?_
  refine hK _ ?_ ?_
  · rw [List.getElem?_set_self ll]
  · intro j o hjl ho
    rw [List.getElem?_set_ne (Ne.symm hjl)]
    exact k _ _ hjl (g0 _ _ ho)
set_option maxHeartbeats 1000000 in
theorem meets_loop {ps : Array Tmp} {asg body : Code} (hc : frf (Try.f61.body.getD .skip) = some (ps, asg, body)) {F : Nat → V} {t3 lid rb : Nat} (q3 : F 3 = .ref t3 0)
    (hmay : mayB x y W H = true) (hm : W < m) (hm2 : H < m) (hfree : ∀ j i : Nat, j < H → i < W → getC (x + i, y + j) os = none)
    (h3 : s[t3]? = some (.cells [.ref ix 0])) (hix : s[ix]? = some (.cells [.map a, .map b])) (hb : s[b]? = some (.map (esC os))) (hr : s[rb]? = some (.cells (rc x y W H)))
    (hl : s[lid]? = some (.loop .ready none (pl 61) (ofF 60 F) ps.toList asg body))
    (hK : ∀ s', s'[lid]? = some (.loop .ready none (pl 61) (ofF 60 F) ps.toList asg body) → (∀ j o, j ≠ lid → s[j]? = some o → s'[j]? = some o) → K (.tup []) s') :
    acallF Try.prog pl (n + 4) m 106 [.yl lid, .ref rb 0] s K := by
  have nl : ∀ (j : Nat) (c : List V), s[j]? = some (.cells c) → j ≠ lid := fun j c hj he => by subst he; rw [hl] at hj; cases hj
  have hbl : b ≠ lid := fun he => by subst he; rw [hb] at hl; cases hl
  refine c_Cells1 (x := x) (y := y) (W := W) (H := H) (I := fun k s' => s'[lid]? = some (.loop .ready none (pl 61) (ofF 60 F) ps.toList asg body) ∧ (∀ j o, j ≠ lid → s[j]? = some o → s'[j]? = some o)) (J := fun _ => False)
    hmay hm hm2 (fun k s' h => h.2 _ _ (nl _ _ hr) hr) (fun k s1 s2 h g => ⟨g _ _ h.1, fun j o h1 h3 => g _ _ (h.2 j o h1 h3)⟩) ⟨hl, fun j o _ h => h⟩ ?_ (fun s' h => hK s' h.1 h.2) (fun s' h => h.elim)
  intro j i s' K' hj hi ⟨e2, e3⟩ hK1 hK2
  refine meets_yl (n := n + 2) hc q3 (e3 _ _ (nl _ _ h3) h3) (e3 _ _ (nl _ _ hix) hix) (e3 _ _ hbl hb) (hfree j i hj hi) e2 ?_
  intro s2 k2 k3
  exact hK1 _ ⟨k2, fun j o h2 h3 => k3 j o h2 (e3 j o h2 h3)⟩
set_option maxHeartbeats 1000000 in
theorem o_meets0 {so : V} (ho : one so = true) (hs : cellsV so = [so]) (hi : Ix st ix a b us os) (hsm : W * H ≤ 64) (hmay : mayB x y W H = true) (hm : W < m) (hm2 : H < m) (hfree : ∀ j i : Nat, j < H → i < W → getC (x + i, y + j) os = none)
    (hK : ∀ s, Grw st s → K (.sc (.bool false)) s) : acallF Try.prog pl (n + 5) m 61 [.ref ix 0, .agg (rc x y W H), so] st K := by
  refine acallF_inF Try.func61 rfl rfl Try.ntmps61 (by simp) ?_
  have g1 := Grw.push st [Ob.cells [V.ref ix 0], Ob.cells (rc x y W H), Ob.cells [so], Ob.cells [.sc (.bool false)]]
  have c0 : (st ++ [Ob.cells [V.ref ix 0], Ob.cells (rc x y W H), Ob.cells [so], Ob.cells [.sc (.bool false)]])[st.length]? = some (.cells [V.ref ix 0]) := get_new0 _ _
  have c1 : (st ++ [Ob.cells [V.ref ix 0], Ob.cells (rc x y W H), Ob.cells [so], Ob.cells [.sc (.bool false)]])[st.length + 1]? = some (.cells (rc x y W H)) := get_new _ _ 1
  have c3 : (st ++ [Ob.cells [V.ref ix 0], Ob.cells (rc x y W H), Ob.cells [so], Ob.cells [.sc (.bool false)]])[st.length + 3]? = some (.cells [.sc (.bool false)]) := get_new _ _ 3
  have hi1 := hi.grw g1
  have i1 := hi1.ix
  have e1 : IntKind.i64.wrap ((W : Int) * H) = ((W * H : Nat) : Int) := by rw [show (W : Int) * H = ((W * H : Nat) : Int) from (Int.natCast_mul _ _).symm, IntWalk.i64_in _ (by omega)]
  have d1 : decide (((W * H : Nat) : Int) ≤ 64) = true := decide_eq_true (by omega)
  simp only [rc] at c0 c1 c3 g1 i1 hi1
  simp only [rc, ho, hs, c0, c1, c3, i1, e1, d1, evf,↓evp,evq,evr,fxa0,fxa1,fxa2,fxa3,fxa4,fxu,fxn,fxl,↓fxp,lgc,absL,fitL,flatL,ares,ares1,ofVal,unSc,aload,afill,splice,abound,asI,elems,IntKind.bits,sortT,eqNil,closedL,allByte,patch,pendOK,numA,Value.cells,Value.oneCell',ibin,List.replicate,Option.elim,Nat.reduceAdd,Nat.reduceSub,Nat.reduceMul,Nat.reduceLT,Nat.reduceEqDiff,Nat.reduceLeDiff,Nat.reduceBEq,Int.reduceLE,Int.reduceLT,Int.reduceToNat,Int.reduceBNe,Int.reduceBEq,Int.reduceNeg,Int.reduceEq,Int.reduceNe,Nat.reduceBNe,Int.reduceAdd,Int.reduceSub,Int.reduceMul,Int.reducePow,Nat.reducePow,Int.reduceGT,Int.reduceGE,if_true,if_false,ite_true,ite_false,beq_self_eq_true,BEq.rfl,reduceCtorEq,eq_self,ne_eq,Function.comp_def,beq_iff_eq]
  refine c_Cells ?_
  generalize hs3 : (st ++ [Ob.cells [V.ref ix 0], Ob.cells [V.sc (.int .i64 x), V.sc (.int .i64 y), V.sc (.int .i64 W), V.sc (.int .i64 H)], Ob.cells [so], Ob.cells [.sc (.bool false)]]) = s3 at c0 c1 c3 g1 i1 hi1
  simp only [evf,↓evp,evq,evr,fxa0,fxa1,fxa2,fxa3,fxa4,fxu,fxn,fxl,↓fxp,lgc,absL,fitL,flatL,ares,ares1,ofVal,unSc,aload,afill,splice,abound,asI,elems,IntKind.bits,sortT,eqNil,closedL,allByte,patch,pendOK,numA,Value.cells,Value.oneCell',ibin,List.replicate,Option.elim,Nat.reduceAdd,Nat.reduceSub,Nat.reduceMul,Nat.reduceLT,Nat.reduceEqDiff,Nat.reduceLeDiff,Nat.reduceBEq,Int.reduceLE,Int.reduceLT,Int.reduceToNat,Int.reduceBNe,Int.reduceBEq,Int.reduceNeg,Int.reduceEq,Int.reduceNe,Nat.reduceBNe,Int.reduceAdd,Int.reduceSub,Int.reduceMul,Int.reducePow,Nat.reducePow,Int.reduceGT,Int.reduceGE,if_true,if_false,ite_true,ite_false,beq_self_eq_true,BEq.rfl,reduceCtorEq,eq_self,ne_eq,Function.comp_def,beq_iff_eq]
  have lt3 : st.length + 4 = s3.length := by rw [← hs3]; simp
  have g5 := fun X => Grw.push s3 X
  refine meets_loop (n := n) rfl (t3 := st.length) (ix := ix) (a := a) (b := b) (os := os) (by simp only [evf, ne_eq, Nat.reduceEqDiff, Nat.reduceLT, not_false_eq_true]) hmay hm hm2 hfree (g5 _ _ _ c0) (g5 _ _ _ i1) (g5 _ _ _ hi1.os) (get_new0 _ _) (get_new _ _ 1) ?_
  intro s' j2 j3
  have fin : ∀ (z : Ob) j o, j ≠ s3.length + 1 → s'[j]? = some o → (s'.set (s3.length + 1) z)[j]? = some o := fun z j o hj ho => by rw [List.getElem?_set_ne (Ne.symm hj)]; exact ho
  refine rfEnd_normal j2 (by decide) ?_
  generalize hs6 : s'.set (s3.length + 1) _ = s6
  have c6 : s6[st.length + 3]? = some (.cells [.sc (.bool false)]) := by rw [← hs6]; exact fin _ _ _ (by omega) (j3 _ _ (by omega) (g5 _ _ _ c3))
  have l6 : st.length + 3 < s6.length := (List.getElem?_eq_some_iff.1 c6).1
  have c7 : ∀ o, (s6.set (st.length + 3) o)[st.length + 3]? = some o := fun o => List.getElem?_set_self l6
  simp only [c6, c7, evf,↓evp,evq,evr,fxa0,fxa1,fxa2,fxa3,fxa4,fxu,fxn,fxl,↓fxp,lgc,absL,fitL,flatL,ares,ares1,ofVal,unSc,aload,afill,splice,abound,asI,elems,IntKind.bits,sortT,eqNil,closedL,allByte,patch,pendOK,numA,Value.cells,Value.oneCell',ibin,List.replicate,Option.elim,Nat.reduceAdd,Nat.reduceSub,Nat.reduceMul,Nat.reduceLT,Nat.reduceEqDiff,Nat.reduceLeDiff,Nat.reduceBEq,Int.reduceLE,Int.reduceLT,Int.reduceToNat,Int.reduceBNe,Int.reduceBEq,Int.reduceNeg,Int.reduceEq,Int.reduceNe,Nat.reduceBNe,Int.reduceAdd,Int.reduceSub,Int.reduceMul,Int.reducePow,Nat.reducePow,Int.reduceGT,Int.reduceGE,if_true,if_false,ite_true,ite_false,beq_self_eq_true,BEq.rfl,reduceCtorEq,eq_self,ne_eq,Function.comp_def,beq_iff_eq]
  refine hK _ ?_
  intro j o hj
  have lj : j < st.length := (List.getElem?_eq_some_iff.1 hj).1
  rw [List.getElem?_set_ne (by omega), ← hs6]
  exact fin _ _ _ (by omega) (j3 _ _ (by omega) (g5 _ _ _ (g1 _ _ hj)))
end
end Go.Proofs.Ytgmccnnjpejigaa
