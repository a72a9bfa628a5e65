/- Chapter 5: an index with units: who is met. -/
import Derived.Test.YtgmccnnjpejigaaB9
set_option linter.unusedVariables false
set_option linter.unusedSimpArgs false
set_option maxRecDepth 10000
namespace Go.Proofs.Ytgmccnnjpejigaa
open Go Go.M Go.RowKit
attribute [local congr] acallF_cong aloop_cong bcase_cong resK_cong valK_cong wantK_cong callK_cong xputK_cong qputK_cong resM_cong rfK_cong
attribute [local irreducible] seqK blockK loopK nextK bcase resK valK wantK funK putK dputK xputK qputK callK aops aop acode adraw aloop acallF acall invK resM rfK rfEnd rdEnd rdMid around
/-- Does somebody who is so have the k-th cell? -/
def hitB (sb : Int → Bool) (os : List ((Int × Int) × V)) (c : Int × Int) : Bool := match getC c os with
  | some (.sc (.int .i64 i)) => sb i
  | _ => false
section
variable {n m : Nat} {st s : List Ob} {K : V → List Ob → Prop} {ix a b : Nat} {us : List (Int × V)} {os : List ((Int × Int) × V)} {x y id : Int} {W H : Nat} {sb : Int → Bool} {g : FuncId} {caps : List V}
set_option maxHeartbeats 2000000 in
/-- A round of 'meets'. -/
theorem meets_ylG {ps : Array Tmp} {asg body : Code} (hc : frf (Try.f61.body.getD .skip) = some (ps, asg, body)) {F : Nat → V} {t3 t5 t6 lid : Nat} {p : Option Code} (q3 : F 3 = .ref t3 0) (q5 : F 5 = .ref t5 0) (q6 : F 6 = .ref t6 0)
    (hgs : g ≠ Try.prog.funcs.size) (hint : ∀ c v, getC c os = some v → ∃ i, v = .sc (.int .i64 i))
    (h3 : s[t3]? = some (.cells [.ref ix 0])) (h5 : s[t5]? = some (.cells [.fn (.func g) caps])) (h6 : s[t6]? = some (.cells [.sc (.bool false)])) (hix : s[ix]? = some (.cells [.map a, .map b])) (hb : s[b]? = some (.map (esC os)))
    (hl : s[lid]? = some (.loop .ready p (pl 61) (ofF 60 F) ps.toList asg body))
    (hso : ∀ i s2, (∀ j o, j ≠ lid → s[j]? = some o → s2[j]? = some o) → ∀ K' : V → List Ob → Prop, K' (.sc (.bool (sb i))) s2 → acallF Try.prog pl n m g (.sc (.int .i64 i) :: caps) s2 K')
    (hK : hitB sb os (x, y) = false → ∀ s', s'[lid]? = some (.loop .ready none (pl 61) (ofF 60 F) ps.toList asg body) → (∀ j o, j ≠ lid → s[j]? = some o → s'[j]? = some o) → K (.sc (.bool true)) s')
    (hK2 : hitB sb os (x, y) = true → ∀ s', s'[lid]? = some (.loop .done (some .ret) (pl 61) (ofF 60 F) ps.toList asg body) → s'[t6]? = some (.cells [.sc (.bool true)]) → (∀ j o, j ≠ lid → j ≠ t6 → s[j]? = some o → s'[j]? = some o) → K (.sc (.bool false)) s') :
    acallF Try.prog pl (n + 1) m Try.prog.funcs.size [.yl lid, .agg (cl x y)] s K := by
  simp only [Try.f61, Option.getD_some, frf, Option.some.injEq, Prod.mk.injEq] at hc
  obtain ⟨rfl, rfl, rfl⟩ := hc
  have hbl : b ≠ lid := fun he => by subst he; rw [hb] at hl; cases hl
  refine acallF_yl hl rfl ?_
  rw [show (#[22] : Array Tmp).toList = [22] from rfl, aputs_one (by decide)]
  simp only [cl, evf,↓evp,evq,evr,fxa0,fxa1,fxa2,fxa3,fxa4,fxu,fxn,fxl,↓fxp,lgc,absL,fitL,flatL,ares,ares1,ofVal,unSc,aload,afill,splice,abound,asI,elems,IntKind.bits,sortT,eqNil,closedL,allByte,patch,pendOK,numA,Value.cells,Value.oneCell',ibin,List.replicate,Option.elim,Nat.reduceAdd,Nat.reduceSub,Nat.reduceMul,Nat.reduceLT,Nat.reduceEqDiff,Nat.reduceLeDiff,Nat.reduceBEq,Int.reduceLE,Int.reduceLT,Int.reduceToNat,Int.reduceBNe,Int.reduceBEq,Int.reduceNeg,Int.reduceEq,Int.reduceNe,Nat.reduceBNe,Int.reduceAdd,Int.reduceSub,Int.reduceMul,Int.reducePow,Nat.reducePow,Int.reduceGT,Int.reduceGE,if_true,if_false,ite_true,ite_false,beq_self_eq_true,BEq.rfl,reduceCtorEq,eq_self,ne_eq,Function.comp_def,beq_iff_eq]
  have g0 := Grw.push s [.cells [.sc (.int .i64 x), .sc (.int .i64 y)]]
  have c6 : (s ++ [Ob.cells [V.sc (.int .i64 x), V.sc (.int .i64 y)]])[s.length]? = some (.cells [V.sc (.int .i64 x), V.sc (.int .i64 y)]) := get_new0 _ _
  refine rdMid_ok (g0 _ _ hl) ?_
  generalize hs1 : (s ++ [Ob.cells [V.sc (.int .i64 x), V.sc (.int .i64 y)]]) = s1 at g0 c6
  have nl : s.length ≠ lid := fun he => by subst he; rw [List.getElem?_eq_none (Nat.le_refl _)] at hl; cases hl
  have lt : lid < s1.length := (List.getElem?_eq_some_iff.1 (g0 _ _ hl)).1
  have nc : ∀ (j : Nat) (c : List V), s[j]? = some (.cells c) → j ≠ lid := fun j c hj he => by subst he; rw [hl] at hj; cases hj
  generalize hs2 : s1.set lid _ = s2
  have k : ∀ j o, j ≠ lid → s1[j]? = some o → s2[j]? = some o := fun j o hj ho => by rw [← hs2, List.getElem?_set_ne (Ne.symm hj)]; exact ho
  have d3 := k _ _ (nc _ _ h3) (g0 _ _ h3)
  have d5 := k _ _ (nc _ _ h5) (g0 _ _ h5)
  have d6' := k _ _ (nc _ _ h6) (g0 _ _ h6)
  have di := k _ _ (nc _ _ hix) (g0 _ _ hix)
  have db := k _ _ hbl (g0 _ _ hb)
  have d6 := k _ _ nl c6
  have look := lk_cell (e := 3) (z := .sc (.int .i64 0)) Try.underlying60 (by kernel_rfl) db x y
  have dl : ∀ o, s1.set lid o = s2 → s2[lid]? = some o := fun o ho => by rw [← ho]; exact List.getElem?_set_self lt
  have dl := dl _ hs2
  have ll : lid < s2.length := (List.getElem?_eq_some_iff.1 dl).1
  have fr : ∀ j o, j ≠ lid → s[j]? = some o → s2[j]? = some o := fun j o hj ho => k _ _ hj (g0 _ _ ho)
  cases hq : getC (x, y) os with
  | none =>
    rw [hq] at look
    simp only [q3, d3, di, d6, look, evf,↓evp,evq,evr,fxa0,fxa1,fxa2,fxa3,fxa4,fxu,fxn,fxl,↓fxp,lgc,absL,fitL,flatL,ares,ares1,ofVal,unSc,aload,afill,splice,abound,asI,elems,IntKind.bits,sortT,eqNil,closedL,allByte,patch,pendOK,numA,Value.cells,Value.oneCell',ibin,List.replicate,Option.elim,Nat.reduceAdd,Nat.reduceSub,Nat.reduceMul,Nat.reduceLT,Nat.reduceEqDiff,Nat.reduceLeDiff,Nat.reduceBEq,Int.reduceLE,Int.reduceLT,Int.reduceToNat,Int.reduceBNe,Int.reduceBEq,Int.reduceNeg,Int.reduceEq,Int.reduceNe,Nat.reduceBNe,Int.reduceAdd,Int.reduceSub,Int.reduceMul,Int.reducePow,Nat.reducePow,Int.reduceGT,Int.reduceGE,if_true,if_false,ite_true,ite_false,beq_self_eq_true,BEq.rfl,reduceCtorEq,eq_self,ne_eq,Function.comp_def,beq_iff_eq]
    refine rdEnd_normal dl ?_
    refine hK (by simp only [hitB, hq]) _ ?_ ?_
    · rw [List.getElem?_set_self ll]
    · intro j o hjl ho
      rw [List.getElem?_set_ne (Ne.symm hjl)]
      exact fr _ _ hjl ho
  | some v =>
    obtain ⟨i, rfl⟩ := hint _ _ hq
    rw [hq] at look
    simp only [q3, q5, d3, d5, di, d6, look, evf,↓evp,evq,evr,fxa0,fxa1,fxa2,fxa3,fxa4,fxu,fxn,fxl,↓fxp,lgc,absL,fitL,flatL,ares,ares1,ofVal,unSc,aload,afill,splice,abound,asI,elems,IntKind.bits,sortT,eqNil,closedL,allByte,patch,pendOK,numA,Value.cells,Value.oneCell',ibin,List.replicate,Option.elim,Nat.reduceAdd,Nat.reduceSub,Nat.reduceMul,Nat.reduceLT,Nat.reduceEqDiff,Nat.reduceLeDiff,Nat.reduceBEq,Int.reduceLE,Int.reduceLT,Int.reduceToNat,Int.reduceBNe,Int.reduceBEq,Int.reduceNeg,Int.reduceEq,Int.reduceNe,Nat.reduceBNe,Int.reduceAdd,Int.reduceSub,Int.reduceMul,Int.reducePow,Nat.reducePow,Int.reduceGT,Int.reduceGE,if_true,if_false,ite_true,ite_false,beq_self_eq_true,BEq.rfl,reduceCtorEq,eq_self,ne_eq,Function.comp_def,beq_iff_eq]
    rw [callK_fn hgs]
    refine hso i s2 fr _ ?_
    cases hi : sb i with
    | false =>
      simp only [evf,↓evp,evq,evr,fxa0,fxa1,fxa2,fxa3,fxa4,fxu,fxn,fxl,↓fxp,lgc,absL,fitL,flatL,ares,ares1,ofVal,unSc,aload,afill,splice,abound,asI,elems,IntKind.bits,sortT,eqNil,closedL,allByte,patch,pendOK,numA,Value.cells,Value.oneCell',ibin,List.replicate,Option.elim,Nat.reduceAdd,Nat.reduceSub,Nat.reduceMul,Nat.reduceLT,Nat.reduceEqDiff,Nat.reduceLeDiff,Nat.reduceBEq,Int.reduceLE,Int.reduceLT,Int.reduceToNat,Int.reduceBNe,Int.reduceBEq,Int.reduceNeg,Int.reduceEq,Int.reduceNe,Nat.reduceBNe,Int.reduceAdd,Int.reduceSub,Int.reduceMul,Int.reducePow,Nat.reducePow,Int.reduceGT,Int.reduceGE,if_true,if_false,ite_true,ite_false,beq_self_eq_true,BEq.rfl,reduceCtorEq,eq_self,ne_eq,Function.comp_def,beq_iff_eq]
      refine rdEnd_normal dl ?_
      refine hK (by simp only [hitB, hq, hi]) _ ?_ ?_
      · rw [List.getElem?_set_self ll]
      · intro j o hjl ho
        rw [List.getElem?_set_ne (Ne.symm hjl)]
        exact fr _ _ hjl ho
    | true =>
      have l6 : t6 < s2.length := (List.getElem?_eq_some_iff.1 d6').1
      have n6 := nc _ _ h6
      simp only [q6, d6', evf,↓evp,evq,evr,fxa0,fxa1,fxa2,fxa3,fxa4,fxu,fxn,fxl,↓fxp,lgc,absL,fitL,flatL,ares,ares1,ofVal,unSc,aload,afill,splice,abound,asI,elems,IntKind.bits,sortT,eqNil,closedL,allByte,patch,pendOK,numA,Value.cells,Value.oneCell',ibin,List.replicate,Option.elim,Nat.reduceAdd,Nat.reduceSub,Nat.reduceMul,Nat.reduceLT,Nat.reduceEqDiff,Nat.reduceLeDiff,Nat.reduceBEq,Int.reduceLE,Int.reduceLT,Int.reduceToNat,Int.reduceBNe,Int.reduceBEq,Int.reduceNeg,Int.reduceEq,Int.reduceNe,Nat.reduceBNe,Int.reduceAdd,Int.reduceSub,Int.reduceMul,Int.reducePow,Nat.reducePow,Int.reduceGT,Int.reduceGE,if_true,if_false,ite_true,ite_false,beq_self_eq_true,BEq.rfl,reduceCtorEq,eq_self,ne_eq,Function.comp_def,beq_iff_eq]
      refine rdEnd_ret (by rw [List.getElem?_set_ne n6]; exact dl) ?_
      refine hK2 (by simp only [hitB, hq, hi]) _ ?_ ?_ ?_
      · rw [List.getElem?_set_self (by rw [List.length_set]; exact ll)]
      · rw [List.getElem?_set_ne (Ne.symm n6), List.getElem?_set_self l6]
      · intro j o hjl hj6 ho
        rw [List.getElem?_set_ne (Ne.symm hjl), List.getElem?_set_ne (Ne.symm hj6)]
        exact fr _ _ hjl ho
/-- Does somebody who is so have one of the cells? -/
def anyB (sb : Int → Bool) (os : List ((Int × Int) × V)) (x y : Int) (W k : Nat) : Bool := (List.range k).any fun q => hitB sb os (x + (q % W : Nat), y + (q / W : Nat))
theorem anyB_succ (k : Nat) : anyB sb os x y W (k + 1) = (anyB sb os x y W k || hitB sb os (x + (k % W : Nat), y + (k / W : Nat))) := by
  simp only [anyB, List.range_succ, List.any_append, List.any_cons, List.any_nil, Bool.or_false]
theorem anyB_le {k k' : Nat} (h : k ≤ k') (ha : anyB sb os x y W k = true) : anyB sb os x y W k' = true := by
  simp only [anyB, List.any_eq_true, List.mem_range] at ha ⊢
  obtain ⟨q, h1, h2⟩ := ha
  exact ⟨q, by omega, h2⟩
set_option maxHeartbeats 1000000 in
theorem meets_loopG {ps : Array Tmp} {asg body : Code} (hc : frf (Try.f61.body.getD .skip) = some (ps, asg, body)) {F : Nat → V} {t3 t5 t6 lid rb : Nat} (q3 : F 3 = .ref t3 0) (q5 : F 5 = .ref t5 0) (q6 : F 6 = .ref t6 0)
    (hgs : g ≠ Try.prog.funcs.size) (hint : ∀ c v, getC c os = some v → ∃ i, v = .sc (.int .i64 i))
    (hmay : mayB x y W H = true) (hm : W < m) (hm2 : H < m)
    (h3 : s[t3]? = some (.cells [.ref ix 0])) (h5 : s[t5]? = some (.cells [.fn (.func g) caps])) (h6 : s[t6]? = some (.cells [.sc (.bool false)])) (hix : s[ix]? = some (.cells [.map a, .map b])) (hb : s[b]? = some (.map (esC os))) (hr : s[rb]? = some (.cells (rc x y W H)))
    (hl : s[lid]? = some (.loop .ready none (pl 61) (ofF 60 F) ps.toList asg body))
    (hso : ∀ i s2, (∀ j o, j ≠ lid → s[j]? = some o → s2[j]? = some o) → ∀ K' : V → List Ob → Prop, K' (.sc (.bool (sb i))) s2 → acallF Try.prog pl (n + 2) m g (.sc (.int .i64 i) :: caps) s2 K')
    (hK : anyB sb os x y W (H * W) = false → ∀ s', s'[lid]? = some (.loop .ready none (pl 61) (ofF 60 F) ps.toList asg body) → (∀ j o, j ≠ lid → s[j]? = some o → s'[j]? = some o) → K (.tup []) s')
    (hK2 : anyB sb os x y W (H * W) = true → ∀ s', s'[lid]? = some (.loop .done (some .ret) (pl 61) (ofF 60 F) ps.toList asg body) → s'[t6]? = some (.cells [.sc (.bool true)]) → (∀ j o, j ≠ lid → j ≠ t6 → s[j]? = some o → s'[j]? = some o) → K (.tup []) s') :
    acallF Try.prog pl (n + 4) m 106 [.yl lid, .ref rb 0] s K := by
  have nl : ∀ (j : Nat) (c : List V), s[j]? = some (.cells c) → j ≠ lid := fun j c hj he => by subst he; rw [hl] at hj; cases hj
  have hbl : b ≠ lid := fun he => by subst he; rw [hb] at hl; cases hl
  refine c_Cells1 (x := x) (y := y) (W := W) (H := H) (I := fun k s' => anyB sb os x y W k = false ∧ s'[lid]? = some (.loop .ready none (pl 61) (ofF 60 F) ps.toList asg body) ∧ (∀ j o, j ≠ lid → s[j]? = some o → s'[j]? = some o))
    (J := fun s' => anyB sb os x y W (H * W) = true ∧ s'[lid]? = some (.loop .done (some .ret) (pl 61) (ofF 60 F) ps.toList asg body) ∧ s'[t6]? = some (.cells [.sc (.bool true)]) ∧ (∀ j o, j ≠ lid → j ≠ t6 → s[j]? = some o → s'[j]? = some o))
    hmay hm hm2 (fun k s' h => h.2.2 _ _ (nl _ _ hr) hr) (fun k s1 s2 h g => ⟨h.1, g _ _ h.2.1, fun j o h1 h3 => g _ _ (h.2.2 j o h1 h3)⟩) ⟨rfl, hl, fun j o _ h => h⟩ ?_ (fun s' h => hK h.1 s' h.2.1 h.2.2) (fun s' h => hK2 h.1 s' h.2.1 h.2.2.1 h.2.2.2)
  intro j i s' K' hj hi ⟨e1, e2, e3⟩ hK1 hK3
  have hmod : (j * W + i) % W = i := by rw [Nat.mul_comm, Nat.mul_add_mod, Nat.mod_eq_of_lt hi]
  have hdiv : (j * W + i) / W = j := by rw [Nat.mul_comm, Nat.mul_add_div (by omega), Nat.div_eq_of_lt hi, Nat.add_zero]
  refine meets_ylG (n := n + 2) (sb := sb) hc q3 q5 q6 hgs hint (e3 _ _ (nl _ _ h3) h3) (e3 _ _ (nl _ _ h5) h5) (e3 _ _ (nl _ _ h6) h6) (e3 _ _ (nl _ _ hix) hix) (e3 _ _ hbl hb) e2 (fun i s2 h => hso i s2 fun j o hj ho => h j o hj (e3 j o hj ho)) ?_ ?_
  · intro hh s2 k2 k3
    refine hK1 _ ⟨?_, k2, fun j o h2 h3 => k3 j o h2 (e3 j o h2 h3)⟩
    rw [anyB_succ, e1, hmod, hdiv, hh]
    rfl
  · intro hh s2 k2 k4 k3
    refine hK3 _ ⟨anyB_le (k := j * W + i + 1) ?_ (by rw [anyB_succ, hmod, hdiv, hh, Bool.or_true]), k2, k4, fun j o h2 h4 h3 => k3 j o h2 h4 (e3 j o h2 h3)⟩
    have := Nat.mul_le_mul_right W (show j + 1 ≤ H from hj)
    rw [Nat.add_mul, Nat.one_mul] at this
    omega
set_option maxHeartbeats 1000000 in
theorem o_meets (hgs : g ≠ Try.prog.funcs.size) (hint : ∀ c v, getC c os = some v → ∃ i, v = .sc (.int .i64 i)) (hi : Ix st ix a b us os) (hsm : W * H ≤ 64) (hmay : mayB x y W H = true) (hm : W < m) (hm2 : H < m)
    (hso : ∀ i s2, Grw st s2 → ∀ K' : V → List Ob → Prop, K' (.sc (.bool (sb i))) s2 → acallF Try.prog pl (n + 2) m g (.sc (.int .i64 i) :: caps) s2 K')
    (hK : ∀ s, Grw st s → K (.sc (.bool (anyB sb os x y W (H * W)))) s) : acallF Try.prog pl (n + 5) m 61 [.ref ix 0, .agg (rc x y W H), .fn (.func g) caps] st K := by
  refine acallF_inF Try.func61 rfl rfl Try.ntmps61 (by simp) ?_
  have g1 := Grw.push st [Ob.cells [V.ref ix 0], Ob.cells (rc x y W H), Ob.cells [.fn (.func g) caps], Ob.cells [.sc (.bool false)]]
  have c0 : (st ++ [Ob.cells [V.ref ix 0], Ob.cells (rc x y W H), Ob.cells [.fn (.func g) caps], Ob.cells [.sc (.bool false)]])[st.length]? = some (.cells [V.ref ix 0]) := get_new0 _ _
  have c1 : (st ++ [Ob.cells [V.ref ix 0], Ob.cells (rc x y W H), Ob.cells [.fn (.func g) caps], Ob.cells [.sc (.bool false)]])[st.length + 1]? = some (.cells (rc x y W H)) := get_new _ _ 1
  have c2 : (st ++ [Ob.cells [V.ref ix 0], Ob.cells (rc x y W H), Ob.cells [.fn (.func g) caps], Ob.cells [.sc (.bool false)]])[st.length + 2]? = some (.cells [.fn (.func g) caps]) := get_new _ _ 2
  have c3 : (st ++ [Ob.cells [V.ref ix 0], Ob.cells (rc x y W H), Ob.cells [.fn (.func g) caps], Ob.cells [.sc (.bool false)]])[st.length + 3]? = some (.cells [.sc (.bool false)]) := get_new _ _ 3
  have hi1 := hi.grw g1
  have i1 := hi1.ix
  have e1 : IntKind.i64.wrap ((W : Int) * H) = ((W * H : Nat) : Int) := by rw [show (W : Int) * H = ((W * H : Nat) : Int) from (Int.natCast_mul _ _).symm, IntWalk.i64_in _ (by omega)]
  have d1 : decide (((W * H : Nat) : Int) ≤ 64) = true := decide_eq_true (by omega)
  simp only [rc] at c0 c1 c2 c3 g1 i1 hi1
  simp only [rc, c0, c1, c3, i1, e1, d1, evf,↓evp,evq,evr,fxa0,fxa1,fxa2,fxa3,fxa4,fxu,fxn,fxl,↓fxp,lgc,absL,fitL,flatL,ares,ares1,ofVal,unSc,aload,afill,splice,abound,asI,elems,IntKind.bits,sortT,eqNil,closedL,allByte,patch,pendOK,numA,Value.cells,Value.oneCell',ibin,List.replicate,Option.elim,Nat.reduceAdd,Nat.reduceSub,Nat.reduceMul,Nat.reduceLT,Nat.reduceEqDiff,Nat.reduceLeDiff,Nat.reduceBEq,Int.reduceLE,Int.reduceLT,Int.reduceToNat,Int.reduceBNe,Int.reduceBEq,Int.reduceNeg,Int.reduceEq,Int.reduceNe,Nat.reduceBNe,Int.reduceAdd,Int.reduceSub,Int.reduceMul,Int.reducePow,Nat.reducePow,Int.reduceGT,Int.reduceGE,if_true,if_false,ite_true,ite_false,beq_self_eq_true,BEq.rfl,reduceCtorEq,eq_self,ne_eq,Function.comp_def,beq_iff_eq]
  refine c_Cells ?_
  generalize hs3 : (st ++ [Ob.cells [V.ref ix 0], Ob.cells [V.sc (.int .i64 x), V.sc (.int .i64 y), V.sc (.int .i64 W), V.sc (.int .i64 H)], Ob.cells [.fn (.func g) caps], Ob.cells [.sc (.bool false)]]) = s3 at c0 c1 c2 c3 g1 i1 hi1
  simp only [evf,↓evp,evq,evr,fxa0,fxa1,fxa2,fxa3,fxa4,fxu,fxn,fxl,↓fxp,lgc,absL,fitL,flatL,ares,ares1,ofVal,unSc,aload,afill,splice,abound,asI,elems,IntKind.bits,sortT,eqNil,closedL,allByte,patch,pendOK,numA,Value.cells,Value.oneCell',ibin,List.replicate,Option.elim,Nat.reduceAdd,Nat.reduceSub,Nat.reduceMul,Nat.reduceLT,Nat.reduceEqDiff,Nat.reduceLeDiff,Nat.reduceBEq,Int.reduceLE,Int.reduceLT,Int.reduceToNat,Int.reduceBNe,Int.reduceBEq,Int.reduceNeg,Int.reduceEq,Int.reduceNe,Nat.reduceBNe,Int.reduceAdd,Int.reduceSub,Int.reduceMul,Int.reducePow,Nat.reducePow,Int.reduceGT,Int.reduceGE,if_true,if_false,ite_true,ite_false,beq_self_eq_true,BEq.rfl,reduceCtorEq,eq_self,ne_eq,Function.comp_def,beq_iff_eq]
  have lt3 : st.length + 4 = s3.length := by rw [← hs3]; simp
  have g5 := fun X => Grw.push s3 X
  have hold : ∀ s', (∀ j o, j ≠ s3.length + 1 → j ≠ st.length + 3 → ∀ X, (s3 ++ X)[j]? = some o → s'[j]? = some o) → Grw st s' := fun s' h j o hj => by
    have lj : j < st.length := (List.getElem?_eq_some_iff.1 hj).1
    exact h j o (by omega) (by omega) [] (by rw [List.append_nil]; exact g1 _ _ hj)
  have fin : ∀ (s' : List Ob) (z : Ob) j o, j ≠ s3.length + 1 → s'[j]? = some o → (s'.set (s3.length + 1) z)[j]? = some o := fun s' z j o hj ho => by rw [List.getElem?_set_ne (Ne.symm hj)]; exact ho
  refine meets_loopG (n := n) (sb := sb) (g := g) (caps := caps) rfl (t3 := st.length) (t5 := st.length + 2) (t6 := st.length + 3) (ix := ix) (a := a) (b := b) (os := os) (by simp only [evf, ne_eq, Nat.reduceEqDiff, Nat.reduceLT, not_false_eq_true]) (by simp only [evf, ne_eq, Nat.reduceEqDiff, Nat.reduceLT, not_false_eq_true]) (by simp only [evf, ne_eq, Nat.reduceEqDiff, Nat.reduceLT, not_false_eq_true]) hgs hint hmay hm hm2 (g5 _ _ _ c0) (g5 _ _ _ c2) (g5 _ _ _ c3) (g5 _ _ _ i1) (g5 _ _ _ hi1.os) (get_new0 _ _) (get_new _ _ 1) ?_ ?_ ?_
  · intro i s2 h
    exact hso i s2 fun j o hj => by
      have lj : j < st.length := (List.getElem?_eq_some_iff.1 hj).1
      exact h j o (by omega) (g5 _ _ _ (g1 _ _ hj))
  · intro ha s' j2 j3
    refine rfEnd_normal j2 (by decide) ?_
    generalize hs6 : s'.set (s3.length + 1) _ = s6
    have c6 : s6[st.length + 3]? = some (.cells [.sc (.bool false)]) := by rw [← hs6]; exact fin _ _ _ _ (by omega) (j3 _ _ (by omega) (g5 _ _ _ c3))
    have l6 : st.length + 3 < s6.length := (List.getElem?_eq_some_iff.1 c6).1
    have c7 : ∀ o, (s6.set (st.length + 3) o)[st.length + 3]? = some o := fun o => List.getElem?_set_self l6
    rw [ha] at hK
    simp only [c6, c7, evf,↓evp,evq,evr,fxa0,fxa1,fxa2,fxa3,fxa4,fxu,fxn,fxl,↓fxp,lgc,absL,fitL,flatL,ares,ares1,ofVal,unSc,aload,afill,splice,abound,asI,elems,IntKind.bits,sortT,eqNil,closedL,allByte,patch,pendOK,numA,Value.cells,Value.oneCell',ibin,List.replicate,Option.elim,Nat.reduceAdd,Nat.reduceSub,Nat.reduceMul,Nat.reduceLT,Nat.reduceEqDiff,Nat.reduceLeDiff,Nat.reduceBEq,Int.reduceLE,Int.reduceLT,Int.reduceToNat,Int.reduceBNe,Int.reduceBEq,Int.reduceNeg,Int.reduceEq,Int.reduceNe,Nat.reduceBNe,Int.reduceAdd,Int.reduceSub,Int.reduceMul,Int.reducePow,Nat.reducePow,Int.reduceGT,Int.reduceGE,if_true,if_false,ite_true,ite_false,beq_self_eq_true,BEq.rfl,reduceCtorEq,eq_self,ne_eq,Function.comp_def,beq_iff_eq]
    refine hK _ ?_
    intro j o hj
    have lj : j < st.length := (List.getElem?_eq_some_iff.1 hj).1
    rw [List.getElem?_set_ne (by omega), ← hs6]
    exact fin _ _ _ _ (by omega) (j3 _ _ (by omega) (g5 _ _ _ (g1 _ _ hj)))
  · intro ha s' j2 j4 j3
    refine rfEnd_ret j2 (by decide) ?_
    generalize hs6 : s'.set (s3.length + 1) _ = s6
    have c6 : s6[st.length + 3]? = some (.cells [.sc (.bool true)]) := by rw [← hs6]; exact fin _ _ _ _ (by omega) j4
    rw [ha] at hK
    simp only [c6, evf,↓evp,evq,evr,fxa0,fxa1,fxa2,fxa3,fxa4,fxu,fxn,fxl,↓fxp,lgc,absL,fitL,flatL,ares,ares1,ofVal,unSc,aload,afill,splice,abound,asI,elems,IntKind.bits,sortT,eqNil,closedL,allByte,patch,pendOK,numA,Value.cells,Value.oneCell',ibin,List.replicate,Option.elim,Nat.reduceAdd,Nat.reduceSub,Nat.reduceMul,Nat.reduceLT,Nat.reduceEqDiff,Nat.reduceLeDiff,Nat.reduceBEq,Int.reduceLE,Int.reduceLT,Int.reduceToNat,Int.reduceBNe,Int.reduceBEq,Int.reduceNeg,Int.reduceEq,Int.reduceNe,Nat.reduceBNe,Int.reduceAdd,Int.reduceSub,Int.reduceMul,Int.reducePow,Nat.reducePow,Int.reduceGT,Int.reduceGE,if_true,if_false,ite_true,ite_false,beq_self_eq_true,BEq.rfl,reduceCtorEq,eq_self,ne_eq,Function.comp_def,beq_iff_eq]
    refine hK _ ?_
    intro j o hj
    have lj : j < st.length := (List.getElem?_eq_some_iff.1 hj).1
    rw [← hs6]
    exact fin _ _ _ _ (by omega) (j3 _ _ (by omega) (by omega) (g5 _ _ _ (g1 _ _ hj)))
end
end Go.Proofs.Ytgmccnnjpejigaa
