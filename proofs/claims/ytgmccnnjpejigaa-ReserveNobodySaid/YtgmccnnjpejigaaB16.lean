/- Chapter 22: a table of claims. -/
import Derived.Test.YtgmccnnjpejigaaB15
set_option linter.unusedVariables false
set_option linter.unusedSimpArgs false
set_option maxRecDepth 10000
namespace Go.Proofs.Ytgmccnnjpejigaa
open Go Go.M Go.RowKit
attribute [local congr] acallF_cong aloop_cong bcase_cong resK_cong valK_cong wantK_cong callK_cong xputK_cong qputK_cong resM_cong rfK_cong
attribute [local irreducible] seqK blockK loopK nextK bcase resK valK wantK funK putK dputK xputK qputK callK aops aop acode adraw aloop acallF acall invK resM rfK rfEnd rdEnd rdMid around
/-- A table of claims, where it lies. -/
structure Tb (s : List Ob) (t ix u c : Nat) (cl : List (Int × V)) (cc : List ((Int × Int) × V)) : Prop where
  at_ : s[t]? = some (.cells [.ref ix 0, .map u, .map c])
  cl : s[u]? = some (.map (esI cl))
  cc : s[c]? = some (.map (esC cc))
/-- Is a cell claimed? -/
def clB (cc : List ((Int × Int) × V)) (c : Int × Int) : Bool := (getC c cc).isSome
def clAny (cc : List ((Int × Int) × V)) (x y : Int) (W k : Nat) : Bool := (List.range k).any fun q => clB cc (x + (q % W : Nat), y + (q / W : Nat))
section
variable {n m : Nat} {st s : List Ob} {K : V → List Ob → Prop} {tb ix a b u c : Nat} {us cls : List (Int × V)} {os cc : List ((Int × Int) × V)} {x y w h id : Int} {W H : Nat}
theorem clAny_succ (k : Nat) : clAny cc x y W (k + 1) = (clAny cc x y W k || clB cc (x + (k % W : Nat), y + (k / W : Nat))) := by
  simp only [clAny, List.range_succ, List.any_append, List.any_cons, List.any_nil, Bool.or_false]
theorem clAny_le {k k' : Nat} (h : k ≤ k') (ha : clAny cc x y W k = true) : clAny cc x y W k' = true := by
  simp only [clAny, List.any_eq_true, List.mem_range] at ha ⊢
  obtain ⟨q, h1, h2⟩ := ha
  exact ⟨q, by omega, h2⟩
theorem Tb.grw (h : Tb st tb ix u c cls cc) (k : Grw st s) : Tb s tb ix u c cls cc := ⟨k _ _ h.at_, k _ _ h.cl, k _ _ h.cc⟩
theorem t_is (hT : Tb st tb ix u c cls cc) (hK : K (.sc (.bool true)) st) : acallF Try.prog pl (n + 1) m 83 [.ref tb 0] st K := by
  refine acallF_inF Try.func83 rfl Try.ntmps83 (by simp) ?_
  have h1 := hT.at_
  simp only [h1, evf,↓evp,evq,evr,fxa0,fxa1,fxa2,fxa3,fxa4,fxu,fxn,fxl,↓fxp,lgc,absL,fitL,flatL,ares,ares1,ofVal,unSc,aload,afill,splice,abound,asI,elems,IntKind.bits,sortT,eqNil,closedL,allByte,patch,pendOK,numA,Value.cells,Value.oneCell',ibin,List.replicate,Option.elim,Nat.reduceAdd,Nat.reduceSub,Nat.reduceMul,Nat.reduceLT,Nat.reduceEqDiff,Nat.reduceLeDiff,Nat.reduceBEq,Int.reduceLE,Int.reduceLT,Int.reduceToNat,Int.reduceBNe,Int.reduceBEq,Int.reduceNeg,Int.reduceEq,Int.reduceNe,Nat.reduceBNe,Int.reduceAdd,Int.reduceSub,Int.reduceMul,Int.reducePow,Nat.reducePow,Int.reduceGT,Int.reduceGE,if_true,if_false,ite_true,ite_false,beq_self_eq_true,BEq.rfl,reduceCtorEq,eq_self,ne_eq,Function.comp_def,beq_iff_eq]
  exact hK
theorem t_Len (hT : Tb st tb ix u c cls cc) (hK : K (.sc (.int .i64 cls.length)) st) : acallF Try.prog pl (n + 2) m 49 [.ref tb 0] st K := by
  refine acallF_inF Try.func49 rfl Try.ntmps49 (by simp) ?_
  have h1 := hT.at_
  have h2 := mlen_at Try.underlying89 hT.cl
  simp only [esI, List.length_map] at h2
  simp only [evf,↓evp,evq,evr,fxa0,fxa1,fxa2,fxa3,fxa4,fxu,fxn,fxl,↓fxp,lgc,absL,fitL,flatL,ares,ares1,ofVal,unSc,aload,afill,splice,abound,asI,elems,IntKind.bits,sortT,eqNil,closedL,allByte,patch,pendOK,numA,Value.cells,Value.oneCell',ibin,List.replicate,Option.elim,Nat.reduceAdd,Nat.reduceSub,Nat.reduceMul,Nat.reduceLT,Nat.reduceEqDiff,Nat.reduceLeDiff,Nat.reduceBEq,Int.reduceLE,Int.reduceLT,Int.reduceToNat,Int.reduceBNe,Int.reduceBEq,Int.reduceNeg,Int.reduceEq,Int.reduceNe,Nat.reduceBNe,Int.reduceAdd,Int.reduceSub,Int.reduceMul,Int.reducePow,Nat.reducePow,Int.reduceGT,Int.reduceGE,if_true,if_false,ite_true,ite_false,beq_self_eq_true,BEq.rfl,reduceCtorEq,eq_self,ne_eq,Function.comp_def,beq_iff_eq]
  refine t_is hT ?_
  simp only [h1, h2, evf,↓evp,evq,evr,fxa0,fxa1,fxa2,fxa3,fxa4,fxu,fxn,fxl,↓fxp,lgc,absL,fitL,flatL,ares,ares1,ofVal,unSc,aload,afill,splice,abound,asI,elems,IntKind.bits,sortT,eqNil,closedL,allByte,patch,pendOK,numA,Value.cells,Value.oneCell',ibin,List.replicate,Option.elim,Nat.reduceAdd,Nat.reduceSub,Nat.reduceMul,Nat.reduceLT,Nat.reduceEqDiff,Nat.reduceLeDiff,Nat.reduceBEq,Int.reduceLE,Int.reduceLT,Int.reduceToNat,Int.reduceBNe,Int.reduceBEq,Int.reduceNeg,Int.reduceEq,Int.reduceNe,Nat.reduceBNe,Int.reduceAdd,Int.reduceSub,Int.reduceMul,Int.reducePow,Nat.reducePow,Int.reduceGT,Int.reduceGE,if_true,if_false,ite_true,ite_false,beq_self_eq_true,BEq.rfl,reduceCtorEq,eq_self,ne_eq,Function.comp_def,beq_iff_eq]
  exact hK
theorem t_New (hK : ∀ s, Tb s (st.length + 2) ix st.length (st.length + 1) [] [] → Grw st s → K (.ref (st.length + 2) 0) s) : acallF Try.prog pl (n + 1) m 46 [.ref ix 0] st K := by
  refine acallF_inF Try.func46 rfl Try.ntmps46 (by simp) ?_
  simp only [evf,↓evp,evq,evr,fxa0,fxa1,fxa2,fxa3,fxa4,fxu,fxn,fxl,↓fxp,lgc,absL,fitL,flatL,ares,ares1,ofVal,unSc,aload,afill,splice,abound,asI,elems,IntKind.bits,sortT,eqNil,closedL,allByte,patch,pendOK,numA,Value.cells,Value.oneCell',ibin,List.replicate,Option.elim,Nat.reduceAdd,Nat.reduceSub,Nat.reduceMul,Nat.reduceLT,Nat.reduceEqDiff,Nat.reduceLeDiff,Nat.reduceBEq,Int.reduceLE,Int.reduceLT,Int.reduceToNat,Int.reduceBNe,Int.reduceBEq,Int.reduceNeg,Int.reduceEq,Int.reduceNe,Nat.reduceBNe,Int.reduceAdd,Int.reduceSub,Int.reduceMul,Int.reducePow,Nat.reducePow,Int.reduceGT,Int.reduceGE,if_true,if_false,ite_true,ite_false,beq_self_eq_true,BEq.rfl,reduceCtorEq,eq_self,ne_eq,Function.comp_def,beq_iff_eq]
  exact hK _ ⟨get_new _ _ 2, get_new _ _ 0, get_new _ _ 1⟩ (Grw.push _ _)
set_option maxHeartbeats 2000000 in
/-- A round of 'May'. -/
theorem may_yl {ps : Array Tmp} {asg body : Code} (hc : frf (Try.f48.body.getD .skip) = some (ps, asg, body)) {F : Nat → V} {t3 t6 lid : Nat} {p : Option Code} (q3 : F 3 = .ref t3 0) (q6 : F 6 = .ref t6 0)
    (h3 : s[t3]? = some (.cells [.ref tb 0])) (h6 : s[t6]? = some (.cells [.sc (.int .i64 0)])) (hT : Tb s tb ix u c cls cc)
    (hl : s[lid]? = some (.loop .ready p (pl 48) (ofF 64 F) ps.toList asg body))
    (hK : clB cc (x, y) = false → ∀ s', s'[lid]? = some (.loop .ready none (pl 48) (ofF 64 F) ps.toList asg body) → (∀ j o, j ≠ lid → s[j]? = some o → s'[j]? = some o) → K (.sc (.bool true)) s')
    (hK2 : clB cc (x, y) = true → ∀ s', s'[lid]? = some (.loop .done (some .ret) (pl 48) (ofF 64 F) ps.toList asg body) → s'[t6]? = some (.cells [.sc (.int .i64 6)]) → (∀ j o, j ≠ lid → j ≠ t6 → s[j]? = some o → s'[j]? = some o) → K (.sc (.bool false)) s') :
    acallF Try.prog pl (n + 1) m Try.prog.funcs.size [.yl lid, .agg (cl x y)] s K := by
  simp only [Try.f48, Option.getD_some, frf, Option.some.injEq, Prod.mk.injEq] at hc
  obtain ⟨rfl, rfl, rfl⟩ := hc
  have hcl : c ≠ lid := fun he => by subst he; rw [hT.cc] at hl; cases hl
  refine acallF_yl hl rfl ?_
  rw [show (#[53] : Array Tmp).toList = [53] from rfl, aputs_one (by decide)]
  simp only [cl, evf,↓evp,evq,evr,fxa0,fxa1,fxa2,fxa3,fxa4,fxu,fxn,fxl,↓fxp,lgc,absL,fitL,flatL,ares,ares1,ofVal,unSc,aload,afill,splice,abound,asI,elems,IntKind.bits,sortT,eqNil,closedL,allByte,patch,pendOK,numA,Value.cells,Value.oneCell',ibin,List.replicate,Option.elim,Nat.reduceAdd,Nat.reduceSub,Nat.reduceMul,Nat.reduceLT,Nat.reduceEqDiff,Nat.reduceLeDiff,Nat.reduceBEq,Int.reduceLE,Int.reduceLT,Int.reduceToNat,Int.reduceBNe,Int.reduceBEq,Int.reduceNeg,Int.reduceEq,Int.reduceNe,Nat.reduceBNe,Int.reduceAdd,Int.reduceSub,Int.reduceMul,Int.reducePow,Nat.reducePow,Int.reduceGT,Int.reduceGE,if_true,if_false,ite_true,ite_false,beq_self_eq_true,BEq.rfl,reduceCtorEq,eq_self,ne_eq,Function.comp_def,beq_iff_eq]
  have g0 := Grw.push s [.cells [.sc (.int .i64 x), .sc (.int .i64 y)]]
  have c6 : (s ++ [Ob.cells [V.sc (.int .i64 x), V.sc (.int .i64 y)]])[s.length]? = some (.cells [V.sc (.int .i64 x), V.sc (.int .i64 y)]) := get_new0 _ _
  refine rdMid_ok (g0 _ _ hl) ?_
  generalize hs1 : (s ++ [Ob.cells [V.sc (.int .i64 x), V.sc (.int .i64 y)]]) = s1 at g0 c6
  have nl : s.length ≠ lid := fun he => by subst he; rw [List.getElem?_eq_none (Nat.le_refl _)] at hl; cases hl
  have lt : lid < s1.length := (List.getElem?_eq_some_iff.1 (g0 _ _ hl)).1
  have nc : ∀ (j : Nat) (c : List V), s[j]? = some (.cells c) → j ≠ lid := fun j c hj he => by subst he; rw [hl] at hj; cases hj
  generalize hs2 : s1.set lid _ = s2
  have k : ∀ j o, j ≠ lid → s1[j]? = some o → s2[j]? = some o := fun j o hj ho => by rw [← hs2, List.getElem?_set_ne (Ne.symm hj)]; exact ho
  have d3 := k _ _ (nc _ _ h3) (g0 _ _ h3)
  have d6' := k _ _ (nc _ _ h6) (g0 _ _ h6)
  have di := k _ _ (nc _ _ hT.at_) (g0 _ _ hT.at_)
  have db := k _ _ hcl (g0 _ _ hT.cc)
  have d6 := k _ _ nl c6
  have look := lk_cell (e := 3) (z := .sc (.int .i64 0)) Try.underlying60 (by kernel_rfl) db x y
  have dl : ∀ o, s1.set lid o = s2 → s2[lid]? = some o := fun o ho => by rw [← ho]; exact List.getElem?_set_self lt
  have dl := dl _ hs2
  have ll : lid < s2.length := (List.getElem?_eq_some_iff.1 dl).1
  have fr : ∀ j o, j ≠ lid → s[j]? = some o → s2[j]? = some o := fun j o hj ho => k _ _ hj (g0 _ _ ho)
  cases hq : getC (x, y) cc with
  | none =>
    rw [hq] at look
    simp only [q3, d3, di, d6, look, evf,↓evp,evq,evr,fxa0,fxa1,fxa2,fxa3,fxa4,fxu,fxn,fxl,↓fxp,lgc,absL,fitL,flatL,ares,ares1,ofVal,unSc,aload,afill,splice,abound,asI,elems,IntKind.bits,sortT,eqNil,closedL,allByte,patch,pendOK,numA,Value.cells,Value.oneCell',ibin,List.replicate,Option.elim,Nat.reduceAdd,Nat.reduceSub,Nat.reduceMul,Nat.reduceLT,Nat.reduceEqDiff,Nat.reduceLeDiff,Nat.reduceBEq,Int.reduceLE,Int.reduceLT,Int.reduceToNat,Int.reduceBNe,Int.reduceBEq,Int.reduceNeg,Int.reduceEq,Int.reduceNe,Nat.reduceBNe,Int.reduceAdd,Int.reduceSub,Int.reduceMul,Int.reducePow,Nat.reducePow,Int.reduceGT,Int.reduceGE,if_true,if_false,ite_true,ite_false,beq_self_eq_true,BEq.rfl,reduceCtorEq,eq_self,ne_eq,Function.comp_def,beq_iff_eq]
    refine rdEnd_normal dl ?_
    refine hK (by simp only [clB, hq]; rfl) _ ?_ ?_
    · rw [List.getElem?_set_self ll]
    · intro j o hjl ho
      rw [List.getElem?_set_ne (Ne.symm hjl)]
      exact fr _ _ hjl ho
  | some v =>
    rw [hq] at look
    have l6 : t6 < s2.length := (List.getElem?_eq_some_iff.1 d6').1
    have n6 := nc _ _ h6
    simp only [q3, q6, d3, di, d6, d6', look, evf,↓evp,evq,evr,fxa0,fxa1,fxa2,fxa3,fxa4,fxu,fxn,fxl,↓fxp,lgc,absL,fitL,flatL,ares,ares1,ofVal,unSc,aload,afill,splice,abound,asI,elems,IntKind.bits,sortT,eqNil,closedL,allByte,patch,pendOK,numA,Value.cells,Value.oneCell',ibin,List.replicate,Option.elim,Nat.reduceAdd,Nat.reduceSub,Nat.reduceMul,Nat.reduceLT,Nat.reduceEqDiff,Nat.reduceLeDiff,Nat.reduceBEq,Int.reduceLE,Int.reduceLT,Int.reduceToNat,Int.reduceBNe,Int.reduceBEq,Int.reduceNeg,Int.reduceEq,Int.reduceNe,Nat.reduceBNe,Int.reduceAdd,Int.reduceSub,Int.reduceMul,Int.reducePow,Nat.reducePow,Int.reduceGT,Int.reduceGE,if_true,if_false,ite_true,ite_false,beq_self_eq_true,BEq.rfl,reduceCtorEq,eq_self,ne_eq,Function.comp_def,beq_iff_eq]
    refine rdEnd_ret (by rw [List.getElem?_set_ne n6]; exact dl) ?_
    refine hK2 (by simp only [clB, hq]; rfl) _ ?_ ?_ ?_
    · rw [List.getElem?_set_self (by rw [List.length_set]; exact ll)]
    · rw [List.getElem?_set_ne (Ne.symm n6), List.getElem?_set_self l6]
    · intro j o hjl hj6 ho
      rw [List.getElem?_set_ne (Ne.symm hjl), List.getElem?_set_ne (Ne.symm hj6)]
      exact fr _ _ hjl ho
set_option maxHeartbeats 1000000 in
theorem may_loop {ps : Array Tmp} {asg body : Code} (hc : frf (Try.f48.body.getD .skip) = some (ps, asg, body)) {F : Nat → V} {t3 t6 lid rb : Nat} (q3 : F 3 = .ref t3 0) (q6 : F 6 = .ref t6 0)
    (hmay : mayB x y W H = true) (hm : W < m) (hm2 : H < m)
    (h3 : s[t3]? = some (.cells [.ref tb 0])) (h6 : s[t6]? = some (.cells [.sc (.int .i64 0)])) (hT : Tb s tb ix u c cls cc) (hr : s[rb]? = some (.cells (rc x y W H)))
    (hl : s[lid]? = some (.loop .ready none (pl 48) (ofF 64 F) ps.toList asg body))
    (hK : clAny cc x y W (H * W) = false → ∀ s', s'[lid]? = some (.loop .ready none (pl 48) (ofF 64 F) ps.toList asg body) → (∀ j o, j ≠ lid → s[j]? = some o → s'[j]? = some o) → K (.tup []) s')
    (hK2 : clAny cc x y W (H * W) = true → ∀ s', s'[lid]? = some (.loop .done (some .ret) (pl 48) (ofF 64 F) ps.toList asg body) → s'[t6]? = some (.cells [.sc (.int .i64 6)]) → (∀ j o, j ≠ lid → j ≠ t6 → s[j]? = some o → s'[j]? = some o) → K (.tup []) s') :
    acallF Try.prog pl (n + 4) m 106 [.yl lid, .ref rb 0] s K := by
  have nl : ∀ (j : Nat) (c : List V), s[j]? = some (.cells c) → j ≠ lid := fun j c hj he => by subst he; rw [hl] at hj; cases hj
  have nm : ∀ (j : Nat) (c : List (Value × V)), s[j]? = some (.map c) → j ≠ lid := fun j c hj he => by subst he; rw [hl] at hj; cases hj
  refine c_Cells1 (x := x) (y := y) (W := W) (H := H) (I := fun k s' => clAny cc x y W k = false ∧ s'[lid]? = some (.loop .ready none (pl 48) (ofF 64 F) ps.toList asg body) ∧ (∀ j o, j ≠ lid → s[j]? = some o → s'[j]? = some o))
    (J := fun s' => clAny cc x y W (H * W) = true ∧ s'[lid]? = some (.loop .done (some .ret) (pl 48) (ofF 64 F) ps.toList asg body) ∧ s'[t6]? = some (.cells [.sc (.int .i64 6)]) ∧ (∀ j o, j ≠ lid → j ≠ t6 → s[j]? = some o → s'[j]? = some o))
    hmay hm hm2 (fun k s' h => h.2.2 _ _ (nl _ _ hr) hr) (fun k s1 s2 h g => ⟨h.1, g _ _ h.2.1, fun j o h1 h3 => g _ _ (h.2.2 j o h1 h3)⟩) ⟨rfl, hl, fun j o _ h => h⟩ ?_ (fun s' h => hK h.1 s' h.2.1 h.2.2) (fun s' h => hK2 h.1 s' h.2.1 h.2.2.1 h.2.2.2)
  intro j i s' K' hj hi ⟨e1, e2, e3⟩ hK1 hK3
  have hmod : (j * W + i) % W = i := by rw [Nat.mul_comm, Nat.mul_add_mod, Nat.mod_eq_of_lt hi]
  have hdiv : (j * W + i) / W = j := by rw [Nat.mul_comm, Nat.mul_add_div (by omega), Nat.div_eq_of_lt hi, Nat.add_zero]
  refine may_yl (n := n + 2) (tb := tb) (ix := ix) (u := u) (c := c) (cls := cls) (cc := cc) hc q3 q6 (e3 _ _ (nl _ _ h3) h3) (e3 _ _ (nl _ _ h6) h6) ⟨e3 _ _ (nl _ _ hT.at_) hT.at_, e3 _ _ (nm _ _ hT.cl) hT.cl, e3 _ _ (nm _ _ hT.cc) hT.cc⟩ e2 ?_ ?_
  · intro hh s2 k2 k3
    refine hK1 _ ⟨?_, k2, fun j o h2 h3 => k3 j o h2 (e3 j o h2 h3)⟩
    rw [clAny_succ, e1, hmod, hdiv, hh]
    rfl
  · intro hh s2 k2 k4 k3
    refine hK3 _ ⟨clAny_le (k := j * W + i + 1) ?_ (by rw [clAny_succ, hmod, hdiv, hh, Bool.or_true]), k2, k4, fun j o h2 h4 h3 => k3 j o h2 h4 (e3 j o h2 h3)⟩
    have := Nat.mul_le_mul_right W (show j + 1 ≤ H from hj)
    rw [Nat.add_mul, Nat.one_mul] at this
    omega
set_option maxHeartbeats 4000000 in
theorem t_May (hint : ∀ c v, getC c os = some v → ∃ i, v = .sc (.int .i64 i)) (hcl : ∀ i v, getI i cls = some v → ∃ x y, v = .agg (cl x y)) (hT : Tb st tb ix u c cls cc) (hi : Ix st ix a b us os) {px py : Int} (hg : getI id us = some (.agg (rc px py W H))) (hsm : W * H ≤ 64) (hm : W < m) (hm2 : H < m)
    (h8 : getI id cls ≠ none → ∀ s, Grw st s → K (.sc (.int .i64 8)) s)
    (h1 : getI id cls = none → mayB x y W H = false → ∀ s, Grw st s → K (.sc (.int .i64 1)) s)
    (h6 : getI id cls = none → mayB x y W H = true → (anyB (fun i => i != id) os x y W (H * W) || clAny cc x y W (H * W)) = true → ∀ s, Grw st s → K (.sc (.int .i64 6)) s)
    (h0 : getI id cls = none → mayB x y W H = true → anyB (fun i => i != id) os x y W (H * W) = false → clAny cc x y W (H * W) = false → ∀ s, Grw st s → K (.sc (.int .i64 0)) s) :
    acallF Try.prog pl (n + 7) m 48 [.ref tb 0, .sc (.int .i64 id), .agg (cl x y)] st K := by
  refine acallF_inF Try.func48 rfl Try.ntmps48 (by simp) ?_
  have gX := fun X => Grw.push st X
  have T1 := fun X => hT.grw (gX X)
  simp only [cl, get_new, get_new0, evf,↓evp,evq,evr,fxa0,fxa1,fxa2,fxa3,fxa4,fxu,fxn,fxl,↓fxp,lgc,absL,fitL,flatL,ares,ares1,ofVal,unSc,aload,afill,splice,abound,asI,elems,IntKind.bits,sortT,eqNil,closedL,allByte,patch,pendOK,numA,Value.cells,Value.oneCell',ibin,List.replicate,Option.elim,Nat.reduceAdd,Nat.reduceSub,Nat.reduceMul,Nat.reduceLT,Nat.reduceEqDiff,Nat.reduceLeDiff,Nat.reduceBEq,Int.reduceLE,Int.reduceLT,Int.reduceToNat,Int.reduceBNe,Int.reduceBEq,Int.reduceNeg,Int.reduceEq,Int.reduceNe,Nat.reduceBNe,Int.reduceAdd,Int.reduceSub,Int.reduceMul,Int.reducePow,Nat.reducePow,Int.reduceGT,Int.reduceGE,if_true,if_false,ite_true,ite_false,beq_self_eq_true,BEq.rfl,reduceCtorEq,eq_self,ne_eq,Function.comp_def,beq_iff_eq]
  refine t_is (n := n + 5) (T1 _) ?_
  have a1 := fun X => (T1 X).at_
  simp only [get_new, get_new0, a1, evf,↓evp,evq,evr,fxa0,fxa1,fxa2,fxa3,fxa4,fxu,fxn,fxl,↓fxp,lgc,absL,fitL,flatL,ares,ares1,ofVal,unSc,aload,afill,splice,abound,asI,elems,IntKind.bits,sortT,eqNil,closedL,allByte,patch,pendOK,numA,Value.cells,Value.oneCell',ibin,List.replicate,Option.elim,Nat.reduceAdd,Nat.reduceSub,Nat.reduceMul,Nat.reduceLT,Nat.reduceEqDiff,Nat.reduceLeDiff,Nat.reduceBEq,Int.reduceLE,Int.reduceLT,Int.reduceToNat,Int.reduceBNe,Int.reduceBEq,Int.reduceNeg,Int.reduceEq,Int.reduceNe,Nat.reduceBNe,Int.reduceAdd,Int.reduceSub,Int.reduceMul,Int.reducePow,Nat.reducePow,Int.reduceGT,Int.reduceGE,if_true,if_false,ite_true,ite_false,beq_self_eq_true,BEq.rfl,reduceCtorEq,eq_self,ne_eq,Function.comp_def,beq_iff_eq]
  refine o_Find1 (n := n + 4) (hi.grw (gX _)) hg fun s1 j1 => ?_
  have k0 := j1 _ _ (get_new0 _ _)
  have k1 := j1 _ _ (get_new _ _ 1)
  have k2 := j1 _ _ (get_new _ _ 2)
  have g1 := (gX _).trans j1
  have hlt : st.length + 2 < s1.length := (List.getElem?_eq_some_iff.1 k2).1
  have T2 := fun X => (hT.grw g1).grw (Grw.push s1 X)
  have a2 := fun X => (T2 X).at_
  have k0' := fun X => Grw.push s1 X _ _ k0
  have k1' := fun X => Grw.push s1 X _ _ k1
  have k2' := fun X => Grw.push s1 X _ _ k2
  have l2 := fun X => lk_int (e := 32) (z := .agg [.sc (.int .i64 0), .sc (.int .i64 0)]) Try.underlying89 (by kernel_rfl) (T2 X).cl id
  have so : ∀ X o, (s1 ++ X).set (st.length + 2) o = s1.set (st.length + 2) o ++ X := fun X o => M.set_old hlt X o
  have q0 : ∀ o X, (s1.set (st.length + 2) o ++ X)[st.length + 2]? = some o := fun o X => by rw [List.getElem?_append_left (by rw [List.length_set]; exact hlt), List.getElem?_set_self hlt]
  have fin : ∀ o X, Grw st (s1.set (st.length + 2) o ++ X) := fun o X => (g1.set (by omega) o).push' X
  cases hq : getI id cls with
  | some v =>
    obtain ⟨vx, vy, rfl⟩ := hcl _ _ hq
    simp only [hq, cl] at l2
    simp only [rc, k0, k1, k2, k0', k1', k2', a2, l2, so, q0, get_new, get_new0, M.set_new0, M.set_new, evf,↓evp,evq,evr,fxa0,fxa1,fxa2,fxa3,fxa4,fxu,fxn,fxl,↓fxp,lgc,absL,fitL,flatL,ares,ares1,ofVal,unSc,aload,afill,splice,abound,asI,elems,IntKind.bits,sortT,eqNil,closedL,allByte,patch,pendOK,numA,Value.cells,Value.oneCell',ibin,List.replicate,Option.elim,Nat.reduceAdd,Nat.reduceSub,Nat.reduceMul,Nat.reduceLT,Nat.reduceEqDiff,Nat.reduceLeDiff,Nat.reduceBEq,Int.reduceLE,Int.reduceLT,Int.reduceToNat,Int.reduceBNe,Int.reduceBEq,Int.reduceNeg,Int.reduceEq,Int.reduceNe,Nat.reduceBNe,Int.reduceAdd,Int.reduceSub,Int.reduceMul,Int.reducePow,Nat.reducePow,Int.reduceGT,Int.reduceGE,if_true,if_false,ite_true,ite_false,beq_self_eq_true,BEq.rfl,reduceCtorEq,eq_self,ne_eq,Function.comp_def,beq_iff_eq]
    exact h8 (by rw [hq]; simp) _ (fin _ _)
  | none =>
    simp only [hq] at l2
    simp only [rc, k0, k1, k2, k0', k1', k2', a2, l2, so, q0, get_new, get_new0, M.set_new0, M.set_new, evf,↓evp,evq,evr,fxa0,fxa1,fxa2,fxa3,fxa4,fxu,fxn,fxl,↓fxp,lgc,absL,fitL,flatL,ares,ares1,ofVal,unSc,aload,afill,splice,abound,asI,elems,IntKind.bits,sortT,eqNil,closedL,allByte,patch,pendOK,numA,Value.cells,Value.oneCell',ibin,List.replicate,Option.elim,Nat.reduceAdd,Nat.reduceSub,Nat.reduceMul,Nat.reduceLT,Nat.reduceEqDiff,Nat.reduceLeDiff,Nat.reduceBEq,Int.reduceLE,Int.reduceLT,Int.reduceToNat,Int.reduceBNe,Int.reduceBEq,Int.reduceNeg,Int.reduceEq,Int.reduceNe,Nat.reduceBNe,Int.reduceAdd,Int.reduceSub,Int.reduceMul,Int.reducePow,Nat.reducePow,Int.reduceGT,Int.reduceGE,if_true,if_false,ite_true,ite_false,beq_self_eq_true,BEq.rfl,reduceCtorEq,eq_self,ne_eq,Function.comp_def,beq_iff_eq]
    refine c_May (n := n + 3) fun s2 j2 => ?_
    have gg : Grw s1 s2 := (Grw.push s1 _).trans j2
    have m0 := gg _ _ k0
    have m1 := gg _ _ k1
    have m2 := gg _ _ k2
    have m3 := j2 _ _ (get_new0 _ _)
    have hl2 : st.length + 2 < s2.length := (List.getElem?_eq_some_iff.1 m2).1
    have g2 := g1.trans gg
    have q2 : ∀ o, (s2.set (st.length + 2) o)[st.length + 2]? = some o := fun o => get_set m2 o
    cases e1 : mayB x y W H
    · simp only [m2, q2, evf,↓evp,evq,evr,fxa0,fxa1,fxa2,fxa3,fxa4,fxu,fxn,fxl,↓fxp,lgc,absL,fitL,flatL,ares,ares1,ofVal,unSc,aload,afill,splice,abound,asI,elems,IntKind.bits,sortT,eqNil,closedL,allByte,patch,pendOK,numA,Value.cells,Value.oneCell',ibin,List.replicate,Option.elim,Nat.reduceAdd,Nat.reduceSub,Nat.reduceMul,Nat.reduceLT,Nat.reduceEqDiff,Nat.reduceLeDiff,Nat.reduceBEq,Int.reduceLE,Int.reduceLT,Int.reduceToNat,Int.reduceBNe,Int.reduceBEq,Int.reduceNeg,Int.reduceEq,Int.reduceNe,Nat.reduceBNe,Int.reduceAdd,Int.reduceSub,Int.reduceMul,Int.reducePow,Nat.reducePow,Int.reduceGT,Int.reduceGE,if_true,if_false,ite_true,ite_false,beq_self_eq_true,BEq.rfl,reduceCtorEq,eq_self,ne_eq,Function.comp_def,beq_iff_eq]
      exact h1 hq e1 _ (g2.set (by omega) _)
    have T3 := hT.grw g2
    have a3 := T3.at_
    simp only [m0, m1, m2, m3, a3, evf,↓evp,evq,evr,fxa0,fxa1,fxa2,fxa3,fxa4,fxu,fxn,fxl,↓fxp,lgc,absL,fitL,flatL,ares,ares1,ofVal,unSc,aload,afill,splice,abound,asI,elems,IntKind.bits,sortT,eqNil,closedL,allByte,patch,pendOK,numA,Value.cells,Value.oneCell',ibin,List.replicate,Option.elim,Nat.reduceAdd,Nat.reduceSub,Nat.reduceMul,Nat.reduceLT,Nat.reduceEqDiff,Nat.reduceLeDiff,Nat.reduceBEq,Int.reduceLE,Int.reduceLT,Int.reduceToNat,Int.reduceBNe,Int.reduceBEq,Int.reduceNeg,Int.reduceEq,Int.reduceNe,Nat.reduceBNe,Int.reduceAdd,Int.reduceSub,Int.reduceMul,Int.reducePow,Nat.reducePow,Int.reduceGT,Int.reduceGE,if_true,if_false,ite_true,ite_false,beq_self_eq_true,BEq.rfl,reduceCtorEq,eq_self,ne_eq,Function.comp_def,beq_iff_eq]
    refine o_Free1 (n := n) hint (hi.grw g2) hsm hm hm2 fun s3 j3 => ?_
    have n0 := j3 _ _ m0
    have n1 := j3 _ _ m1
    have n2 := j3 _ _ m2
    have n3 := j3 _ _ m3
    have hl3 : st.length + 2 < s3.length := (List.getElem?_eq_some_iff.1 n2).1
    have g3 := g2.trans j3
    have q3 : ∀ o, (s3.set (st.length + 2) o)[st.length + 2]? = some o := fun o => get_set n2 o
    simp only [e1, Bool.true_and]
    cases e2 : anyB (fun i => i != id) os x y W (H * W)
    case true =>
      simp only [n2, q3, evf,↓evp,evq,evr,fxa0,fxa1,fxa2,fxa3,fxa4,fxu,fxn,fxl,↓fxp,lgc,absL,fitL,flatL,ares,ares1,ofVal,unSc,aload,afill,splice,abound,asI,elems,IntKind.bits,sortT,eqNil,closedL,allByte,patch,pendOK,numA,Value.cells,Value.oneCell',ibin,List.replicate,Option.elim,Nat.reduceAdd,Nat.reduceSub,Nat.reduceMul,Nat.reduceLT,Nat.reduceEqDiff,Nat.reduceLeDiff,Nat.reduceBEq,Int.reduceLE,Int.reduceLT,Int.reduceToNat,Int.reduceBNe,Int.reduceBEq,Int.reduceNeg,Int.reduceEq,Int.reduceNe,Nat.reduceBNe,Int.reduceAdd,Int.reduceSub,Int.reduceMul,Int.reducePow,Nat.reducePow,Int.reduceGT,Int.reduceGE,if_true,if_false,ite_true,ite_false,beq_self_eq_true,BEq.rfl,reduceCtorEq,eq_self,ne_eq,Function.comp_def,beq_iff_eq]
      exact h6 hq e1 (by rw [e2]; rfl) _ (g3.set (by omega) _)
    simp only [n0, n1, n2, n3, evf,↓evp,evq,evr,fxa0,fxa1,fxa2,fxa3,fxa4,fxu,fxn,fxl,↓fxp,lgc,absL,fitL,flatL,ares,ares1,ofVal,unSc,aload,afill,splice,abound,asI,elems,IntKind.bits,sortT,eqNil,closedL,allByte,patch,pendOK,numA,Value.cells,Value.oneCell',ibin,List.replicate,Option.elim,Nat.reduceAdd,Nat.reduceSub,Nat.reduceMul,Nat.reduceLT,Nat.reduceEqDiff,Nat.reduceLeDiff,Nat.reduceBEq,Int.reduceLE,Int.reduceLT,Int.reduceToNat,Int.reduceBNe,Int.reduceBEq,Int.reduceNeg,Int.reduceEq,Int.reduceNe,Nat.reduceBNe,Int.reduceAdd,Int.reduceSub,Int.reduceMul,Int.reducePow,Nat.reducePow,Int.reduceGT,Int.reduceGE,if_true,if_false,ite_true,ite_false,beq_self_eq_true,BEq.rfl,reduceCtorEq,eq_self,ne_eq,Function.comp_def,beq_iff_eq]
    refine c_Cells ?_
    have g5 := fun X => Grw.push s3 X
    have T4 := fun X => (hT.grw g3).grw (g5 X)
    simp only [evf,↓evp,evq,evr,fxa0,fxa1,fxa2,fxa3,fxa4,fxu,fxn,fxl,↓fxp,lgc,absL,fitL,flatL,ares,ares1,ofVal,unSc,aload,afill,splice,abound,asI,elems,IntKind.bits,sortT,eqNil,closedL,allByte,patch,pendOK,numA,Value.cells,Value.oneCell',ibin,List.replicate,Option.elim,Nat.reduceAdd,Nat.reduceSub,Nat.reduceMul,Nat.reduceLT,Nat.reduceEqDiff,Nat.reduceLeDiff,Nat.reduceBEq,Int.reduceLE,Int.reduceLT,Int.reduceToNat,Int.reduceBNe,Int.reduceBEq,Int.reduceNeg,Int.reduceEq,Int.reduceNe,Nat.reduceBNe,Int.reduceAdd,Int.reduceSub,Int.reduceMul,Int.reducePow,Nat.reducePow,Int.reduceGT,Int.reduceGE,if_true,if_false,ite_true,ite_false,beq_self_eq_true,BEq.rfl,reduceCtorEq,eq_self,ne_eq,Function.comp_def,beq_iff_eq]
    refine may_loop (n := n + 2) rfl (t3 := st.length) (t6 := st.length + 2) (by simp only [evf, ne_eq, Nat.reduceEqDiff, Nat.reduceLT, not_false_eq_true]) (by simp only [evf, ne_eq, Nat.reduceEqDiff, Nat.reduceLT, not_false_eq_true]) e1 hm hm2 (g5 _ _ _ n0) (g5 _ _ _ n2) (T4 _) (get_new0 _ _) (get_new _ _ 1) ?_ ?_
    · intro ha s' j4 j5
      refine rfEnd_normal j4 (by decide) ?_
      generalize hs6 : s'.set (s3.length + 1) _ = s6
      have fin6 : ∀ j o, j ≠ s3.length + 1 → s'[j]? = some o → s6[j]? = some o := fun j o hj ho => by rw [← hs6, List.getElem?_set_ne (Ne.symm hj)]; exact ho
      have c6 := fin6 _ _ (by omega) (j5 _ _ (by omega) (g5 _ _ _ n2))
      have c7 : ∀ o, (s6.set (st.length + 2) o)[st.length + 2]? = some o := fun o => get_set c6 o
      simp only [c6, c7, evf,↓evp,evq,evr,fxa0,fxa1,fxa2,fxa3,fxa4,fxu,fxn,fxl,↓fxp,lgc,absL,fitL,flatL,ares,ares1,ofVal,unSc,aload,afill,splice,abound,asI,elems,IntKind.bits,sortT,eqNil,closedL,allByte,patch,pendOK,numA,Value.cells,Value.oneCell',ibin,List.replicate,Option.elim,Nat.reduceAdd,Nat.reduceSub,Nat.reduceMul,Nat.reduceLT,Nat.reduceEqDiff,Nat.reduceLeDiff,Nat.reduceBEq,Int.reduceLE,Int.reduceLT,Int.reduceToNat,Int.reduceBNe,Int.reduceBEq,Int.reduceNeg,Int.reduceEq,Int.reduceNe,Nat.reduceBNe,Int.reduceAdd,Int.reduceSub,Int.reduceMul,Int.reducePow,Nat.reducePow,Int.reduceGT,Int.reduceGE,if_true,if_false,ite_true,ite_false,beq_self_eq_true,BEq.rfl,reduceCtorEq,eq_self,ne_eq,Function.comp_def,beq_iff_eq]
      refine h0 hq e1 e2 ha _ ?_
      intro j o hj
      have lj : j < st.length := (List.getElem?_eq_some_iff.1 hj).1
      rw [List.getElem?_set_ne (by omega)]
      exact fin6 _ _ (by omega) (j5 _ _ (by omega) (g5 _ _ _ (g3 _ _ hj)))
    · intro ha s' j4 j6 j5
      refine rfEnd_ret j4 (by decide) ?_
      generalize hs6 : s'.set (s3.length + 1) _ = s6
      have fin6 : ∀ j o, j ≠ s3.length + 1 → s'[j]? = some o → s6[j]? = some o := fun j o hj ho => by rw [← hs6, List.getElem?_set_ne (Ne.symm hj)]; exact ho
      have c6 := fin6 _ _ (by omega) j6
      simp only [c6, evf,↓evp,evq,evr,fxa0,fxa1,fxa2,fxa3,fxa4,fxu,fxn,fxl,↓fxp,lgc,absL,fitL,flatL,ares,ares1,ofVal,unSc,aload,afill,splice,abound,asI,elems,IntKind.bits,sortT,eqNil,closedL,allByte,patch,pendOK,numA,Value.cells,Value.oneCell',ibin,List.replicate,Option.elim,Nat.reduceAdd,Nat.reduceSub,Nat.reduceMul,Nat.reduceLT,Nat.reduceEqDiff,Nat.reduceLeDiff,Nat.reduceBEq,Int.reduceLE,Int.reduceLT,Int.reduceToNat,Int.reduceBNe,Int.reduceBEq,Int.reduceNeg,Int.reduceEq,Int.reduceNe,Nat.reduceBNe,Int.reduceAdd,Int.reduceSub,Int.reduceMul,Int.reducePow,Nat.reducePow,Int.reduceGT,Int.reduceGE,if_true,if_false,ite_true,ite_false,beq_self_eq_true,BEq.rfl,reduceCtorEq,eq_self,ne_eq,Function.comp_def,beq_iff_eq]
      refine h6 hq e1 (by rw [ha, Bool.or_true]) _ ?_
      intro j o hj
      have lj : j < st.length := (List.getElem?_eq_some_iff.1 hj).1
      exact fin6 _ _ (by omega) (j5 _ _ (by omega) (by omega) (g5 _ _ _ (g3 _ _ hj)))
end
end Go.Proofs.Ytgmccnnjpejigaa
