/- Chapter 4: a world, where it lies; why a building may not be placed. -/
import Derived.Test.YtndjhaeeldegfaaG4
set_option linter.unusedVariables false
set_option linter.unusedSimpArgs false
set_option maxRecDepth 10000
namespace Go.Proofs.Ytndjhaeeldegfaa
open Go Go.M Go.RowKit
attribute [local congr] acallF_cong aloop_cong bcase_cong resK_cong valK_cong wantK_cong callK_cong xputK_cong qputK_cong resM_cong rfK_cong
attribute [local irreducible] seqK blockK loopK nextK bcase resK valK wantK funK putK dputK xputK qputK callK aops aop acode adraw aloop acallF acall invK resM rfK rfEnd rdEnd rdMid around
/-- A world, where it lies. -/
structure Wd (s : List Ob) (wd a b : Nat) (W H : Int) (tv dv : V) (us : List (Int × V)) (os : List ((Int × Int) × V)) : Prop where
  w : s[wd]? = some (.cells [.sc (.int .i64 W), .sc (.int .i64 H), tv, .map a, .map b, dv])
  us : s[a]? = some (.map (esI us))
  os : s[b]? = some (.map (esC os))
/-- Has one of the cells a building? -/
def hitsB (os : List ((Int × Int) × V)) (x y : Int) (W k : Nat) : Bool := (List.range k).any fun q => (getC (x + (q % W : Nat), y + (q / W : Nat)) os).isSome
section
variable {n m : Nat} {st s : List Ob} {K : V → List Ob → Prop} {wd a b : Nat} {WW HH : Int} {tv dv : V} {us : List (Int × V)} {os : List ((Int × Int) × V)} {x y id : Int} {W H : Nat}
theorem Wd.grw (h : Wd st wd a b WW HH tv dv us os) (k : Grw st s) : Wd s wd a b WW HH tv dv us os := ⟨k _ _ h.w, k _ _ h.us, k _ _ h.os⟩
theorem Wd.nwa (h : Wd st wd a b WW HH tv dv us os) : wd ≠ a := fun he => by have h1 := h.w; rw [he, h.us] at h1; cases h1
theorem Wd.nwb (h : Wd st wd a b WW HH tv dv us os) : wd ≠ b := fun he => by have h1 := h.w; rw [he, h.os] at h1; cases h1
theorem w_is1 (hi : Wd st wd a b WW HH tv dv us os) (hK : K (.sc (.bool true)) st) : acallF Try.prog pl (n + 1) m 65 [.ref wd 0] st K := by
  refine acallF_inF Try.func65 rfl rfl Try.ntmps65 (by simp) ?_
  have h1 := hi.w
  simp only [h1, evf,↓evp,evq,evr,fxa0,fxa1,fxa2,fxa3,fxa4,fxu,fxn,fxl,↓fxp,lgc,absL,fitL,flatL,ares,ares1,ofVal,unSc,aload,afill,splice,abound,asI,elems,IntKind.bits,sortT,eqNil,closedL,allByte,patch,pendOK,numA,Value.cells,Value.oneCell',ibin,List.replicate,Option.elim,Nat.reduceAdd,Nat.reduceSub,Nat.reduceMul,Nat.reduceLT,Nat.reduceEqDiff,Nat.reduceLeDiff,Nat.reduceBEq,Int.reduceLE,Int.reduceLT,Int.reduceToNat,Int.reduceBNe,Int.reduceBEq,Int.reduceNeg,Int.reduceEq,Int.reduceNe,Nat.reduceBNe,Int.reduceAdd,Int.reduceSub,Int.reduceMul,Int.reducePow,Nat.reducePow,Int.reduceGT,Int.reduceGE,if_true,if_false,ite_true,ite_false,beq_self_eq_true,BEq.rfl,reduceCtorEq,eq_self,ne_eq,Function.comp_def,beq_iff_eq]
  exact hK
theorem w_All1 (hi : Wd st wd a b WW HH tv dv us os) (hK : ∀ s, Grw st s → K (.agg (rc 0 0 WW HH)) s) : acallF Try.prog pl (n + 2) m 49 [.ref wd 0] st K := by
  refine acallF_inF Try.func49 rfl rfl Try.ntmps49 (by simp) ?_
  have g0 := Grw.push st [.cells (rc 0 0 0 0)]
  have h1 := fun X => ((hi.grw (Grw.push st X)).w)
  simp only [rc] at g0
  simp only [evf,↓evp,evq,evr,fxa0,fxa1,fxa2,fxa3,fxa4,fxu,fxn,fxl,↓fxp,lgc,absL,fitL,flatL,ares,ares1,ofVal,unSc,aload,afill,splice,abound,asI,elems,IntKind.bits,sortT,eqNil,closedL,allByte,patch,pendOK,numA,Value.cells,Value.oneCell',ibin,List.replicate,Option.elim,Nat.reduceAdd,Nat.reduceSub,Nat.reduceMul,Nat.reduceLT,Nat.reduceEqDiff,Nat.reduceLeDiff,Nat.reduceBEq,Int.reduceLE,Int.reduceLT,Int.reduceToNat,Int.reduceBNe,Int.reduceBEq,Int.reduceNeg,Int.reduceEq,Int.reduceNe,Nat.reduceBNe,Int.reduceAdd,Int.reduceSub,Int.reduceMul,Int.reducePow,Nat.reducePow,Int.reduceGT,Int.reduceGE,if_true,if_false,ite_true,ite_false,beq_self_eq_true,BEq.rfl,reduceCtorEq,eq_self,ne_eq,Function.comp_def,beq_iff_eq]
  refine w_is1 (hi.grw g0) ?_
  simp only [h1, get_new, get_new0, M.set_new, M.set_new0, evf,↓evp,evq,evr,fxa0,fxa1,fxa2,fxa3,fxa4,fxu,fxn,fxl,↓fxp,lgc,absL,fitL,flatL,ares,ares1,ofVal,unSc,aload,afill,splice,abound,asI,elems,IntKind.bits,sortT,eqNil,closedL,allByte,patch,pendOK,numA,Value.cells,Value.oneCell',ibin,List.replicate,Option.elim,Nat.reduceAdd,Nat.reduceSub,Nat.reduceMul,Nat.reduceLT,Nat.reduceEqDiff,Nat.reduceLeDiff,Nat.reduceBEq,Int.reduceLE,Int.reduceLT,Int.reduceToNat,Int.reduceBNe,Int.reduceBEq,Int.reduceNeg,Int.reduceEq,Int.reduceNe,Nat.reduceBNe,Int.reduceAdd,Int.reduceSub,Int.reduceMul,Int.reducePow,Nat.reducePow,Int.reduceGT,Int.reduceGE,if_true,if_false,ite_true,ite_false,beq_self_eq_true,BEq.rfl,reduceCtorEq,eq_self,ne_eq,Function.comp_def,beq_iff_eq]
  exact hK _ (Grw.push _ _)
set_option maxHeartbeats 2000000 in
/-- A round of 'May'. -/
theorem may_yl {ps : Array Tmp} {asg body : Code} (hc : frf (Try.f48.body.getD .skip) = some (ps, asg, body)) {F : Nat → V} {t2 t4 lid : Nat} {p : Option Code} (q2 : F 2 = .ref t2 0) (q4 : F 4 = .ref t4 0)
    (h2 : s[t2]? = some (.cells [.ref wd 0])) (h4 : s[t4]? = some (.cells [.sc (.int .i64 0)])) (hix : s[wd]? = some (.cells [.sc (.int .i64 WW), .sc (.int .i64 HH), tv, .map a, .map b, dv])) (hb : s[b]? = some (.map (esC os)))
    (hl : s[lid]? = some (.loop .ready p (pl 48) (ofF 51 F) ps.toList asg body))
    (hK : getC (x, y) os = none → ∀ s', s'[lid]? = some (.loop .ready none (pl 48) (ofF 51 F) ps.toList asg body) → (∀ j o, j ≠ lid → s[j]? = some o → s'[j]? = some o) → K (.sc (.bool true)) s')
    (hK2 : (getC (x, y) os).isSome = true → ∀ s', s'[lid]? = some (.loop .done (some .ret) (pl 48) (ofF 51 F) ps.toList asg body) → s'[t4]? = some (.cells [.sc (.int .i64 6)]) → (∀ j o, j ≠ lid → j ≠ t4 → s[j]? = some o → s'[j]? = some o) → K (.sc (.bool false)) s') :
    acallF Try.prog pl (n + 1) m Try.prog.funcs.size [.yl lid, .agg (cl x y)] s K := by
  simp only [Try.f48, Option.getD_some, frf, Option.some.injEq, Prod.mk.injEq] at hc
  obtain ⟨rfl, rfl, rfl⟩ := hc
  have hbl : b ≠ lid := fun he => by subst he; rw [hb] at hl; cases hl
  refine acallF_yl hl rfl ?_
  rw [show (#[40] : Array Tmp).toList = [40] from rfl, aputs_one (by decide)]
  simp only [cl, evf,↓evp,evq,evr,fxa0,fxa1,fxa2,fxa3,fxa4,fxu,fxn,fxl,↓fxp,lgc,absL,fitL,flatL,ares,ares1,ofVal,unSc,aload,afill,splice,abound,asI,elems,IntKind.bits,sortT,eqNil,closedL,allByte,patch,pendOK,numA,Value.cells,Value.oneCell',ibin,List.replicate,Option.elim,Nat.reduceAdd,Nat.reduceSub,Nat.reduceMul,Nat.reduceLT,Nat.reduceEqDiff,Nat.reduceLeDiff,Nat.reduceBEq,Int.reduceLE,Int.reduceLT,Int.reduceToNat,Int.reduceBNe,Int.reduceBEq,Int.reduceNeg,Int.reduceEq,Int.reduceNe,Nat.reduceBNe,Int.reduceAdd,Int.reduceSub,Int.reduceMul,Int.reducePow,Nat.reducePow,Int.reduceGT,Int.reduceGE,if_true,if_false,ite_true,ite_false,beq_self_eq_true,BEq.rfl,reduceCtorEq,eq_self,ne_eq,Function.comp_def,beq_iff_eq]
  have g0 := Grw.push s [.cells [.sc (.int .i64 x), .sc (.int .i64 y)]]
  have c6 : (s ++ [Ob.cells [V.sc (.int .i64 x), V.sc (.int .i64 y)]])[s.length]? = some (.cells [V.sc (.int .i64 x), V.sc (.int .i64 y)]) := get_new0 _ _
  refine rdMid_ok (g0 _ _ hl) ?_
  generalize hs1 : (s ++ [Ob.cells [V.sc (.int .i64 x), V.sc (.int .i64 y)]]) = s1 at g0 c6
  have nl : s.length ≠ lid := fun he => by subst he; rw [List.getElem?_eq_none (Nat.le_refl _)] at hl; cases hl
  have lt : lid < s1.length := (List.getElem?_eq_some_iff.1 (g0 _ _ hl)).1
  have nc : ∀ (j : Nat) (c : List V), s[j]? = some (.cells c) → j ≠ lid := fun j c hj he => by subst he; rw [hl] at hj; cases hj
  generalize hs2 : s1.set lid _ = s2
  have k : ∀ j o, j ≠ lid → s1[j]? = some o → s2[j]? = some o := fun j o hj ho => by rw [← hs2, List.getElem?_set_ne (Ne.symm hj)]; exact ho
  have d2 := k _ _ (nc _ _ h2) (g0 _ _ h2)
  have d4 := k _ _ (nc _ _ h4) (g0 _ _ h4)
  have di := k _ _ (nc _ _ hix) (g0 _ _ hix)
  have db := k _ _ hbl (g0 _ _ hb)
  have d6 := k _ _ nl c6
  have look := lk_cell (e := 3) (z := .sc (.int .i64 0)) Try.underlying105 (by kernel_rfl) db x y
  have dl : ∀ o, s1.set lid o = s2 → s2[lid]? = some o := fun o ho => by rw [← ho]; exact List.getElem?_set_self lt
  have dl := dl _ hs2
  have ll : lid < s2.length := (List.getElem?_eq_some_iff.1 dl).1
  have fr : ∀ j o, j ≠ lid → s[j]? = some o → s2[j]? = some o := fun j o hj ho => k _ _ hj (g0 _ _ ho)
  cases hq : getC (x, y) os with
  | none =>
    rw [hq] at look
    simp only [q2, d2, di, d6, look, evf,↓evp,evq,evr,fxa0,fxa1,fxa2,fxa3,fxa4,fxu,fxn,fxl,↓fxp,lgc,absL,fitL,flatL,ares,ares1,ofVal,unSc,aload,afill,splice,abound,asI,elems,IntKind.bits,sortT,eqNil,closedL,allByte,patch,pendOK,numA,Value.cells,Value.oneCell',ibin,List.replicate,Option.elim,Nat.reduceAdd,Nat.reduceSub,Nat.reduceMul,Nat.reduceLT,Nat.reduceEqDiff,Nat.reduceLeDiff,Nat.reduceBEq,Int.reduceLE,Int.reduceLT,Int.reduceToNat,Int.reduceBNe,Int.reduceBEq,Int.reduceNeg,Int.reduceEq,Int.reduceNe,Nat.reduceBNe,Int.reduceAdd,Int.reduceSub,Int.reduceMul,Int.reducePow,Nat.reducePow,Int.reduceGT,Int.reduceGE,if_true,if_false,ite_true,ite_false,beq_self_eq_true,BEq.rfl,reduceCtorEq,eq_self,ne_eq,Function.comp_def,beq_iff_eq]
    refine rdEnd_normal dl ?_
    refine hK hq _ ?_ ?_
    · rw [List.getElem?_set_self ll]
    · intro j o hjl ho
      rw [List.getElem?_set_ne (Ne.symm hjl)]
      exact fr _ _ hjl ho
  | some v =>
    rw [hq] at look
    have l4 : t4 < s2.length := (List.getElem?_eq_some_iff.1 d4).1
    have n4 := nc _ _ h4
    simp only [q2, q4, d2, d4, di, d6, look, evf,↓evp,evq,evr,fxa0,fxa1,fxa2,fxa3,fxa4,fxu,fxn,fxl,↓fxp,lgc,absL,fitL,flatL,ares,ares1,ofVal,unSc,aload,afill,splice,abound,asI,elems,IntKind.bits,sortT,eqNil,closedL,allByte,patch,pendOK,numA,Value.cells,Value.oneCell',ibin,List.replicate,Option.elim,Nat.reduceAdd,Nat.reduceSub,Nat.reduceMul,Nat.reduceLT,Nat.reduceEqDiff,Nat.reduceLeDiff,Nat.reduceBEq,Int.reduceLE,Int.reduceLT,Int.reduceToNat,Int.reduceBNe,Int.reduceBEq,Int.reduceNeg,Int.reduceEq,Int.reduceNe,Nat.reduceBNe,Int.reduceAdd,Int.reduceSub,Int.reduceMul,Int.reducePow,Nat.reducePow,Int.reduceGT,Int.reduceGE,if_true,if_false,ite_true,ite_false,beq_self_eq_true,BEq.rfl,reduceCtorEq,eq_self,ne_eq,Function.comp_def,beq_iff_eq]
    refine rdEnd_ret (by rw [List.getElem?_set_ne n4]; exact dl) ?_
    refine hK2 (by rw [hq]; rfl) _ ?_ ?_ ?_
    · rw [List.getElem?_set_self (by rw [List.length_set]; exact ll)]
    · rw [List.getElem?_set_ne (Ne.symm n4), List.getElem?_set_self l4]
    · intro j o hjl hj4 ho
      rw [List.getElem?_set_ne (Ne.symm hjl), List.getElem?_set_ne (Ne.symm hj4)]
      exact fr _ _ hjl ho
theorem hitsB_succ (k : Nat) : hitsB os x y W (k + 1) = (hitsB os x y W k || (getC (x + (k % W : Nat), y + (k / W : Nat)) os).isSome) := by
  simp only [hitsB, List.range_succ, List.any_append, List.any_cons, List.any_nil, Bool.or_false]
theorem hitsB_le {k k' : Nat} (h : k ≤ k') (ha : hitsB os x y W k = true) : hitsB os x y W k' = true := by
  simp only [hitsB, List.any_eq_true, List.mem_range] at ha ⊢
  obtain ⟨q, h1, h2⟩ := ha
  exact ⟨q, by omega, h2⟩
set_option maxHeartbeats 1000000 in
theorem may_loop {ps : Array Tmp} {asg body : Code} (hc : frf (Try.f48.body.getD .skip) = some (ps, asg, body)) {F : Nat → V} {t2 t4 lid rb : Nat} (q2 : F 2 = .ref t2 0) (q4 : F 4 = .ref t4 0)
    (hmay : mayB x y W H = true) (hm : W < m) (hm2 : H < m)
    (h2 : s[t2]? = some (.cells [.ref wd 0])) (h4 : s[t4]? = some (.cells [.sc (.int .i64 0)])) (hix : s[wd]? = some (.cells [.sc (.int .i64 WW), .sc (.int .i64 HH), tv, .map a, .map b, dv])) (hb : s[b]? = some (.map (esC os))) (hr : s[rb]? = some (.cells (rc x y W H)))
    (hl : s[lid]? = some (.loop .ready none (pl 48) (ofF 51 F) ps.toList asg body))
    (hK : hitsB os x y W (H * W) = false → ∀ s', s'[lid]? = some (.loop .ready none (pl 48) (ofF 51 F) ps.toList asg body) → (∀ j o, j ≠ lid → s[j]? = some o → s'[j]? = some o) → K (.tup []) s')
    (hK2 : hitsB os x y W (H * W) = true → ∀ s', s'[lid]? = some (.loop .done (some .ret) (pl 48) (ofF 51 F) ps.toList asg body) → s'[t4]? = some (.cells [.sc (.int .i64 6)]) → (∀ j o, j ≠ lid → j ≠ t4 → s[j]? = some o → s'[j]? = some o) → K (.tup []) s') :
    acallF Try.prog pl (n + 4) m 94 [.yl lid, .ref rb 0] s K := by
  have nl : ∀ (j : Nat) (c : List V), s[j]? = some (.cells c) → j ≠ lid := fun j c hj he => by subst he; rw [hl] at hj; cases hj
  have hbl : b ≠ lid := fun he => by subst he; rw [hb] at hl; cases hl
  refine c_Cells1 (x := x) (y := y) (W := W) (H := H) (I := fun k s' => hitsB os x y W k = false ∧ s'[lid]? = some (.loop .ready none (pl 48) (ofF 51 F) ps.toList asg body) ∧ (∀ j o, j ≠ lid → s[j]? = some o → s'[j]? = some o))
    (J := fun s' => hitsB os x y W (H * W) = true ∧ s'[lid]? = some (.loop .done (some .ret) (pl 48) (ofF 51 F) ps.toList asg body) ∧ s'[t4]? = some (.cells [.sc (.int .i64 6)]) ∧ (∀ j o, j ≠ lid → j ≠ t4 → s[j]? = some o → s'[j]? = some o))
    hmay hm hm2 (fun k s' h => h.2.2 _ _ (nl _ _ hr) hr) (fun k s1 s2 h g => ⟨h.1, g _ _ h.2.1, fun j o h1 h3 => g _ _ (h.2.2 j o h1 h3)⟩) ⟨rfl, hl, fun j o _ h => h⟩ ?_ (fun s' h => hK h.1 s' h.2.1 h.2.2) (fun s' h => hK2 h.1 s' h.2.1 h.2.2.1 h.2.2.2)
  intro j i s' K' hj hi ⟨e1, e2, e3⟩ hK1 hK3
  have hmod : (j * W + i) % W = i := by rw [Nat.mul_comm, Nat.mul_add_mod, Nat.mod_eq_of_lt hi]
  have hdiv : (j * W + i) / W = j := by rw [Nat.mul_comm, Nat.mul_add_div (by omega), Nat.div_eq_of_lt hi, Nat.add_zero]
  refine may_yl (n := n + 2) hc q2 q4 (e3 _ _ (nl _ _ h2) h2) (e3 _ _ (nl _ _ h4) h4) (e3 _ _ (nl _ _ hix) hix) (e3 _ _ hbl hb) e2 ?_ ?_
  · intro hh s2 k2 k3
    refine hK1 _ ⟨?_, k2, fun j o h2 h3 => k3 j o h2 (e3 j o h2 h3)⟩
    rw [hitsB_succ, e1, hmod, hdiv, hh]
    rfl
  · intro hh s2 k2 k4 k3
    refine hK3 _ ⟨hitsB_le (k := j * W + i + 1) ?_ (by rw [hitsB_succ, hmod, hdiv, hh, Bool.or_true]), k2, k4, fun j o h2 h4 h3 => k3 j o h2 h4 (e3 j o h2 h3)⟩
    have := Nat.mul_le_mul_right W (show j + 1 ≤ H from hj)
    rw [Nat.add_mul, Nat.one_mul] at this
    omega
end
end Go.Proofs.Ytndjhaeeldegfaa
