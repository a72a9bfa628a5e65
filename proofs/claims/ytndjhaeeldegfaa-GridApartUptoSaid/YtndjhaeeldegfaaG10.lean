/- Chapter 4: a map's world: copies of slices. -/
import Derived.Test.YtndjhaeeldegfaaG9
set_option linter.unusedVariables false
set_option linter.unusedSimpArgs false
set_option maxRecDepth 10000
namespace Go.Proofs.Ytndjhaeeldegfaa
open Go Go.M Go.RowKit
attribute [local congr] acallF_cong aloop_cong bcase_cong resK_cong valK_cong wantK_cong callK_cong xputK_cong qputK_cong resM_cong rfK_cong
attribute [local irreducible] seqK blockK loopK nextK bcase resK valK wantK funK putK dputK xputK qputK callK aops aop acode adraw aloop acallF acall invK resM rfK rfEnd rdEnd rdMid around
structure B4 where
  id : Int
  x : Int
  y : Int
  w : Int
  h : Int
def B4.v (u : B4) : List V := bd u.id u.x u.y u.w u.h
theorem closed_bd : ∀ L : List B4, closedL (L.flatMap B4.v) = true
  | [] => rfl
  | u :: L => by
    have := closed_bd L
    simp only [List.flatMap_cons, B4.v, bd, rc, List.cons_append, List.nil_append, closedL, closed, Bool.true_and]
    exact this
theorem closed_bs : ∀ l : List Int, closedL (bs l) = true
  | [] => rfl
  | n :: l => by
    have := closed_bs l
    simp only [bs, List.map_cons, closedL, closed, Bool.true_and] at this ⊢
    exact this
theorem rd_nil {P : Program} {s : List Ob} {e : TypeId} {v : V} {xs : List V} {n : Nat} (h : Rd P s e v xs n) (hv : nilV v = true) : n = 0 := by
  rcases h.cases with ⟨nil, full, rfl⟩ | ⟨id, off, full, gg, ys, m, lo, fz, s', rfl, h1, h2, h3, hxs⟩
  · exact h.2.1.2 hv
  · cases hv
section
variable {n m : Nat} {st s : List Ob} {K : V → List Ob → Prop} {v : V} {xs : List V} {k : Nat}
theorem c_cloneB (h : Rd Try.prog st 5 v xs k) (hc : closedL xs = true) (hl : k ≤ 4000000000000) (hK : ∀ v' s, Gl s 5 v' xs k → Grw st s → (∀ j, rowOf v' = some j → st.length ≤ j) → K v' s) : acallF Try.prog pl (n + 1) m 69 [v] st K := by
  refine acallF_inF Try.func69 rfl rfl Try.ntmps69 (by simp) ?_
  have e := fun x y => abin_nileq h Try.underlying62 x y [] 0 true
  cases hv : nilV v
  · have hx := (h.grw (Grw.push st [Ob.row 5 [] 0 0 false])).1
    have ap := append_own (st := st ++ [Ob.row 5 [] 0 0 false]) (id := st.length) (get_new0 _ _) (Nat.zero_le _) Try.underlying62 sz5 by5 ze5 (by omega) rfl hx hc (h.2.2 _ sz5) (by omega) (by omega)
    rw [M.set_new0] at ap
    simp only [Nat.zero_add, List.nil_append, List.set_cons_zero] at ap
    simp only [e, hv, ap, evf,↓evp,evq,evr,fxa0,fxa1,fxa2,fxa3,fxa4,fxu,fxn,fxl,↓fxp,lgc,absL,fitL,flatL,ares,ares1,ofVal,unSc,aload,afill,splice,abound,asI,elems,IntKind.bits,sortT,eqNil,closedL,allByte,patch,pendOK,numA,Value.cells,Value.oneCell',ibin,List.replicate,Option.elim,Nat.reduceAdd,Nat.reduceSub,Nat.reduceMul,Nat.reduceLT,Nat.reduceEqDiff,Nat.reduceLeDiff,Nat.reduceBEq,Int.reduceLE,Int.reduceLT,Int.reduceToNat,Int.reduceBNe,Int.reduceBEq,Int.reduceNeg,Int.reduceEq,Int.reduceNe,Nat.reduceBNe,Int.reduceAdd,Int.reduceSub,Int.reduceMul,Int.reducePow,Nat.reducePow,Int.reduceGT,Int.reduceGE,if_true,if_false,ite_true,ite_false,beq_self_eq_true,BEq.rfl,reduceCtorEq,eq_self,ne_eq,Function.comp_def,beq_iff_eq]
    exact hK _ _ (.inr ⟨_, 0, rfl, get_new0 _ _, Nat.zero_le _⟩) (Grw.push _ _) fun j hj => by simp only [rowOf, Option.some.injEq] at hj; omega
  · have hk := rd_nil h hv
    subst hk
    have hx : xs = [] := by have := h.2.2 _ sz5; simpa using this
    subst hx
    simp only [e, hv, evf,↓evp,evq,evr,fxa0,fxa1,fxa2,fxa3,fxa4,fxu,fxn,fxl,↓fxp,lgc,absL,fitL,flatL,ares,ares1,ofVal,unSc,aload,afill,splice,abound,asI,elems,IntKind.bits,sortT,eqNil,closedL,allByte,patch,pendOK,numA,Value.cells,Value.oneCell',ibin,List.replicate,Option.elim,Nat.reduceAdd,Nat.reduceSub,Nat.reduceMul,Nat.reduceLT,Nat.reduceEqDiff,Nat.reduceLeDiff,Nat.reduceBEq,Int.reduceLE,Int.reduceLT,Int.reduceToNat,Int.reduceBNe,Int.reduceBEq,Int.reduceNeg,Int.reduceEq,Int.reduceNe,Nat.reduceBNe,Int.reduceAdd,Int.reduceSub,Int.reduceMul,Int.reducePow,Nat.reducePow,Int.reduceGT,Int.reduceGE,if_true,if_false,ite_true,ite_false,beq_self_eq_true,BEq.rfl,reduceCtorEq,eq_self,ne_eq,Function.comp_def,beq_iff_eq]
    exact hK _ _ (.inl ⟨rfl, rfl, rfl⟩) (fun _ _ h => h) fun j hj => by cases hj
theorem c_cloneR (h : Rd Try.prog st 78 v xs k) (hc : closedL xs = true) (hl : k ≤ 4000000000000) (hK : ∀ v' s, Gl s 78 v' xs k → Grw st s → (∀ j, rowOf v' = some j → st.length ≤ j) → K v' s) : acallF Try.prog pl (n + 1) m 67 [v] st K := by
  refine acallF_inF Try.func67 rfl rfl Try.ntmps67 (by simp) ?_
  have e := fun x y => abin_nileq h Try.underlying83 x y [] 0 true
  cases hv : nilV v
  · have hx := (h.grw (Grw.push st [Ob.row 78 [] 0 0 false])).1
    have ap := append_own (st := st ++ [Ob.row 78 [] 0 0 false]) (id := st.length) (get_new0 _ _) (Nat.zero_le _) Try.underlying83 sz78 by78 ze78 (by omega) rfl hx hc (h.2.2 _ sz78) (by omega) (by omega)
    rw [M.set_new0] at ap
    simp only [Nat.zero_add, List.nil_append, List.set_cons_zero] at ap
    simp only [e, hv, ap, evf,↓evp,evq,evr,fxa0,fxa1,fxa2,fxa3,fxa4,fxu,fxn,fxl,↓fxp,lgc,absL,fitL,flatL,ares,ares1,ofVal,unSc,aload,afill,splice,abound,asI,elems,IntKind.bits,sortT,eqNil,closedL,allByte,patch,pendOK,numA,Value.cells,Value.oneCell',ibin,List.replicate,Option.elim,Nat.reduceAdd,Nat.reduceSub,Nat.reduceMul,Nat.reduceLT,Nat.reduceEqDiff,Nat.reduceLeDiff,Nat.reduceBEq,Int.reduceLE,Int.reduceLT,Int.reduceToNat,Int.reduceBNe,Int.reduceBEq,Int.reduceNeg,Int.reduceEq,Int.reduceNe,Nat.reduceBNe,Int.reduceAdd,Int.reduceSub,Int.reduceMul,Int.reducePow,Nat.reducePow,Int.reduceGT,Int.reduceGE,if_true,if_false,ite_true,ite_false,beq_self_eq_true,BEq.rfl,reduceCtorEq,eq_self,ne_eq,Function.comp_def,beq_iff_eq]
    exact hK _ _ (.inr ⟨_, 0, rfl, get_new0 _ _, Nat.zero_le _⟩) (Grw.push _ _) fun j hj => by simp only [rowOf, Option.some.injEq] at hj; omega
  · have hk := rd_nil h hv
    subst hk
    have hx : xs = [] := by have := h.2.2 _ sz78; simpa using this
    subst hx
    simp only [e, hv, evf,↓evp,evq,evr,fxa0,fxa1,fxa2,fxa3,fxa4,fxu,fxn,fxl,↓fxp,lgc,absL,fitL,flatL,ares,ares1,ofVal,unSc,aload,afill,splice,abound,asI,elems,IntKind.bits,sortT,eqNil,closedL,allByte,patch,pendOK,numA,Value.cells,Value.oneCell',ibin,List.replicate,Option.elim,Nat.reduceAdd,Nat.reduceSub,Nat.reduceMul,Nat.reduceLT,Nat.reduceEqDiff,Nat.reduceLeDiff,Nat.reduceBEq,Int.reduceLE,Int.reduceLT,Int.reduceToNat,Int.reduceBNe,Int.reduceBEq,Int.reduceNeg,Int.reduceEq,Int.reduceNe,Nat.reduceBNe,Int.reduceAdd,Int.reduceSub,Int.reduceMul,Int.reducePow,Nat.reducePow,Int.reduceGT,Int.reduceGE,if_true,if_false,ite_true,ite_false,beq_self_eq_true,BEq.rfl,reduceCtorEq,eq_self,ne_eq,Function.comp_def,beq_iff_eq]
    exact hK _ _ (.inl ⟨rfl, rfl, rfl⟩) (fun _ _ h => h) fun j hj => by cases hj
end
/-- All buildings are placed, one by one. -/
def goAll (WW HH : Int) : Int → List (Int × V) → List ((Int × Int) × V) → List B4 → Option (List (Int × V) × List ((Int × Int) × V))
  | _, us, os, [] => some (us, os)
  | last, us, os, u :: L => if u.id ≤ last then none else if mayE us os WW HH u.id u.x u.y u.w u.h = 0 then
      goAll WW HH u.id (putI u.id (.agg (rc u.x u.y u.w u.h)) us) (fillC (.sc (.int .i64 u.id)) u.x u.y u.w.toNat os (u.h.toNat * u.w.toNat)) L else none
/-- May a map be? -/
def newOK (WW HH : Int) (T : List Int) (L : List B4) : Bool :=
  decide (1 ≤ WW) && decide (WW ≤ 128) && decide (1 ≤ HH) && decide (HH ≤ 128) && decide ((T.length : Int) = WW * HH) && T.all (fun t => decide (t < 4)) && (goAll WW HH 0 [] [] L).isSome
section
variable {n m : Nat} {st s : List Ob} {K : V → List Ob → Prop} {WW HH : Int} {T : List Int} {L : List B4} {tv bv : V}
def mp (WW HH : Int) (tv bv : V) : List V := [.sc (.int .i64 WW), .sc (.int .i64 HH), tv, bv]
theorem mayE_zero {us : List (Int × V)} {os : List ((Int × Int) × V)} {id x y w h : Int} (e : mayE us os WW HH id x y w h = 0) : bmayB id x y w h WW HH = true ∧ getI id us = none ∧ us.length < 256 ∧ hitsB os x y w.toNat (h.toNat * w.toNat) = false := by
  unfold mayE at e
  split at e
  · cases e
  rename_i h1
  split at e
  · cases e
  rename_i h2
  split at e
  · cases e
  rename_i h3
  split at e
  · cases e
  rename_i h4
  exact ⟨by simpa using h1, by simpa using h2, by omega, by simpa using h4⟩
set_option maxHeartbeats 4000000000000 in
theorem w_New (ht : Rd Try.prog st 5 tv (bs T) T.length) (hb : Rd Try.prog st 90 bv (L.flatMap B4.v) L.length) (ot : one tv = true ∧ cellsV tv = [tv]) (ob : one bv = true ∧ cellsV bv = [bv]) (hm : 300 < m) (hTm : T.length < m) (hTb : ∀ t ∈ T, 0 ≤ t ∧ t < 256)
    (hE : newOK WW HH T L = false → ∀ s, Grw st s → K (.tup [.sc (.pointer none), .sc (.int .i64 1)]) s)
    (hO : newOK WW HH T L = true → ∀ wd a b tv' us os s, goAll WW HH 0 [] [] L = some (us, os) → Wg s wd a b WW HH tv' (.tsl [] 0 true true) (bs T) us os [] → Grw st s → st.length ≤ wd → st.length ≤ a → st.length ≤ b → (∀ j, rowOf tv' = some j → st.length ≤ j) → K (.tup [.ref wd 0, .sc (.int .i64 0)]) s) :
    acallF Try.prog pl (n + 9) m 44 [.agg (mp WW HH tv bv)] st K := by
  refine acallF_inF Try.func44 rfl rfl Try.ntmps44 (by simp) ?_
  have g0 := Grw.push st [Ob.cells (mp WW HH tv bv)]
  have c0 : (st ++ [Ob.cells (mp WW HH tv bv)])[st.length]? = some (.cells (mp WW HH tv bv)) := get_new _ _ 0
  simp only [mp] at g0 c0
  simp only [mp, ot.1, ot.2, ob.1, ob.2, evf,↓evp,evq,evr,fxa0,fxa1,fxa2,fxa3,fxa4,fxu,fxn,fxl,↓fxp,lgc,absL,fitL,flatL,ares,ares1,ofVal,unSc,aload,afill,splice,abound,asI,elems,IntKind.bits,sortT,eqNil,closedL,allByte,patch,pendOK,numA,Value.cells,Value.oneCell',ibin,List.replicate,Option.elim,Nat.reduceAdd,Nat.reduceSub,Nat.reduceMul,Nat.reduceLT,Nat.reduceEqDiff,Nat.reduceLeDiff,Nat.reduceBEq,Int.reduceLE,Int.reduceLT,Int.reduceToNat,Int.reduceBNe,Int.reduceBEq,Int.reduceNeg,Int.reduceEq,Int.reduceNe,Nat.reduceBNe,Int.reduceAdd,Int.reduceSub,Int.reduceMul,Int.reducePow,Nat.reducePow,Int.reduceGT,Int.reduceGE,if_true,if_false,ite_true,ite_false,beq_self_eq_true,BEq.rfl,reduceCtorEq,eq_self,ne_eq,Function.comp_def,beq_iff_eq]
  generalize hS : st ++ [Ob.cells [V.sc (Value.int IntKind.i64 WW), V.sc (Value.int IntKind.i64 HH), tv, bv]] = S at g0 c0
  have ht0 := ht.grw g0
  have hb0 := hb.grw g0
  have al := alen_rd ht0 Try.underlying62
  have alb := alen_rd hb0 Try.underlying63
  unfold newOK at hE hO
  cases d1 : decide (WW < 1)
  case true =>
    simp only [c0, d1, evf,↓evp,evq,evr,fxa0,fxa1,fxa2,fxa3,fxa4,fxu,fxn,fxl,↓fxp,lgc,absL,fitL,flatL,ares,ares1,ofVal,unSc,aload,afill,splice,abound,asI,elems,IntKind.bits,sortT,eqNil,closedL,allByte,patch,pendOK,numA,Value.cells,Value.oneCell',ibin,List.replicate,Option.elim,Nat.reduceAdd,Nat.reduceSub,Nat.reduceMul,Nat.reduceLT,Nat.reduceEqDiff,Nat.reduceLeDiff,Nat.reduceBEq,Int.reduceLE,Int.reduceLT,Int.reduceToNat,Int.reduceBNe,Int.reduceBEq,Int.reduceNeg,Int.reduceEq,Int.reduceNe,Nat.reduceBNe,Int.reduceAdd,Int.reduceSub,Int.reduceMul,Int.reducePow,Nat.reducePow,Int.reduceGT,Int.reduceGE,if_true,if_false,ite_true,ite_false,beq_self_eq_true,BEq.rfl,reduceCtorEq,eq_self,ne_eq,Function.comp_def,beq_iff_eq]
    refine hE ?_ _ g0
    have := of_decide_eq_true d1
    simp only [show decide (1 ≤ WW) = false from decide_eq_false (by omega), Bool.false_and]
  have f1 := of_decide_eq_false d1
  cases d2 : decide (WW > 128)
  case true =>
    simp only [c0, d1, d2, evf,↓evp,evq,evr,fxa0,fxa1,fxa2,fxa3,fxa4,fxu,fxn,fxl,↓fxp,lgc,absL,fitL,flatL,ares,ares1,ofVal,unSc,aload,afill,splice,abound,asI,elems,IntKind.bits,sortT,eqNil,closedL,allByte,patch,pendOK,numA,Value.cells,Value.oneCell',ibin,List.replicate,Option.elim,Nat.reduceAdd,Nat.reduceSub,Nat.reduceMul,Nat.reduceLT,Nat.reduceEqDiff,Nat.reduceLeDiff,Nat.reduceBEq,Int.reduceLE,Int.reduceLT,Int.reduceToNat,Int.reduceBNe,Int.reduceBEq,Int.reduceNeg,Int.reduceEq,Int.reduceNe,Nat.reduceBNe,Int.reduceAdd,Int.reduceSub,Int.reduceMul,Int.reducePow,Nat.reducePow,Int.reduceGT,Int.reduceGE,if_true,if_false,ite_true,ite_false,beq_self_eq_true,BEq.rfl,reduceCtorEq,eq_self,ne_eq,Function.comp_def,beq_iff_eq]
    refine hE ?_ _ g0
    have := of_decide_eq_true d2
    simp only [show decide (WW ≤ 128) = false from decide_eq_false (by omega), Bool.false_and, Bool.and_false]
  have f2 := of_decide_eq_false d2
  cases d3 : decide (HH < 1)
  case true =>
    simp only [c0, d1, d2, d3, evf,↓evp,evq,evr,fxa0,fxa1,fxa2,fxa3,fxa4,fxu,fxn,fxl,↓fxp,lgc,absL,fitL,flatL,ares,ares1,ofVal,unSc,aload,afill,splice,abound,asI,elems,IntKind.bits,sortT,eqNil,closedL,allByte,patch,pendOK,numA,Value.cells,Value.oneCell',ibin,List.replicate,Option.elim,Nat.reduceAdd,Nat.reduceSub,Nat.reduceMul,Nat.reduceLT,Nat.reduceEqDiff,Nat.reduceLeDiff,Nat.reduceBEq,Int.reduceLE,Int.reduceLT,Int.reduceToNat,Int.reduceBNe,Int.reduceBEq,Int.reduceNeg,Int.reduceEq,Int.reduceNe,Nat.reduceBNe,Int.reduceAdd,Int.reduceSub,Int.reduceMul,Int.reducePow,Nat.reducePow,Int.reduceGT,Int.reduceGE,if_true,if_false,ite_true,ite_false,beq_self_eq_true,BEq.rfl,reduceCtorEq,eq_self,ne_eq,Function.comp_def,beq_iff_eq]
    refine hE ?_ _ g0
    have := of_decide_eq_true d3
    simp only [show decide (1 ≤ HH) = false from decide_eq_false (by omega), Bool.false_and, Bool.and_false]
  have f3 := of_decide_eq_false d3
  cases d4 : decide (HH > 128)
  case true =>
    simp only [c0, d1, d2, d3, d4, evf,↓evp,evq,evr,fxa0,fxa1,fxa2,fxa3,fxa4,fxu,fxn,fxl,↓fxp,lgc,absL,fitL,flatL,ares,ares1,ofVal,unSc,aload,afill,splice,abound,asI,elems,IntKind.bits,sortT,eqNil,closedL,allByte,patch,pendOK,numA,Value.cells,Value.oneCell',ibin,List.replicate,Option.elim,Nat.reduceAdd,Nat.reduceSub,Nat.reduceMul,Nat.reduceLT,Nat.reduceEqDiff,Nat.reduceLeDiff,Nat.reduceBEq,Int.reduceLE,Int.reduceLT,Int.reduceToNat,Int.reduceBNe,Int.reduceBEq,Int.reduceNeg,Int.reduceEq,Int.reduceNe,Nat.reduceBNe,Int.reduceAdd,Int.reduceSub,Int.reduceMul,Int.reducePow,Nat.reducePow,Int.reduceGT,Int.reduceGE,if_true,if_false,ite_true,ite_false,beq_self_eq_true,BEq.rfl,reduceCtorEq,eq_self,ne_eq,Function.comp_def,beq_iff_eq]
    refine hE ?_ _ g0
    have := of_decide_eq_true d4
    simp only [show decide (HH ≤ 128) = false from decide_eq_false (by omega), Bool.false_and, Bool.and_false]
  have f4 := of_decide_eq_false d4
  have hb2 : WW * HH ≤ 128 * 128 := Int.mul_le_mul (by omega) (by omega) (by omega) (by omega)
  have hb1 : 0 ≤ WW * HH := Int.mul_nonneg (by omega) (by omega)
  have e1 : IntKind.i64.wrap (WW * HH) = WW * HH := wi64 (by omega) (by omega)
  cases d5 : ((T.length : Int) != WW * HH)
  case true =>
    simp only [c0, d1, d2, d3, d4, d5, e1, al, evf,↓evp,evq,evr,fxa0,fxa1,fxa2,fxa3,fxa4,fxu,fxn,fxl,↓fxp,lgc,absL,fitL,flatL,ares,ares1,ofVal,unSc,aload,afill,splice,abound,asI,elems,IntKind.bits,sortT,eqNil,closedL,allByte,patch,pendOK,numA,Value.cells,Value.oneCell',ibin,List.replicate,Option.elim,Nat.reduceAdd,Nat.reduceSub,Nat.reduceMul,Nat.reduceLT,Nat.reduceEqDiff,Nat.reduceLeDiff,Nat.reduceBEq,Int.reduceLE,Int.reduceLT,Int.reduceToNat,Int.reduceBNe,Int.reduceBEq,Int.reduceNeg,Int.reduceEq,Int.reduceNe,Nat.reduceBNe,Int.reduceAdd,Int.reduceSub,Int.reduceMul,Int.reducePow,Nat.reducePow,Int.reduceGT,Int.reduceGE,if_true,if_false,ite_true,ite_false,beq_self_eq_true,BEq.rfl,reduceCtorEq,eq_self,ne_eq,Function.comp_def,beq_iff_eq]
    refine hE ?_ _ g0
    have d5' : ¬ (T.length : Int) = WW * HH := by simpa using d5
    simp only [show decide ((T.length : Int) = WW * HH) = false from decide_eq_false d5', Bool.false_and, Bool.and_false]
  have f5 : (T.length : Int) = WW * HH := by simpa using d5
  simp only [show decide (1 ≤ WW) = true from decide_eq_true (by omega), show decide (WW ≤ 128) = true from decide_eq_true (by omega), show decide (1 ≤ HH) = true from decide_eq_true (by omega), show decide (HH ≤ 128) = true from decide_eq_true (by omega), show decide ((T.length : Int) = WW * HH) = true from decide_eq_true f5, Bool.true_and] at hE hO
  simp only [c0, d1, d2, d3, d4, d5, e1, al, evf,↓evp,evq,evr,fxa0,fxa1,fxa2,fxa3,fxa4,fxu,fxn,fxl,↓fxp,lgc,absL,fitL,flatL,ares,ares1,ofVal,unSc,aload,afill,splice,abound,asI,elems,IntKind.bits,sortT,eqNil,closedL,allByte,patch,pendOK,numA,Value.cells,Value.oneCell',ibin,List.replicate,Option.elim,Nat.reduceAdd,Nat.reduceSub,Nat.reduceMul,Nat.reduceLT,Nat.reduceEqDiff,Nat.reduceLeDiff,Nat.reduceBEq,Int.reduceLE,Int.reduceLT,Int.reduceToNat,Int.reduceBNe,Int.reduceBEq,Int.reduceNeg,Int.reduceEq,Int.reduceNe,Nat.reduceBNe,Int.reduceAdd,Int.reduceSub,Int.reduceMul,Int.reducePow,Nat.reducePow,Int.reduceGT,Int.reduceGE,if_true,if_false,ite_true,ite_false,beq_self_eq_true,BEq.rfl,reduceCtorEq,eq_self,ne_eq,Function.comp_def,beq_iff_eq]
  refine aloop_forF (fun k f s => s = S ∧ ∃ i : Nat, k + i = m ∧ i ≤ T.length ∧ T.all (fun t => decide (t < 4)) = (T.drop i).all (fun t => decide (t < 4)) ∧ f 1 = .ref st.length 0 ∧ f 40 = tv ∧ f 41 = .sc (.int .i64 T.length) ∧ f 42 = .sc (.int .i64 i)) ⟨rfl, 0, by omega, by omega, rfl, by simp only [evf, ne_eq, Nat.reduceEqDiff, Nat.reduceLT, not_false_eq_true], by simp only [evf, ne_eq, Nat.reduceEqDiff, Nat.reduceLT, not_false_eq_true], by simp only [evf, ne_eq, Nat.reduceEqDiff, Nat.reduceLT, not_false_eq_true], by simp only [evf, ne_eq, Nat.reduceEqDiff, Nat.reduceLT, not_false_eq_true]; rfl⟩ ?_
  rintro I' hI' k f s ⟨rfl, i, hk, hi, hp, q1, q40, q41, q42⟩
  refine ⟨k - 1, by omega, ?_⟩
  by_cases hil : i < T.length
  · have d : decide ((i : Int) < T.length) = true := decide_eq_true (by omega)
    have e3 : IntKind.i64.wrap ((i : Int) + 1) = ((i + 1 : Nat) : Int) := by rw [IntWalk.i64_in _ (by omega)]; rfl
    have p1 := aix_rd ht0 Try.underlying62 sz5 .i64 (j := (i : Int)) (by omega) (by omega)
    have p2 := ald_ix ht0 sz5 sz5 (by omega) hil (o := 0) (by omega)
    have p3 : aload Try.prog 5 ((bs T).drop (i * 1 + 0)) = some (.sc (.int .u8 T[i])) := by
      simp only [aload, ag5, Nat.mul_one, Nat.add_zero]
      rw [List.getElem?_drop, Nat.add_zero]
      simp only [bs, List.getElem?_map, List.getElem?_eq_getElem hil, Option.map_some]
    rw [p3] at p2
    simp only [Int.toNat_natCast] at p1
    have hd : T.drop i = T[i] :: T.drop (i + 1) := List.drop_eq_getElem_cons hil
    rw [hd, List.all_cons] at hp
    cases d6 : decide (T[i] ≥ 4)
    · have d6' : decide (T[i] < 4) = true := decide_eq_true (by have := of_decide_eq_false d6; omega)
      rw [d6', Bool.true_and] at hp
      simp only [q1, q40, q41, q42, d, p1, p2, d6, e3, evf,↓evp,evq,evr,fxa0,fxa1,fxa2,fxa3,fxa4,fxu,fxn,fxl,↓fxp,lgc,absL,fitL,flatL,ares,ares1,ofVal,unSc,aload,afill,splice,abound,asI,elems,IntKind.bits,sortT,eqNil,closedL,allByte,patch,pendOK,numA,Value.cells,Value.oneCell',ibin,List.replicate,Option.elim,Nat.reduceAdd,Nat.reduceSub,Nat.reduceMul,Nat.reduceLT,Nat.reduceEqDiff,Nat.reduceLeDiff,Nat.reduceBEq,Int.reduceLE,Int.reduceLT,Int.reduceToNat,Int.reduceBNe,Int.reduceBEq,Int.reduceNeg,Int.reduceEq,Int.reduceNe,Nat.reduceBNe,Int.reduceAdd,Int.reduceSub,Int.reduceMul,Int.reducePow,Nat.reducePow,Int.reduceGT,Int.reduceGE,if_true,if_false,ite_true,ite_false,beq_self_eq_true,BEq.rfl,reduceCtorEq,eq_self,ne_eq,Function.comp_def,beq_iff_eq]
      exact hI' _ _ _ ⟨rfl, i + 1, by omega, hil, hp, by simp only [q1, evf, ne_eq, Nat.reduceEqDiff, Nat.reduceLT, not_false_eq_true], by simp only [q40, evf, ne_eq, Nat.reduceEqDiff, Nat.reduceLT, not_false_eq_true], by simp only [q41, evf, ne_eq, Nat.reduceEqDiff, Nat.reduceLT, not_false_eq_true], by simp only [evf, ne_eq, Nat.reduceEqDiff, Nat.reduceLT, not_false_eq_true]⟩
    · have d6' : decide (T[i] < 4) = false := decide_eq_false (by have := of_decide_eq_true d6; omega)
      rw [d6', Bool.false_and] at hp
      simp only [q1, q40, q41, q42, d, p1, p2, d6, evf,↓evp,evq,evr,fxa0,fxa1,fxa2,fxa3,fxa4,fxu,fxn,fxl,↓fxp,lgc,absL,fitL,flatL,ares,ares1,ofVal,unSc,aload,afill,splice,abound,asI,elems,IntKind.bits,sortT,eqNil,closedL,allByte,patch,pendOK,numA,Value.cells,Value.oneCell',ibin,List.replicate,Option.elim,Nat.reduceAdd,Nat.reduceSub,Nat.reduceMul,Nat.reduceLT,Nat.reduceEqDiff,Nat.reduceLeDiff,Nat.reduceBEq,Int.reduceLE,Int.reduceLT,Int.reduceToNat,Int.reduceBNe,Int.reduceBEq,Int.reduceNeg,Int.reduceEq,Int.reduceNe,Nat.reduceBNe,Int.reduceAdd,Int.reduceSub,Int.reduceMul,Int.reducePow,Nat.reducePow,Int.reduceGT,Int.reduceGE,if_true,if_false,ite_true,ite_false,beq_self_eq_true,BEq.rfl,reduceCtorEq,eq_self,ne_eq,Function.comp_def,beq_iff_eq]
      refine hE ?_ _ g0
      rw [hp, Bool.false_and]
  · have d : decide ((i : Int) < T.length) = false := decide_eq_false (by omega)
    obtain rfl : i = T.length := by omega
    rw [List.drop_length] at hp
    simp only [List.all_nil] at hp
    simp only [hp, Bool.true_and] at hE hO
    have c0X := fun X => Grw.push s X _ _ c0
    simp only [q1, q40, q41, q42, d, c0, c0X, evf,↓evp,evq,evr,fxa0,fxa1,fxa2,fxa3,fxa4,fxu,fxn,fxl,↓fxp,lgc,absL,fitL,flatL,ares,ares1,ofVal,unSc,aload,afill,splice,abound,asI,elems,IntKind.bits,sortT,eqNil,closedL,allByte,patch,pendOK,numA,Value.cells,Value.oneCell',ibin,List.replicate,Option.elim,Nat.reduceAdd,Nat.reduceSub,Nat.reduceMul,Nat.reduceLT,Nat.reduceEqDiff,Nat.reduceLeDiff,Nat.reduceBEq,Int.reduceLE,Int.reduceLT,Int.reduceToNat,Int.reduceBNe,Int.reduceBEq,Int.reduceNeg,Int.reduceEq,Int.reduceNe,Nat.reduceBNe,Int.reduceAdd,Int.reduceSub,Int.reduceMul,Int.reducePow,Nat.reducePow,Int.reduceGT,Int.reduceGE,if_true,if_false,ite_true,ite_false,beq_self_eq_true,BEq.rfl,reduceCtorEq,eq_self,ne_eq,Function.comp_def,beq_iff_eq]
    refine c_cloneB (n := n + 7) (ht0.grw (.push _ _)) (closed_bs _) (by omega) fun tv' s2 tl g2 hr2 => ?_
    have c2 := g2 _ _ (c0X _)
    obtain ⟨ot1, ot2⟩ := tl.one
    have p0 : s2[s.length]? = some Ob.gone := g2 _ _ (get_new _ _ 0)
    have p1 : ∀ o, (s2.set s.length o)[s.length + 1]? = some Ob.gone := fun o => by rw [List.getElem?_set_ne (by omega)]; exact g2 _ _ (get_new _ _ 1)
    have p2 : ∀ o o', ((s2.set s.length o).set (s.length + 1) o')[s.length + 2]? = some Ob.gone := fun o o' => by rw [List.getElem?_set_ne (by omega), List.getElem?_set_ne (by omega)]; exact g2 _ _ (get_new _ _ 2)
    have lst : st.length < s.length := (List.getElem?_eq_some_iff.1 c0).1
    have c3 : ∀ o o' o'', (((s2.set s.length o).set (s.length + 1) o').set (s.length + 2) o'')[st.length]? = s2[st.length]? := fun o o' o'' => by rw [List.getElem?_set_ne (by omega), List.getElem?_set_ne (by omega), List.getElem?_set_ne (by omega)]
    have ls2 : s.length + 2 < s2.length := (List.getElem?_eq_some_iff.1 (p2 Ob.gone Ob.gone)).1 |> fun h => by simpa using h
    simp only [q1, q40, q41, q42, d, c0, c0X, c2, ot1, ot2, g2, p0, p1, p2, c3, evf,↓evp,evq,evr,fxa0,fxa1,fxa2,fxa3,fxa4,fxu,fxn,fxl,↓fxp,lgc,absL,fitL,flatL,ares,ares1,ofVal,unSc,aload,afill,splice,abound,asI,elems,IntKind.bits,sortT,eqNil,closedL,allByte,patch,pendOK,numA,Value.cells,Value.oneCell',ibin,List.replicate,Option.elim,Nat.reduceAdd,Nat.reduceSub,Nat.reduceMul,Nat.reduceLT,Nat.reduceEqDiff,Nat.reduceLeDiff,Nat.reduceBEq,Int.reduceLE,Int.reduceLT,Int.reduceToNat,Int.reduceBNe,Int.reduceBEq,Int.reduceNeg,Int.reduceEq,Int.reduceNe,Nat.reduceBNe,Int.reduceAdd,Int.reduceSub,Int.reduceMul,Int.reducePow,Nat.reducePow,Int.reduceGT,Int.reduceGE,if_true,if_false,ite_true,ite_false,beq_self_eq_true,BEq.rfl,reduceCtorEq,eq_self,ne_eq,Function.comp_def,beq_iff_eq]
    generalize hs3 : ((s2.set s.length _).set (s.length + 1) _).set (s.length + 2) _ = s3
    have g3 : Grw st s3 := by
      rw [← hs3]
      exact ((((g0.trans (Grw.push _ _)).trans g2).set (by omega) _).set (by omega) _).set (by omega) _
    have w3 : Wg s3 (s.length + 2) s.length (s.length + 1) WW HH tv' (.tsl [] 0 true true) (bs T) [] [] [] := by
      have lbs : (bs T).length = T.length := by simp [bs]
      refine ⟨⟨?_, ?_, ?_⟩, ?_, .inl ⟨rfl, rfl, rfl⟩, (fun j hj h => (by cases h)), by omega, (fun i v h => (by cases h))⟩
      · rw [← hs3, List.getElem?_set_self (by simpa using ls2)]
      · rw [← hs3, List.getElem?_set_ne (by omega), List.getElem?_set_ne (by omega), List.getElem?_set_self (by omega)]; rfl
      · rw [← hs3, List.getElem?_set_ne (by omega), List.getElem?_set_self (by simp; omega)]; rfl
      · rw [lbs]
        refine tl.of fun j o hj ho => ?_
        have := hr2 j hj
        simp only [List.length_append, List.length_cons, List.length_nil] at this
        rw [← hs3, List.getElem?_set_ne (by omega), List.getElem?_set_ne (by omega), List.getElem?_set_ne (by omega)]
        exact ho
    have hr3 : ∀ j, rowOf tv' = some j → st.length ≤ j := fun j hj => by
      have := hr2 j hj
      simp only [List.length_append] at this
      omega
    have alb3 := alen_rd (hb.grw g3) Try.underlying63
    have c33 : s3[st.length]? = some (Ob.cells [V.sc (Value.int IntKind.i64 WW), V.sc (Value.int IntKind.i64 HH), tv, bv]) := by rw [← hs3, c3]; exact c2
    simp only [c33, alb3, evf,↓evp,evq,evr,fxa0,fxa1,fxa2,fxa3,fxa4,fxu,fxn,fxl,↓fxp,lgc,absL,fitL,flatL,ares,ares1,ofVal,unSc,aload,afill,splice,abound,asI,elems,IntKind.bits,sortT,eqNil,closedL,allByte,patch,pendOK,numA,Value.cells,Value.oneCell',ibin,List.replicate,Option.elim,Nat.reduceAdd,Nat.reduceSub,Nat.reduceMul,Nat.reduceLT,Nat.reduceEqDiff,Nat.reduceLeDiff,Nat.reduceBEq,Int.reduceLE,Int.reduceLT,Int.reduceToNat,Int.reduceBNe,Int.reduceBEq,Int.reduceNeg,Int.reduceEq,Int.reduceNe,Nat.reduceBNe,Int.reduceAdd,Int.reduceSub,Int.reduceMul,Int.reducePow,Nat.reducePow,Int.reduceGT,Int.reduceGE,if_true,if_false,ite_true,ite_false,beq_self_eq_true,BEq.rfl,reduceCtorEq,eq_self,ne_eq,Function.comp_def,beq_iff_eq]
    generalize hwd : s.length + 2 = wd at w3
    generalize hwa : s.length = wa at w3
    have hwd0 : st.length ≤ wd := by omega
    have hwa0 : st.length ≤ wa := by omega
    refine aloop_forF (fun k f s => ∃ (i : Nat) (us : List (Int × V)) (os : List ((Int × Int) × V)) (ds : List R4) (dv : V) (last : Int), k + i = m ∧ i ≤ L.length ∧ us.length = i ∧ ds.length = i ∧ i ≤ 256 ∧ Wg s wd wa (wa + 1) WW HH tv' dv (bs T) us os ds ∧ goAll WW HH 0 [] [] L = goAll WW HH last us os (L.drop i) ∧ Grw st s ∧ (∀ j, rowOf dv = some j → st.length ≤ j) ∧ f 6 = .ref wd 0 ∧ f 7 = .sc (.int .i64 last) ∧ f 61 = bv ∧ f 62 = .sc (.int .i64 L.length) ∧ f 63 = .sc (.int .i64 i)) ⟨0, [], [], [], .tsl [] 0 true true, 0, by omega, by omega, rfl, rfl, by omega, w3, rfl, g3, (fun j h => (by cases h)), by simp only [evf, ne_eq, Nat.reduceEqDiff, Nat.reduceLT, not_false_eq_true], by simp only [evf, ne_eq, Nat.reduceEqDiff, Nat.reduceLT, not_false_eq_true], by simp only [evf, ne_eq, Nat.reduceEqDiff, Nat.reduceLT, not_false_eq_true], by simp only [evf, ne_eq, Nat.reduceEqDiff, Nat.reduceLT, not_false_eq_true], by simp only [evf, ne_eq, Nat.reduceEqDiff, Nat.reduceLT, not_false_eq_true]; rfl⟩ ?_
    rintro I2 hI2 k2 f2 s5 ⟨i, us, os, ds, dv, last, hk2, hi2, hu2, hd2, hi256, w5, hp5, g5, hr5, q6, q7, q61, q62, q63⟩
    refine ⟨k2 - 1, by omega, ?_⟩
    by_cases hil2 : i < L.length
    · have d : decide ((i : Int) < L.length) = true := decide_eq_true (by omega)
      have e3 : IntKind.i64.wrap ((i : Int) + 1) = ((i + 1 : Nat) : Int) := by rw [IntWalk.i64_in _ (by omega)]; rfl
      obtain ⟨p1, p2⟩ := ix_flat (f := B4.v) (fun a => rfl) (hb.grw g5) Try.underlying63 sz90 ag90 (by omega) hil2
      have hd : L.drop i = L[i] :: L.drop (i + 1) := List.drop_eq_getElem_cons hil2
      rw [hd] at hp5
      simp only [goAll] at hp5
      generalize hu : L[i] = u at hp5 p2
      simp only [B4.v, bd, rc] at p2
      have p2X := fun X => (ix_flat (f := B4.v) (fun a => rfl) (hb.grw (g5.trans (Grw.push s5 X))) Try.underlying63 sz90 ag90 (by omega) hil2).2
      rw [hu] at p2X
      simp only [B4.v, bd, rc] at p2X
      cases d7 : decide (u.id ≤ last)
      case true =>
        rw [if_pos (of_decide_eq_true d7)] at hp5
        simp only [q6, q7, q61, q62, q63, d, p1, p2, p2X, d7, get_new, get_new0, M.set_new, M.set_new0, evf,↓evp,evq,evr,fxa0,fxa1,fxa2,fxa3,fxa4,fxu,fxn,fxl,↓fxp,lgc,absL,fitL,flatL,ares,ares1,ofVal,unSc,aload,afill,splice,abound,asI,elems,IntKind.bits,sortT,eqNil,closedL,allByte,patch,pendOK,numA,Value.cells,Value.oneCell',ibin,List.replicate,Option.elim,Nat.reduceAdd,Nat.reduceSub,Nat.reduceMul,Nat.reduceLT,Nat.reduceEqDiff,Nat.reduceLeDiff,Nat.reduceBEq,Int.reduceLE,Int.reduceLT,Int.reduceToNat,Int.reduceBNe,Int.reduceBEq,Int.reduceNeg,Int.reduceEq,Int.reduceNe,Nat.reduceBNe,Int.reduceAdd,Int.reduceSub,Int.reduceMul,Int.reducePow,Nat.reducePow,Int.reduceGT,Int.reduceGE,if_true,if_false,ite_true,ite_false,beq_self_eq_true,BEq.rfl,reduceCtorEq,eq_self,ne_eq,Function.comp_def,beq_iff_eq]
        refine hE (by rw [hp5]; rfl) _ (g5.trans (Grw.push _ _))
      have d7' := of_decide_eq_false d7
      rw [if_neg d7'] at hp5
      simp only [q6, q7, q61, q62, q63, d, p1, p2, p2X, d7, get_new, get_new0, M.set_new, M.set_new0, evf,↓evp,evq,evr,fxa0,fxa1,fxa2,fxa3,fxa4,fxu,fxn,fxl,↓fxp,lgc,absL,fitL,flatL,ares,ares1,ofVal,unSc,aload,afill,splice,abound,asI,elems,IntKind.bits,sortT,eqNil,closedL,allByte,patch,pendOK,numA,Value.cells,Value.oneCell',ibin,List.replicate,Option.elim,Nat.reduceAdd,Nat.reduceSub,Nat.reduceMul,Nat.reduceLT,Nat.reduceEqDiff,Nat.reduceLeDiff,Nat.reduceBEq,Int.reduceLE,Int.reduceLT,Int.reduceToNat,Int.reduceBNe,Int.reduceBEq,Int.reduceNeg,Int.reduceEq,Int.reduceNe,Nat.reduceBNe,Int.reduceAdd,Int.reduceSub,Int.reduceMul,Int.reducePow,Nat.reducePow,Int.reduceGT,Int.reduceGE,if_true,if_false,ite_true,ite_false,beq_self_eq_true,BEq.rfl,reduceCtorEq,eq_self,ne_eq,Function.comp_def,beq_iff_eq]
      have gp := Grw.push s5 [Ob.cells (bd u.id u.x u.y u.w u.h)]
      simp only [bd, rc] at gp
      have hla : s5[wd]? ≠ none := by rw [w5.wd.w]; simp
      refine w_Place1 (n := n) (w5.grw gp) (by omega) (by omega) (by omega) ?_ ?_
      · intro hne s6 g6
        have e8 : (mayE us os WW HH u.id u.x u.y u.w u.h != 0) = true := by simpa using hne
        rw [if_neg hne] at hp5
        simp only [e8, evf,↓evp,evq,evr,fxa0,fxa1,fxa2,fxa3,fxa4,fxu,fxn,fxl,↓fxp,lgc,absL,fitL,flatL,ares,ares1,ofVal,unSc,aload,afill,splice,abound,asI,elems,IntKind.bits,sortT,eqNil,closedL,allByte,patch,pendOK,numA,Value.cells,Value.oneCell',ibin,List.replicate,Option.elim,Nat.reduceAdd,Nat.reduceSub,Nat.reduceMul,Nat.reduceLT,Nat.reduceEqDiff,Nat.reduceLeDiff,Nat.reduceBEq,Int.reduceLE,Int.reduceLT,Int.reduceToNat,Int.reduceBNe,Int.reduceBEq,Int.reduceNeg,Int.reduceEq,Int.reduceNe,Nat.reduceBNe,Int.reduceAdd,Int.reduceSub,Int.reduceMul,Int.reducePow,Nat.reducePow,Int.reduceGT,Int.reduceGE,if_true,if_false,ite_true,ite_false,beq_self_eq_true,BEq.rfl,reduceCtorEq,eq_self,ne_eq,Function.comp_def,beq_iff_eq]
        exact hE (by rw [hp5]; rfl) _ ((g5.trans gp).trans g6)
      · intro he dv' s6 w6 pk6 nw6
        rw [if_pos he] at hp5
        obtain ⟨_, m2, m3, _⟩ := mayE_zero he
        have l5 : wd < s5.length ∧ wa < s5.length ∧ wa + 1 < s5.length := ⟨(List.getElem?_eq_some_iff.1 w5.wd.w).1, (List.getElem?_eq_some_iff.1 w5.wd.us).1, (List.getElem?_eq_some_iff.1 w5.wd.os).1⟩
        have ndv : rowOf dv ≠ some s5.length := fun h => by
          rcases w5.dl with ⟨rfl, _, _⟩ | ⟨id, lo, rfl, h1, _⟩
          · cases h
          · simp only [rowOf, Option.some.injEq] at h
            have := (List.getElem?_eq_some_iff.1 h1).1
            omega
        have c6 := pk6.2 _ _ (by omega) (by omega) (by omega) ndv (get_new0 s5 [Ob.cells [V.sc (Value.int IntKind.i64 u.id), V.sc (Value.int IntKind.i64 u.x), V.sc (Value.int IntKind.i64 u.y), V.sc (Value.int IntKind.i64 u.w), V.sc (Value.int IntKind.i64 u.h)]])
        simp only [q6, q7, q61, q62, q63, c6, e3, evf,↓evp,evq,evr,fxa0,fxa1,fxa2,fxa3,fxa4,fxu,fxn,fxl,↓fxp,lgc,absL,fitL,flatL,ares,ares1,ofVal,unSc,aload,afill,splice,abound,asI,elems,IntKind.bits,sortT,eqNil,closedL,allByte,patch,pendOK,numA,Value.cells,Value.oneCell',ibin,List.replicate,Option.elim,Nat.reduceAdd,Nat.reduceSub,Nat.reduceMul,Nat.reduceLT,Nat.reduceEqDiff,Nat.reduceLeDiff,Nat.reduceBEq,Int.reduceLE,Int.reduceLT,Int.reduceToNat,Int.reduceBNe,Int.reduceBEq,Int.reduceNeg,Int.reduceEq,Int.reduceNe,Nat.reduceBNe,Int.reduceAdd,Int.reduceSub,Int.reduceMul,Int.reducePow,Nat.reducePow,Int.reduceGT,Int.reduceGE,if_true,if_false,ite_true,ite_false,beq_self_eq_true,BEq.rfl,reduceCtorEq,eq_self,ne_eq,Function.comp_def,beq_iff_eq]
        refine hI2 _ _ _ ⟨i + 1, _, _, _, dv', u.id, by omega, hil2, ?_, ?_, by omega, w6, hp5, ?_, ?_, by simp only [q6, evf, ne_eq, Nat.reduceEqDiff, Nat.reduceLT, not_false_eq_true], by simp only [evf, ne_eq, Nat.reduceEqDiff, Nat.reduceLT, not_false_eq_true], by simp only [q61, evf, ne_eq, Nat.reduceEqDiff, Nat.reduceLT, not_false_eq_true], by simp only [q62, evf, ne_eq, Nat.reduceEqDiff, Nat.reduceLT, not_false_eq_true], by simp only [evf, ne_eq, Nat.reduceEqDiff, Nat.reduceLT, not_false_eq_true]⟩
        · rw [putI_len, m2]; simp only [Option.isSome_none, Bool.false_eq_true, if_false]; omega
        · rw [List.length_append, hd2]; rfl
        · intro j o ho
          have lj : j < st.length := (List.getElem?_eq_some_iff.1 ho).1
          exact pk6.2 _ _ (by omega) (by omega) (by omega) (fun h => by have := hr5 j h; omega) (gp _ _ (g5 _ _ ho))
        · intro j hj
          rcases nw6 j hj with h | h
          · exact hr5 j h
          · have := g5.le
            simp only [List.length_append] at h
            omega
    · have d : decide ((i : Int) < L.length) = false := decide_eq_false (by omega)
      obtain rfl : i = L.length := by omega
      rw [List.drop_length] at hp5
      simp only [goAll] at hp5
      have w5w := w5.wd.w
      simp only [q6, q7, q61, q62, q63, d, w5w, evf,↓evp,evq,evr,fxa0,fxa1,fxa2,fxa3,fxa4,fxu,fxn,fxl,↓fxp,lgc,absL,fitL,flatL,ares,ares1,ofVal,unSc,aload,afill,splice,abound,asI,elems,IntKind.bits,sortT,eqNil,closedL,allByte,patch,pendOK,numA,Value.cells,Value.oneCell',ibin,List.replicate,Option.elim,Nat.reduceAdd,Nat.reduceSub,Nat.reduceMul,Nat.reduceLT,Nat.reduceEqDiff,Nat.reduceLeDiff,Nat.reduceBEq,Int.reduceLE,Int.reduceLT,Int.reduceToNat,Int.reduceBNe,Int.reduceBEq,Int.reduceNeg,Int.reduceEq,Int.reduceNe,Nat.reduceBNe,Int.reduceAdd,Int.reduceSub,Int.reduceMul,Int.reducePow,Nat.reducePow,Int.reduceGT,Int.reduceGE,if_true,if_false,ite_true,ite_false,beq_self_eq_true,BEq.rfl,reduceCtorEq,eq_self,ne_eq,Function.comp_def,beq_iff_eq]
      rw [hp5] at hO
      have lwd : wd < s5.length := (List.getElem?_eq_some_iff.1 w5w).1
      have k9 : ∀ (o' : Ob) j o, j ≠ wd → s5[j]? = some o → (s5.set wd o')[j]? = some o := fun o' j o hj ho => by rw [List.getElem?_set_ne (Ne.symm hj)]; exact ho
      refine hO rfl wd wa (wa + 1) tv' us os _ rfl ⟨⟨List.getElem?_set_self lwd, k9 _ _ _ (Ne.symm w5.wd.nwa) w5.wd.us, k9 _ _ _ (Ne.symm w5.wd.nwb) w5.wd.os⟩, w5.tl.of fun j o hj ho => k9 _ _ _ (fun h => w5.tl.ncells w5w (by rw [← h]; exact hj)) ho, .inl ⟨rfl, rfl, rfl⟩, (fun j hj h => (by cases h)), w5.ab, w5.rcs⟩ (g5.set hwd0 _) hwd0 hwa0 (by omega) hr3
end
end Go.Proofs.Ytndjhaeeldegfaa
