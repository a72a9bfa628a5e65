/- Chapter 4's reference: may a map be. -/
import Derived.Test.YtndjhaeeldegfaaG16
set_option linter.unusedVariables false
set_option linter.unusedSimpArgs false
set_option maxRecDepth 10000
namespace Go.Proofs.Ytndjhaeeldegfaa
open Go Go.M Go.RowKit
attribute [local congr] acallF_cong aloop_cong bcase_cong resK_cong valK_cong wantK_cong callK_cong xputK_cong qputK_cong resM_cong rfK_cong
attribute [local irreducible] seqK blockK loopK nextK bcase resK valK wantK funK putK dputK xputK qputK callK aops aop acode adraw aloop acallF acall invK resM rfK rfEnd rdEnd rdMid around
def pairB (u p : B4) : Bool := decide (p.id < u.id) && !meetB p.x p.y p.w p.h u.x u.y u.w u.h
/-- All buildings may be: pairwise. -/
def chk (WW HH : Int) : List B4 → List B4 → Bool
  | _, [] => true
  | pre, u :: L => (bmayB u.id u.x u.y u.w u.h WW HH && pre.all (pairB u)) && chk WW HH (pre ++ [u]) L
def refOK (WW HH : Int) (T : List Int) (L : List B4) : Bool :=
  decide (1 ≤ WW) && decide (WW ≤ 128) && decide (1 ≤ HH) && decide (HH ≤ 128) && decide ((T.length : Int) = WW * HH) && decide (L.length ≤ 256) && T.all (fun t => decide (t < 4)) && chk WW HH [] L
section
variable {n m : Nat} {st s : List Ob} {K : V → List Ob → Prop} {WW HH : Int} {T : List Int} {L : List B4} {tv bv : V}
set_option maxHeartbeats 4000000 in
theorem q_Check (ht : Rd Try.prog st 5 tv (bs T) T.length) (hb : Rd Try.prog st 90 bv (L.flatMap B4.v) L.length) (ot : one tv = true ∧ cellsV tv = [tv]) (ob : one bv = true ∧ cellsV bv = [bv]) (hm : 300 < m) (hTm : T.length < m) (hTb : ∀ t ∈ T, 0 ≤ t ∧ t < 256)
    (hE : refOK WW HH T L = false → ∀ s, Grw st s → K (.sc (.int .i64 1)) s) (hO : refOK WW HH T L = true → ∀ s, Grw st s → K (.sc (.int .i64 0)) s) :
    acallF Try.prog pl (n + 7) m 88 [.agg (mp WW HH tv bv)] st K := by
  refine acallF_inF Try.func88 rfl rfl Try.ntmps88 (by simp) ?_
  have g0 := Grw.push st [Ob.cells (mp WW HH tv bv)]
  have c0 : (st ++ [Ob.cells (mp WW HH tv bv)])[st.length]? = some (.cells (mp WW HH tv bv)) := get_new _ _ 0
  simp only [mp] at g0 c0
  simp only [mp, ot.1, ot.2, ob.1, ob.2, evf,↓evp,evq,evr,fxa0,fxa1,fxa2,fxa3,fxa4,fxu,fxn,fxl,↓fxp,lgc,absL,fitL,flatL,ares,ares1,ofVal,unSc,aload,afill,splice,abound,asI,elems,IntKind.bits,sortT,eqNil,closedL,allByte,patch,pendOK,numA,Value.cells,Value.oneCell',ibin,List.replicate,Option.elim,Nat.reduceAdd,Nat.reduceSub,Nat.reduceMul,Nat.reduceLT,Nat.reduceEqDiff,Nat.reduceLeDiff,Nat.reduceBEq,Int.reduceLE,Int.reduceLT,Int.reduceToNat,Int.reduceBNe,Int.reduceBEq,Int.reduceNeg,Int.reduceEq,Int.reduceNe,Nat.reduceBNe,Int.reduceAdd,Int.reduceSub,Int.reduceMul,Int.reducePow,Nat.reducePow,Int.reduceGT,Int.reduceGE,if_true,if_false,ite_true,ite_false,beq_self_eq_true,BEq.rfl,reduceCtorEq,eq_self,ne_eq,Function.comp_def,beq_iff_eq]
  generalize hS : st ++ [Ob.cells [V.sc (Value.int IntKind.i64 WW), V.sc (Value.int IntKind.i64 HH), tv, bv]] = S at g0 c0
  have ht0 := ht.grw g0
  have hb0 := hb.grw g0
  have al := alen_rd ht0 Try.underlying62
  have alb := alen_rd hb0 Try.underlying63
  unfold refOK at hE hO
  cases d1 : decide (WW < 1)
  case true =>
    simp only [c0, d1, evf,↓evp,evq,evr,fxa0,fxa1,fxa2,fxa3,fxa4,fxu,fxn,fxl,↓fxp,lgc,absL,fitL,flatL,ares,ares1,ofVal,unSc,aload,afill,splice,abound,asI,elems,IntKind.bits,sortT,eqNil,closedL,allByte,patch,pendOK,numA,Value.cells,Value.oneCell',ibin,List.replicate,Option.elim,Nat.reduceAdd,Nat.reduceSub,Nat.reduceMul,Nat.reduceLT,Nat.reduceEqDiff,Nat.reduceLeDiff,Nat.reduceBEq,Int.reduceLE,Int.reduceLT,Int.reduceToNat,Int.reduceBNe,Int.reduceBEq,Int.reduceNeg,Int.reduceEq,Int.reduceNe,Nat.reduceBNe,Int.reduceAdd,Int.reduceSub,Int.reduceMul,Int.reducePow,Nat.reducePow,Int.reduceGT,Int.reduceGE,if_true,if_false,ite_true,ite_false,beq_self_eq_true,BEq.rfl,reduceCtorEq,eq_self,ne_eq,Function.comp_def,beq_iff_eq]
    refine hE ?_ _ g0
    have := of_decide_eq_true d1
    simp only [show decide (1 ≤ WW) = false from decide_eq_false (by omega), Bool.false_and]
  have f1 := of_decide_eq_false d1
  cases d2 : decide (WW > 128)
  case true =>
    simp only [c0, d1, d2, evf,↓evp,evq,evr,fxa0,fxa1,fxa2,fxa3,fxa4,fxu,fxn,fxl,↓fxp,lgc,absL,fitL,flatL,ares,ares1,ofVal,unSc,aload,afill,splice,abound,asI,elems,IntKind.bits,sortT,eqNil,closedL,allByte,patch,pendOK,numA,Value.cells,Value.oneCell',ibin,List.replicate,Option.elim,Nat.reduceAdd,Nat.reduceSub,Nat.reduceMul,Nat.reduceLT,Nat.reduceEqDiff,Nat.reduceLeDiff,Nat.reduceBEq,Int.reduceLE,Int.reduceLT,Int.reduceToNat,Int.reduceBNe,Int.reduceBEq,Int.reduceNeg,Int.reduceEq,Int.reduceNe,Nat.reduceBNe,Int.reduceAdd,Int.reduceSub,Int.reduceMul,Int.reducePow,Nat.reducePow,Int.reduceGT,Int.reduceGE,if_true,if_false,ite_true,ite_false,beq_self_eq_true,BEq.rfl,reduceCtorEq,eq_self,ne_eq,Function.comp_def,beq_iff_eq]
    refine hE ?_ _ g0
    have := of_decide_eq_true d2
    simp only [show decide (WW ≤ 128) = false from decide_eq_false (by omega), Bool.false_and, Bool.and_false]
  have f2 := of_decide_eq_false d2
  cases d3 : decide (HH < 1)
  case true =>
    simp only [c0, d1, d2, d3, evf,↓evp,evq,evr,fxa0,fxa1,fxa2,fxa3,fxa4,fxu,fxn,fxl,↓fxp,lgc,absL,fitL,flatL,ares,ares1,ofVal,unSc,aload,afill,splice,abound,asI,elems,IntKind.bits,sortT,eqNil,closedL,allByte,patch,pendOK,numA,Value.cells,Value.oneCell',ibin,List.replicate,Option.elim,Nat.reduceAdd,Nat.reduceSub,Nat.reduceMul,Nat.reduceLT,Nat.reduceEqDiff,Nat.reduceLeDiff,Nat.reduceBEq,Int.reduceLE,Int.reduceLT,Int.reduceToNat,Int.reduceBNe,Int.reduceBEq,Int.reduceNeg,Int.reduceEq,Int.reduceNe,Nat.reduceBNe,Int.reduceAdd,Int.reduceSub,Int.reduceMul,Int.reducePow,Nat.reducePow,Int.reduceGT,Int.reduceGE,if_true,if_false,ite_true,ite_false,beq_self_eq_true,BEq.rfl,reduceCtorEq,eq_self,ne_eq,Function.comp_def,beq_iff_eq]
    refine hE ?_ _ g0
    have := of_decide_eq_true d3
    simp only [show decide (1 ≤ HH) = false from decide_eq_false (by omega), Bool.false_and, Bool.and_false]
  have f3 := of_decide_eq_false d3
  cases d4 : decide (HH > 128)
  case true =>
    simp only [c0, d1, d2, d3, d4, evf,↓evp,evq,evr,fxa0,fxa1,fxa2,fxa3,fxa4,fxu,fxn,fxl,↓fxp,lgc,absL,fitL,flatL,ares,ares1,ofVal,unSc,aload,afill,splice,abound,asI,elems,IntKind.bits,sortT,eqNil,closedL,allByte,patch,pendOK,numA,Value.cells,Value.oneCell',ibin,List.replicate,Option.elim,Nat.reduceAdd,Nat.reduceSub,Nat.reduceMul,Nat.reduceLT,Nat.reduceEqDiff,Nat.reduceLeDiff,Nat.reduceBEq,Int.reduceLE,Int.reduceLT,Int.reduceToNat,Int.reduceBNe,Int.reduceBEq,Int.reduceNeg,Int.reduceEq,Int.reduceNe,Nat.reduceBNe,Int.reduceAdd,Int.reduceSub,Int.reduceMul,Int.reducePow,Nat.reducePow,Int.reduceGT,Int.reduceGE,if_true,if_false,ite_true,ite_false,beq_self_eq_true,BEq.rfl,reduceCtorEq,eq_self,ne_eq,Function.comp_def,beq_iff_eq]
    refine hE ?_ _ g0
    have := of_decide_eq_true d4
    simp only [show decide (HH ≤ 128) = false from decide_eq_false (by omega), Bool.false_and, Bool.and_false]
  have f4 := of_decide_eq_false d4
  have hb2 : WW * HH ≤ 128 * 128 := Int.mul_le_mul (by omega) (by omega) (by omega) (by omega)
  have hb1 : 0 ≤ WW * HH := Int.mul_nonneg (by omega) (by omega)
  have e1 : IntKind.i64.wrap (WW * HH) = WW * HH := wi64 (by omega) (by omega)
  cases d5 : ((T.length : Int) != WW * HH)
  case true =>
    simp only [c0, d1, d2, d3, d4, d5, e1, al, evf,↓evp,evq,evr,fxa0,fxa1,fxa2,fxa3,fxa4,fxu,fxn,fxl,↓fxp,lgc,absL,fitL,flatL,ares,ares1,ofVal,unSc,aload,afill,splice,abound,asI,elems,IntKind.bits,sortT,eqNil,closedL,allByte,patch,pendOK,numA,Value.cells,Value.oneCell',ibin,List.replicate,Option.elim,Nat.reduceAdd,Nat.reduceSub,Nat.reduceMul,Nat.reduceLT,Nat.reduceEqDiff,Nat.reduceLeDiff,Nat.reduceBEq,Int.reduceLE,Int.reduceLT,Int.reduceToNat,Int.reduceBNe,Int.reduceBEq,Int.reduceNeg,Int.reduceEq,Int.reduceNe,Nat.reduceBNe,Int.reduceAdd,Int.reduceSub,Int.reduceMul,Int.reducePow,Nat.reducePow,Int.reduceGT,Int.reduceGE,if_true,if_false,ite_true,ite_false,beq_self_eq_true,BEq.rfl,reduceCtorEq,eq_self,ne_eq,Function.comp_def,beq_iff_eq]
    refine hE ?_ _ g0
    have d5' : ¬ (T.length : Int) = WW * HH := by simpa using d5
    simp only [show decide ((T.length : Int) = WW * HH) = false from decide_eq_false d5', Bool.false_and, Bool.and_false]
  have f5 : (T.length : Int) = WW * HH := by simpa using d5
  cases d6 : decide ((L.length : Int) > 256)
  case true =>
    simp only [c0, d1, d2, d3, d4, d5, d6, e1, al, alb, evf,↓evp,evq,evr,fxa0,fxa1,fxa2,fxa3,fxa4,fxu,fxn,fxl,↓fxp,lgc,absL,fitL,flatL,ares,ares1,ofVal,unSc,aload,afill,splice,abound,asI,elems,IntKind.bits,sortT,eqNil,closedL,allByte,patch,pendOK,numA,Value.cells,Value.oneCell',ibin,List.replicate,Option.elim,Nat.reduceAdd,Nat.reduceSub,Nat.reduceMul,Nat.reduceLT,Nat.reduceEqDiff,Nat.reduceLeDiff,Nat.reduceBEq,Int.reduceLE,Int.reduceLT,Int.reduceToNat,Int.reduceBNe,Int.reduceBEq,Int.reduceNeg,Int.reduceEq,Int.reduceNe,Nat.reduceBNe,Int.reduceAdd,Int.reduceSub,Int.reduceMul,Int.reducePow,Nat.reducePow,Int.reduceGT,Int.reduceGE,if_true,if_false,ite_true,ite_false,beq_self_eq_true,BEq.rfl,reduceCtorEq,eq_self,ne_eq,Function.comp_def,beq_iff_eq]
    refine hE ?_ _ g0
    have := of_decide_eq_true d6
    simp only [show decide (L.length ≤ 256) = false from decide_eq_false (by omega), Bool.false_and, Bool.and_false]
  have f6 := of_decide_eq_false d6
  simp only [show decide (1 ≤ WW) = true from decide_eq_true (by omega), show decide (WW ≤ 128) = true from decide_eq_true (by omega), show decide (1 ≤ HH) = true from decide_eq_true (by omega), show decide (HH ≤ 128) = true from decide_eq_true (by omega), show decide ((T.length : Int) = WW * HH) = true from decide_eq_true f5, show decide (L.length ≤ 256) = true from decide_eq_true (by omega), Bool.true_and] at hE hO
  simp only [c0, d1, d2, d3, d4, d5, d6, e1, al, alb, evf,↓evp,evq,evr,fxa0,fxa1,fxa2,fxa3,fxa4,fxu,fxn,fxl,↓fxp,lgc,absL,fitL,flatL,ares,ares1,ofVal,unSc,aload,afill,splice,abound,asI,elems,IntKind.bits,sortT,eqNil,closedL,allByte,patch,pendOK,numA,Value.cells,Value.oneCell',ibin,List.replicate,Option.elim,Nat.reduceAdd,Nat.reduceSub,Nat.reduceMul,Nat.reduceLT,Nat.reduceEqDiff,Nat.reduceLeDiff,Nat.reduceBEq,Int.reduceLE,Int.reduceLT,Int.reduceToNat,Int.reduceBNe,Int.reduceBEq,Int.reduceNeg,Int.reduceEq,Int.reduceNe,Nat.reduceBNe,Int.reduceAdd,Int.reduceSub,Int.reduceMul,Int.reducePow,Nat.reducePow,Int.reduceGT,Int.reduceGE,if_true,if_false,ite_true,ite_false,beq_self_eq_true,BEq.rfl,reduceCtorEq,eq_self,ne_eq,Function.comp_def,beq_iff_eq]
  refine aloop_forF (fun k f s => s = S ∧ ∃ i : Nat, k + i = m ∧ i ≤ T.length ∧ T.all (fun t => decide (t < 4)) = (T.drop i).all (fun t => decide (t < 4)) ∧ f 1 = .ref st.length 0 ∧ f 3 = .sc (.int .i64 i)) ⟨rfl, 0, by omega, by omega, rfl, by simp only [evf, ne_eq, Nat.reduceEqDiff, Nat.reduceLT, not_false_eq_true], by simp only [evf, ne_eq, Nat.reduceEqDiff, Nat.reduceLT, not_false_eq_true]; rfl⟩ ?_
  rintro I' hI' k f s ⟨rfl, i, hk, hi, hp, q1, q3⟩
  refine ⟨k - 1, by omega, ?_⟩
  by_cases hil : i < T.length
  · have d : decide ((i : Int) < T.length) = true := decide_eq_true (by omega)
    have e3 : IntKind.i64.wrap ((i : Int) + 1) = ((i + 1 : Nat) : Int) := by rw [IntWalk.i64_in _ (by omega)]; rfl
    have p1 := aix_rd ht0 Try.underlying62 sz5 .i64 (j := (i : Int)) (by omega) (by omega)
    have p2 := ald_ix ht0 sz5 sz5 (by omega) hil (o := 0) (by omega)
    have p3 : aload Try.prog 5 ((bs T).drop (i * 1 + 0)) = some (.sc (.int .u8 T[i])) := by
      simp only [aload, ag5, Nat.mul_one, Nat.add_zero]
      rw [List.getElem?_drop, Nat.add_zero]
      simp only [bs, List.getElem?_map, List.getElem?_eq_getElem hil, Option.map_some]
    rw [p3] at p2
    simp only [Int.toNat_natCast] at p1
    have hd : T.drop i = T[i] :: T.drop (i + 1) := List.drop_eq_getElem_cons hil
    rw [hd, List.all_cons] at hp
    have hti := hTb T[i] (List.getElem_mem hil)
    have e4 : IntKind.i64.wrap T[i] = T[i] := wi64 (by omega) (by omega)
    cases d7 : decide (T[i] ≥ 4)
    · have d7' : decide (T[i] < 4) = true := decide_eq_true (by have := of_decide_eq_false d7; omega)
      rw [d7', Bool.true_and] at hp
      simp only [q1, q3, c0, al, d, p1, p2, d7, e3, e4, evf,↓evp,evq,evr,fxa0,fxa1,fxa2,fxa3,fxa4,fxu,fxn,fxl,↓fxp,lgc,absL,fitL,flatL,ares,ares1,ofVal,unSc,aload,afill,splice,abound,asI,elems,IntKind.bits,sortT,eqNil,closedL,allByte,patch,pendOK,numA,Value.cells,Value.oneCell',ibin,List.replicate,Option.elim,Nat.reduceAdd,Nat.reduceSub,Nat.reduceMul,Nat.reduceLT,Nat.reduceEqDiff,Nat.reduceLeDiff,Nat.reduceBEq,Int.reduceLE,Int.reduceLT,Int.reduceToNat,Int.reduceBNe,Int.reduceBEq,Int.reduceNeg,Int.reduceEq,Int.reduceNe,Nat.reduceBNe,Int.reduceAdd,Int.reduceSub,Int.reduceMul,Int.reducePow,Nat.reducePow,Int.reduceGT,Int.reduceGE,if_true,if_false,ite_true,ite_false,beq_self_eq_true,BEq.rfl,reduceCtorEq,eq_self,ne_eq,Function.comp_def,beq_iff_eq]
      exact hI' _ _ _ ⟨rfl, i + 1, by omega, hil, hp, by simp only [q1, evf, ne_eq, Nat.reduceEqDiff, Nat.reduceLT, not_false_eq_true], by simp only [evf, ne_eq, Nat.reduceEqDiff, Nat.reduceLT, not_false_eq_true]⟩
    · have d7' : decide (T[i] < 4) = false := decide_eq_false (by have := of_decide_eq_true d7; omega)
      rw [d7', Bool.false_and] at hp
      simp only [q1, q3, c0, al, d, p1, p2, d7, e4, evf,↓evp,evq,evr,fxa0,fxa1,fxa2,fxa3,fxa4,fxu,fxn,fxl,↓fxp,lgc,absL,fitL,flatL,ares,ares1,ofVal,unSc,aload,afill,splice,abound,asI,elems,IntKind.bits,sortT,eqNil,closedL,allByte,patch,pendOK,numA,Value.cells,Value.oneCell',ibin,List.replicate,Option.elim,Nat.reduceAdd,Nat.reduceSub,Nat.reduceMul,Nat.reduceLT,Nat.reduceEqDiff,Nat.reduceLeDiff,Nat.reduceBEq,Int.reduceLE,Int.reduceLT,Int.reduceToNat,Int.reduceBNe,Int.reduceBEq,Int.reduceNeg,Int.reduceEq,Int.reduceNe,Nat.reduceBNe,Int.reduceAdd,Int.reduceSub,Int.reduceMul,Int.reducePow,Nat.reducePow,Int.reduceGT,Int.reduceGE,if_true,if_false,ite_true,ite_false,beq_self_eq_true,BEq.rfl,reduceCtorEq,eq_self,ne_eq,Function.comp_def,beq_iff_eq]
      refine hE ?_ _ g0
      rw [hp, Bool.false_and]
  have d : decide ((i : Int) < T.length) = false := decide_eq_false (by omega)
  obtain rfl : i = T.length := by omega
  rw [List.drop_length] at hp
  simp only [List.all_nil] at hp
  simp only [hp, Bool.true_and] at hE hO
  simp only [q1, q3, c0, al, d, evf,↓evp,evq,evr,fxa0,fxa1,fxa2,fxa3,fxa4,fxu,fxn,fxl,↓fxp,lgc,absL,fitL,flatL,ares,ares1,ofVal,unSc,aload,afill,splice,abound,asI,elems,IntKind.bits,sortT,eqNil,closedL,allByte,patch,pendOK,numA,Value.cells,Value.oneCell',ibin,List.replicate,Option.elim,Nat.reduceAdd,Nat.reduceSub,Nat.reduceMul,Nat.reduceLT,Nat.reduceEqDiff,Nat.reduceLeDiff,Nat.reduceBEq,Int.reduceLE,Int.reduceLT,Int.reduceToNat,Int.reduceBNe,Int.reduceBEq,Int.reduceNeg,Int.reduceEq,Int.reduceNe,Nat.reduceBNe,Int.reduceAdd,Int.reduceSub,Int.reduceMul,Int.reducePow,Nat.reducePow,Int.reduceGT,Int.reduceGE,if_true,if_false,ite_true,ite_false,beq_self_eq_true,BEq.rfl,reduceCtorEq,eq_self,ne_eq,Function.comp_def,beq_iff_eq]
  refine aloop_forF (fun k f s' => ∃ i : Nat, Grw s s' ∧ k + i = m ∧ i ≤ L.length ∧ chk WW HH [] L = chk WW HH (L.take i) (L.drop i) ∧ f 1 = .ref st.length 0 ∧ f 4 = .sc (.int .i64 i)) ⟨0, fun _ _ h => h, by omega, by omega, rfl, by simp only [q1, evf, ne_eq, Nat.reduceEqDiff, Nat.reduceLT, not_false_eq_true], by simp only [evf, ne_eq, Nat.reduceEqDiff, Nat.reduceLT, not_false_eq_true]; rfl⟩ ?_
  rintro I2 hI2 k2 f2 s2 ⟨i, gs2, hk2, hi2, hp2, r1, r4⟩
  refine ⟨k2 - 1, by omega, ?_⟩
  have c2 := gs2 _ _ c0
  have hb2 := hb0.grw gs2
  have alb2 := alen_rd hb2 Try.underlying63
  by_cases hil2 : i < L.length
  · have d : decide ((i : Int) < L.length) = true := decide_eq_true (by omega)
    have e3 : IntKind.i64.wrap ((i : Int) + 1) = ((i + 1 : Nat) : Int) := by rw [IntWalk.i64_in _ (by omega)]; rfl
    obtain ⟨p1, p2⟩ := ix_flat (f := B4.v) (fun a => rfl) hb2 Try.underlying63 sz90 ag90 (by omega) hil2
    have hd : L.drop i = L[i] :: L.drop (i + 1) := List.drop_eq_getElem_cons hil2
    rw [hd] at hp2
    simp only [chk] at hp2
    generalize hu : L[i] = u at hp2 p2
    simp only [B4.v, bd, rc] at p2
    simp only [r1, r4, c2, alb2, d, p1, p2, evf,↓evp,evq,evr,fxa0,fxa1,fxa2,fxa3,fxa4,fxu,fxn,fxl,↓fxp,lgc,absL,fitL,flatL,ares,ares1,ofVal,unSc,aload,afill,splice,abound,asI,elems,IntKind.bits,sortT,eqNil,closedL,allByte,patch,pendOK,numA,Value.cells,Value.oneCell',ibin,List.replicate,Option.elim,Nat.reduceAdd,Nat.reduceSub,Nat.reduceMul,Nat.reduceLT,Nat.reduceEqDiff,Nat.reduceLeDiff,Nat.reduceBEq,Int.reduceLE,Int.reduceLT,Int.reduceToNat,Int.reduceBNe,Int.reduceBEq,Int.reduceNeg,Int.reduceEq,Int.reduceNe,Nat.reduceBNe,Int.reduceAdd,Int.reduceSub,Int.reduceMul,Int.reducePow,Nat.reducePow,Int.reduceGT,Int.reduceGE,if_true,if_false,ite_true,ite_false,beq_self_eq_true,BEq.rfl,reduceCtorEq,eq_self,ne_eq,Function.comp_def,beq_iff_eq]
    refine r_MayBe (n := n) fun s3 j3 => ?_
    have c3 := j3 _ _ c2
    have gs3 := gs2.trans j3
    cases e7 : bmayB u.id u.x u.y u.w u.h WW HH
    · rw [e7, Bool.false_and, Bool.false_and] at hp2
      simp only [r1, r4, c2, c3, alb2, d, p1, p2, j3, evf,↓evp,evq,evr,fxa0,fxa1,fxa2,fxa3,fxa4,fxu,fxn,fxl,↓fxp,lgc,absL,fitL,flatL,ares,ares1,ofVal,unSc,aload,afill,splice,abound,asI,elems,IntKind.bits,sortT,eqNil,closedL,allByte,patch,pendOK,numA,Value.cells,Value.oneCell',ibin,List.replicate,Option.elim,Nat.reduceAdd,Nat.reduceSub,Nat.reduceMul,Nat.reduceLT,Nat.reduceEqDiff,Nat.reduceLeDiff,Nat.reduceBEq,Int.reduceLE,Int.reduceLT,Int.reduceToNat,Int.reduceBNe,Int.reduceBEq,Int.reduceNeg,Int.reduceEq,Int.reduceNe,Nat.reduceBNe,Int.reduceAdd,Int.reduceSub,Int.reduceMul,Int.reducePow,Nat.reducePow,Int.reduceGT,Int.reduceGE,if_true,if_false,ite_true,ite_false,beq_self_eq_true,BEq.rfl,reduceCtorEq,eq_self,ne_eq,Function.comp_def,beq_iff_eq]
      exact hE hp2 _ (g0.trans gs3)
    rw [e7, Bool.true_and] at hp2
    simp only [r1, r4, c2, c3, alb2, d, p1, p2, j3, evf,↓evp,evq,evr,fxa0,fxa1,fxa2,fxa3,fxa4,fxu,fxn,fxl,↓fxp,lgc,absL,fitL,flatL,ares,ares1,ofVal,unSc,aload,afill,splice,abound,asI,elems,IntKind.bits,sortT,eqNil,closedL,allByte,patch,pendOK,numA,Value.cells,Value.oneCell',ibin,List.replicate,Option.elim,Nat.reduceAdd,Nat.reduceSub,Nat.reduceMul,Nat.reduceLT,Nat.reduceEqDiff,Nat.reduceLeDiff,Nat.reduceBEq,Int.reduceLE,Int.reduceLT,Int.reduceToNat,Int.reduceBNe,Int.reduceBEq,Int.reduceNeg,Int.reduceEq,Int.reduceNe,Nat.reduceBNe,Int.reduceAdd,Int.reduceSub,Int.reduceMul,Int.reducePow,Nat.reducePow,Int.reduceGT,Int.reduceGE,if_true,if_false,ite_true,ite_false,beq_self_eq_true,BEq.rfl,reduceCtorEq,eq_self,ne_eq,Function.comp_def,beq_iff_eq]
    refine aloop_forF (fun k f s' => ∃ q : Nat, Grw s s' ∧ k + q = m ∧ q ≤ i ∧ (L.take i).all (pairB u) = ((L.take i).drop q).all (pairB u) ∧ f 1 = .ref st.length 0 ∧ f 4 = .sc (.int .i64 i) ∧ f 5 = .sc (.int .i64 q)) ⟨0, gs3, by omega, by omega, rfl, by simp only [r1, evf, ne_eq, Nat.reduceEqDiff, Nat.reduceLT, not_false_eq_true], by simp only [r4, evf, ne_eq, Nat.reduceEqDiff, Nat.reduceLT, not_false_eq_true], by simp only [evf, ne_eq, Nat.reduceEqDiff, Nat.reduceLT, not_false_eq_true]; rfl⟩ ?_
    rintro I4 hI4 k4 f4 s4 ⟨q, gs4, hk4, hq4, hp4, t1, t4, t5⟩
    refine ⟨k4 - 1, by omega, ?_⟩
    have c4 := gs4 _ _ c0
    have hb4 := hb0.grw gs4
    by_cases hqi : q < i
    · have dq : decide ((q : Int) < i) = true := decide_eq_true (by omega)
      have e5 : IntKind.i64.wrap ((q : Int) + 1) = ((q + 1 : Nat) : Int) := by rw [IntWalk.i64_in _ (by omega)]; rfl
      have hql : q < L.length := by omega
      obtain ⟨a1, _⟩ := ix_flat (f := B4.v) (fun a => rfl) hb4 Try.underlying63 sz90 ag90 (by omega) hql
      obtain ⟨a2, a3⟩ := b_id hb4 hql
      obtain ⟨a4, a5⟩ := b_r hb4 hql
      obtain ⟨z1, _⟩ := ix_flat (f := B4.v) (fun a => rfl) hb4 Try.underlying63 sz90 ag90 (by omega) hil2
      obtain ⟨z2, z3⟩ := b_id hb4 hil2
      obtain ⟨z4, z5⟩ := b_r hb4 hil2
      rw [hu] at z3 z5
      have hlt : q < (L.take i).length := by rw [List.length_take]; omega
      have hd4 : (L.take i).drop q = (L.take i)[q] :: (L.take i).drop (q + 1) := List.drop_eq_getElem_cons hlt
      rw [hd4, List.all_cons, List.getElem_take] at hp4
      generalize hv : L[q] = v at hp4 a3 a5
      cases d8 : decide (v.id ≥ u.id)
      case true =>
        have d8' := of_decide_eq_true d8
        have : pairB u v = false := by simp only [pairB, show decide (v.id < u.id) = false from decide_eq_false (by omega), Bool.false_and]
        rw [this, Bool.false_and] at hp4
        rw [hp4, Bool.false_and] at hp2
        simp only [t1, t4, t5, c4, dq, a1, a2, a3, z1, z2, z3, d8, evf,↓evp,evq,evr,fxa0,fxa1,fxa2,fxa3,fxa4,fxu,fxn,fxl,↓fxp,lgc,absL,fitL,flatL,ares,ares1,ofVal,unSc,aload,afill,splice,abound,asI,elems,IntKind.bits,sortT,eqNil,closedL,allByte,patch,pendOK,numA,Value.cells,Value.oneCell',ibin,List.replicate,Option.elim,Nat.reduceAdd,Nat.reduceSub,Nat.reduceMul,Nat.reduceLT,Nat.reduceEqDiff,Nat.reduceLeDiff,Nat.reduceBEq,Int.reduceLE,Int.reduceLT,Int.reduceToNat,Int.reduceBNe,Int.reduceBEq,Int.reduceNeg,Int.reduceEq,Int.reduceNe,Nat.reduceBNe,Int.reduceAdd,Int.reduceSub,Int.reduceMul,Int.reducePow,Nat.reducePow,Int.reduceGT,Int.reduceGE,if_true,if_false,ite_true,ite_false,beq_self_eq_true,BEq.rfl,reduceCtorEq,eq_self,ne_eq,Function.comp_def,beq_iff_eq]
        exact hE hp2 _ (g0.trans gs4)
      have d8' := of_decide_eq_false d8
      simp only [t1, t4, t5, c4, dq, a1, a2, a3, a4, a5, z1, z2, z3, z4, z5, d8, evf,↓evp,evq,evr,fxa0,fxa1,fxa2,fxa3,fxa4,fxu,fxn,fxl,↓fxp,lgc,absL,fitL,flatL,ares,ares1,ofVal,unSc,aload,afill,splice,abound,asI,elems,IntKind.bits,sortT,eqNil,closedL,allByte,patch,pendOK,numA,Value.cells,Value.oneCell',ibin,List.replicate,Option.elim,Nat.reduceAdd,Nat.reduceSub,Nat.reduceMul,Nat.reduceLT,Nat.reduceEqDiff,Nat.reduceLeDiff,Nat.reduceBEq,Int.reduceLE,Int.reduceLT,Int.reduceToNat,Int.reduceBNe,Int.reduceBEq,Int.reduceNeg,Int.reduceEq,Int.reduceNe,Nat.reduceBNe,Int.reduceAdd,Int.reduceSub,Int.reduceMul,Int.reducePow,Nat.reducePow,Int.reduceGT,Int.reduceGE,if_true,if_false,ite_true,ite_false,beq_self_eq_true,BEq.rfl,reduceCtorEq,eq_self,ne_eq,Function.comp_def,beq_iff_eq]
      refine r_share (n := n + 1) fun s5 j5 => ?_
      have c5 := j5 _ _ c4
      have gs5 := gs4.trans j5
      cases e9 : meetB v.x v.y v.w v.h u.x u.y u.w u.h
      · have : pairB u v = true := by simp only [pairB, show decide (v.id < u.id) = true from decide_eq_true (by omega), e9, Bool.not_false, Bool.and_self]
        rw [this, Bool.true_and] at hp4
        simp only [t1, t4, t5, c4, c5, dq, a1, a2, a3, a4, a5, z1, z2, z3, z4, z5, d8, j5, e5, evf,↓evp,evq,evr,fxa0,fxa1,fxa2,fxa3,fxa4,fxu,fxn,fxl,↓fxp,lgc,absL,fitL,flatL,ares,ares1,ofVal,unSc,aload,afill,splice,abound,asI,elems,IntKind.bits,sortT,eqNil,closedL,allByte,patch,pendOK,numA,Value.cells,Value.oneCell',ibin,List.replicate,Option.elim,Nat.reduceAdd,Nat.reduceSub,Nat.reduceMul,Nat.reduceLT,Nat.reduceEqDiff,Nat.reduceLeDiff,Nat.reduceBEq,Int.reduceLE,Int.reduceLT,Int.reduceToNat,Int.reduceBNe,Int.reduceBEq,Int.reduceNeg,Int.reduceEq,Int.reduceNe,Nat.reduceBNe,Int.reduceAdd,Int.reduceSub,Int.reduceMul,Int.reducePow,Nat.reducePow,Int.reduceGT,Int.reduceGE,if_true,if_false,ite_true,ite_false,beq_self_eq_true,BEq.rfl,reduceCtorEq,eq_self,ne_eq,Function.comp_def,beq_iff_eq]
        exact hI4 _ _ _ ⟨q + 1, gs5, by omega, by omega, hp4, by simp only [t1, evf, ne_eq, Nat.reduceEqDiff, Nat.reduceLT, not_false_eq_true], by simp only [t4, evf, ne_eq, Nat.reduceEqDiff, Nat.reduceLT, not_false_eq_true], by simp only [evf, ne_eq, Nat.reduceEqDiff, Nat.reduceLT, not_false_eq_true]⟩
      · have : pairB u v = false := by simp only [pairB, e9, Bool.not_true, Bool.and_false]
        rw [this, Bool.false_and] at hp4
        rw [hp4, Bool.false_and] at hp2
        simp only [t1, t4, t5, c4, c5, dq, a1, a2, a3, a4, a5, z1, z2, z3, z4, z5, d8, j5, evf,↓evp,evq,evr,fxa0,fxa1,fxa2,fxa3,fxa4,fxu,fxn,fxl,↓fxp,lgc,absL,fitL,flatL,ares,ares1,ofVal,unSc,aload,afill,splice,abound,asI,elems,IntKind.bits,sortT,eqNil,closedL,allByte,patch,pendOK,numA,Value.cells,Value.oneCell',ibin,List.replicate,Option.elim,Nat.reduceAdd,Nat.reduceSub,Nat.reduceMul,Nat.reduceLT,Nat.reduceEqDiff,Nat.reduceLeDiff,Nat.reduceBEq,Int.reduceLE,Int.reduceLT,Int.reduceToNat,Int.reduceBNe,Int.reduceBEq,Int.reduceNeg,Int.reduceEq,Int.reduceNe,Nat.reduceBNe,Int.reduceAdd,Int.reduceSub,Int.reduceMul,Int.reducePow,Nat.reducePow,Int.reduceGT,Int.reduceGE,if_true,if_false,ite_true,ite_false,beq_self_eq_true,BEq.rfl,reduceCtorEq,eq_self,ne_eq,Function.comp_def,beq_iff_eq]
        exact hE hp2 _ (g0.trans gs5)
    · have dq : decide ((q : Int) < i) = false := decide_eq_false (by omega)
      have : (L.take i).drop q = [] := List.drop_eq_nil_of_le (by rw [List.length_take]; omega)
      rw [this, List.all_nil] at hp4
      rw [hp4, Bool.true_and] at hp2
      simp only [t1, t4, t5, dq, e3, evf,↓evp,evq,evr,fxa0,fxa1,fxa2,fxa3,fxa4,fxu,fxn,fxl,↓fxp,lgc,absL,fitL,flatL,ares,ares1,ofVal,unSc,aload,afill,splice,abound,asI,elems,IntKind.bits,sortT,eqNil,closedL,allByte,patch,pendOK,numA,Value.cells,Value.oneCell',ibin,List.replicate,Option.elim,Nat.reduceAdd,Nat.reduceSub,Nat.reduceMul,Nat.reduceLT,Nat.reduceEqDiff,Nat.reduceLeDiff,Nat.reduceBEq,Int.reduceLE,Int.reduceLT,Int.reduceToNat,Int.reduceBNe,Int.reduceBEq,Int.reduceNeg,Int.reduceEq,Int.reduceNe,Nat.reduceBNe,Int.reduceAdd,Int.reduceSub,Int.reduceMul,Int.reducePow,Nat.reducePow,Int.reduceGT,Int.reduceGE,if_true,if_false,ite_true,ite_false,beq_self_eq_true,BEq.rfl,reduceCtorEq,eq_self,ne_eq,Function.comp_def,beq_iff_eq]
      refine hI2 _ _ _ ⟨i + 1, gs4, by omega, by omega, ?_, by simp only [t1, evf, ne_eq, Nat.reduceEqDiff, Nat.reduceLT, not_false_eq_true], by simp only [evf, ne_eq, Nat.reduceEqDiff, Nat.reduceLT, not_false_eq_true]⟩
      rw [hp2, List.take_succ_eq_append_getElem hil2, hu]
  · have d : decide ((i : Int) < L.length) = false := decide_eq_false (by omega)
    obtain rfl : i = L.length := by omega
    rw [List.drop_length] at hp2
    simp only [chk] at hp2
    simp only [r1, r4, c2, alb2, d, evf,↓evp,evq,evr,fxa0,fxa1,fxa2,fxa3,fxa4,fxu,fxn,fxl,↓fxp,lgc,absL,fitL,flatL,ares,ares1,ofVal,unSc,aload,afill,splice,abound,asI,elems,IntKind.bits,sortT,eqNil,closedL,allByte,patch,pendOK,numA,Value.cells,Value.oneCell',ibin,List.replicate,Option.elim,Nat.reduceAdd,Nat.reduceSub,Nat.reduceMul,Nat.reduceLT,Nat.reduceEqDiff,Nat.reduceLeDiff,Nat.reduceBEq,Int.reduceLE,Int.reduceLT,Int.reduceToNat,Int.reduceBNe,Int.reduceBEq,Int.reduceNeg,Int.reduceEq,Int.reduceNe,Nat.reduceBNe,Int.reduceAdd,Int.reduceSub,Int.reduceMul,Int.reducePow,Nat.reducePow,Int.reduceGT,Int.reduceGE,if_true,if_false,ite_true,ite_false,beq_self_eq_true,BEq.rfl,reduceCtorEq,eq_self,ne_eq,Function.comp_def,beq_iff_eq]
    exact hO hp2 _ (g0.trans gs2)
end
end Go.Proofs.Ytndjhaeeldegfaa
