/- Chapter 24: kinds, lists of units, parts, the check. -/
import Derived.Test.YtfndpnmdjblokaaC1
set_option linter.unusedVariables false
set_option linter.unusedSimpArgs false
set_option maxRecDepth 10000
namespace Go.Proofs.Ytfndpnmdjblokaa
open Go Go.M Go.RowKit
attribute [local congr] acallF_cong aloop_cong bcase_cong resK_cong valK_cong wantK_cong callK_cong xputK_cong qputK_cong
attribute [local irreducible] seqK blockK loopK nextK bcase resK valK wantK funK putK dputK xputK qputK callK aops aop acode adraw aloop acallF acall invK
def is (l : List Int) : List V := l.map fun n => .sc (.int .i64 n)
theorem is_length (l : List Int) : (is l).length = l.length := by simp [is]
theorem ix_is {v : V} {xs : List Int} {st : List Ob} (hv : Rd Try.prog st 3 v (is xs) xs.length) {i : Nat} (hi : i < xs.length) : aix Try.prog st 53 v (.sc (.int .i64 i)) = some (ixp 1 v i 0, st) ∧ ald Try.prog st 3 (ixp 1 v i 0) = some (.sc (.int .i64 xs[i]), st) := by
  refine ⟨?_, ?_⟩
  · rw [aix_rd hv Try.underlying53 sz3 .i64 (by omega) (by omega), Int.toNat_natCast]
  · rw [ald_ix hv sz3 sz3 (by omega) hi (by omega)]
    simp only [aload, ag3, is, Nat.mul_one, Nat.add_zero, List.getElem?_drop, List.getElem?_map, List.getElem?_eq_getElem hi, Option.map_some]
section
variable {n m : Nat} {st : List Ob} {K : V → List Ob → Prop}
def kU (k : Int) : Bool := k == 1 || k == 2
def kA (k : Int) : Bool := k == 1 || k == 3 || k == 5
def kZ (k : Int) : Bool := k == 3
def kI (k : Int) : Bool := k == 3 || k == 4 || k == 5
def kS (k : Int) : Bool := k == 5
def bb (b : Bool) : V := .sc (.bool b)
def kindV (k : Int) : List V := [bb (kU k), bb (kA k), bb (kZ k), bb (kI k), bb (kS k)]
theorem c_kinds (h : ∀ s, Grw st s → K (.agg (kindV 0 ++ kindV 1 ++ kindV 2 ++ kindV 3 ++ kindV 4 ++ kindV 5)) s) : acallF Try.prog pl (n + 1) m 89 [] st K := by
  rw [acallF_eq Try.func89 rfl]
  simp only [↓evp,evq,evr,fxa0,fxa1,fxa2,fxa3,fxu,fxn,fxl,↓fxp,lgc,absL,fitL,flatL,aput,ares,ares1,ofVal,unSc,aload,afill,splice,abound,asI,elems,IntKind.bits,sortT,eqNil,closedL,allByte,patch,pendOK,numA,Value.cells,Value.oneCell',ibin,List.replicate,Option.elim,Nat.reduceAdd,Nat.reduceSub,Nat.reduceMul,Nat.reduceLT,Nat.reduceEqDiff,Nat.reduceLeDiff,Nat.reduceBEq,Int.reduceLE,Int.reduceLT,Int.reduceToNat,Int.reduceBNe,Int.reduceBEq,Int.reduceNeg,Int.reduceEq,Int.reduceNe,Nat.reduceBNe,Int.reduceAdd,Int.reduceSub,Int.reduceMul,Int.reducePow,Nat.reducePow,Int.reduceGT,Int.reduceGE,if_true,if_false,ite_true,ite_false,beq_self_eq_true,BEq.rfl,reduceCtorEq,eq_self,ne_eq,Function.comp_def,beq_iff_eq]
  exact h _ (.push _ _)
theorem c_of {k : Int} (h : ∀ s, Grw st s → K (.tup [.agg (kindV k), .sc (.bool (withinB k 1 5))]) s) : acallF Try.prog pl (n + 2) m 70 [.sc (.int .i64 k)] st K := by
  rw [acallF_eq Try.func70 rfl]
  unfold withinB at h
  by_cases h1 : k < 1
  · have e1 : decide (k < 1) = true := decide_eq_true h1
    have e2 : decide (k ≥ 1) = false := decide_eq_false (by omega)
    have e3 : kindV k = [.sc (.bool false), .sc (.bool false), .sc (.bool false), .sc (.bool false), .sc (.bool false)] := by
      simp [kindV, kU, kA, kZ, kI, kS, bb]; omega
    simp only [e2, e3, Bool.false_and] at h
    simp only [e1, ↓evp,evq,evr,fxa0,fxa1,fxa2,fxa3,fxu,fxn,fxl,↓fxp,lgc,absL,fitL,flatL,aput,ares,ares1,ofVal,unSc,aload,afill,splice,abound,asI,elems,IntKind.bits,sortT,eqNil,closedL,allByte,patch,pendOK,numA,Value.cells,Value.oneCell',ibin,List.replicate,Option.elim,Nat.reduceAdd,Nat.reduceSub,Nat.reduceMul,Nat.reduceLT,Nat.reduceEqDiff,Nat.reduceLeDiff,Nat.reduceBEq,Int.reduceLE,Int.reduceLT,Int.reduceToNat,Int.reduceBNe,Int.reduceBEq,Int.reduceNeg,Int.reduceEq,Int.reduceNe,Nat.reduceBNe,Int.reduceAdd,Int.reduceSub,Int.reduceMul,Int.reducePow,Nat.reducePow,Int.reduceGT,Int.reduceGE,if_true,if_false,ite_true,ite_false,beq_self_eq_true,BEq.rfl,reduceCtorEq,eq_self,ne_eq,Function.comp_def,beq_iff_eq]
    exact h _ (.push _ _)
  have e1 : decide (k < 1) = false := decide_eq_false h1
  have e2 : decide (k ≥ 1) = true := decide_eq_true (by omega)
  by_cases h2 : k ≥ 6
  · have e3 : decide (k ≥ 6) = true := decide_eq_true h2
    have e4 : decide (k ≤ 5) = false := decide_eq_false (by omega)
    have e5 : kindV k = [.sc (.bool false), .sc (.bool false), .sc (.bool false), .sc (.bool false), .sc (.bool false)] := by
      simp [kindV, kU, kA, kZ, kI, kS, bb]; omega
    simp only [e2, e4, e5, Bool.and_false] at h
    simp only [e1, e3, ↓evp,evq,evr,fxa0,fxa1,fxa2,fxa3,fxu,fxn,fxl,↓fxp,lgc,absL,fitL,flatL,aput,ares,ares1,ofVal,unSc,aload,afill,splice,abound,asI,elems,IntKind.bits,sortT,eqNil,closedL,allByte,patch,pendOK,numA,Value.cells,Value.oneCell',ibin,List.replicate,Option.elim,Nat.reduceAdd,Nat.reduceSub,Nat.reduceMul,Nat.reduceLT,Nat.reduceEqDiff,Nat.reduceLeDiff,Nat.reduceBEq,Int.reduceLE,Int.reduceLT,Int.reduceToNat,Int.reduceBNe,Int.reduceBEq,Int.reduceNeg,Int.reduceEq,Int.reduceNe,Nat.reduceBNe,Int.reduceAdd,Int.reduceSub,Int.reduceMul,Int.reducePow,Nat.reducePow,Int.reduceGT,Int.reduceGE,if_true,if_false,ite_true,ite_false,beq_self_eq_true,BEq.rfl,reduceCtorEq,eq_self,ne_eq,Function.comp_def,beq_iff_eq]
    exact h _ (.push _ _)
  have e3 : decide (k ≥ 6) = false := decide_eq_false h2
  have e4 : decide (k ≤ 5) = true := decide_eq_true (by omega)
  simp only [e2, e4, Bool.and_true] at h
  simp only [e1, e3, ↓evp,evq,evr,fxa0,fxa1,fxa2,fxa3,fxu,fxn,fxl,↓fxp,lgc,absL,fitL,flatL,aput,ares,ares1,ofVal,unSc,aload,afill,splice,abound,asI,elems,IntKind.bits,sortT,eqNil,closedL,allByte,patch,pendOK,numA,Value.cells,Value.oneCell',ibin,List.replicate,Option.elim,Nat.reduceAdd,Nat.reduceSub,Nat.reduceMul,Nat.reduceLT,Nat.reduceEqDiff,Nat.reduceLeDiff,Nat.reduceBEq,Int.reduceLE,Int.reduceLT,Int.reduceToNat,Int.reduceBNe,Int.reduceBEq,Int.reduceNeg,Int.reduceEq,Int.reduceNe,Nat.reduceBNe,Int.reduceAdd,Int.reduceSub,Int.reduceMul,Int.reducePow,Nat.reducePow,Int.reduceGT,Int.reduceGE,if_true,if_false,ite_true,ite_false,beq_self_eq_true,BEq.rfl,reduceCtorEq,eq_self,ne_eq,Function.comp_def,beq_iff_eq]
  refine c_kinds fun s hs => ?_
  have hg : ∀ cs, Grw st (s.set st.length (.cells cs)) := fun cs => (Grw.push st [.cells [.sc (.bool false), .sc (.bool false), .sc (.bool false), .sc (.bool false), .sc (.bool false)]]).trans hs |>.set' (Nat.le_refl _) _
  have hc := hs _ _ (get_new0 st [.cells [.sc (.bool false), .sc (.bool false), .sc (.bool false), .sc (.bool false), .sc (.bool false)]])
  have hgs := fun x => get_set hc x
  have hk : k = 1 ∨ k = 2 ∨ k = 3 ∨ k = 4 ∨ k = 5 := by omega
  rcases hk with rfl | rfl | rfl | rfl | rfl <;> simp only [kindV, bb, hc, hgs, ↓evp,evq,evr,fxa0,fxa1,fxa2,fxa3,fxu,fxn,fxl,↓fxp,lgc,absL,fitL,flatL,aput,ares,ares1,ofVal,unSc,aload,afill,splice,abound,asI,elems,IntKind.bits,sortT,eqNil,closedL,allByte,patch,pendOK,numA,Value.cells,Value.oneCell',ibin,List.replicate,Option.elim,Nat.reduceAdd,Nat.reduceSub,Nat.reduceMul,Nat.reduceLT,Nat.reduceEqDiff,Nat.reduceLeDiff,Nat.reduceBEq,Int.reduceLE,Int.reduceLT,Int.reduceToNat,Int.reduceBNe,Int.reduceBEq,Int.reduceNeg,Int.reduceEq,Int.reduceNe,Nat.reduceBNe,Int.reduceAdd,Int.reduceSub,Int.reduceMul,Int.reducePow,Nat.reducePow,Int.reduceGT,Int.reduceGE,if_true,if_false,ite_true,ite_false,beq_self_eq_true,BEq.rfl,reduceCtorEq,eq_self,ne_eq,Function.comp_def,beq_iff_eq] <;> exact h _ (hg _)
/-- Rising numbers above one. -/
def goB (last : Int) : List Int → Bool
  | [] => true
  | x :: xs => withinB x (last + 1) 2147483647 && goB x xs
def unitsB (l : List Int) : Bool := goB 0 l && withinB l.length 1 64
theorem c_units {v : V} {xs : List Int} (hv : Rd Try.prog st 3 v (is xs) xs.length) (hl : xs.length < 4611686018427387904) (hm : xs.length < m) (h : K (.sc (.bool (unitsB xs))) st) : acallF Try.prog pl (n + 2) m 90 [v] st K := by
  rw [acallF_eq Try.func90 rfl]
  have hal := alen_rd hv Try.underlying53
  simp only [hal, ↓evp,evq,evr,fxa0,fxa1,fxa2,fxa3,fxu,fxn,fxl,↓fxp,lgc,absL,fitL,flatL,aput,ares,ares1,ofVal,unSc,aload,afill,splice,abound,asI,elems,IntKind.bits,sortT,eqNil,closedL,allByte,patch,pendOK,numA,Value.cells,Value.oneCell',ibin,List.replicate,Option.elim,Nat.reduceAdd,Nat.reduceSub,Nat.reduceMul,Nat.reduceLT,Nat.reduceEqDiff,Nat.reduceLeDiff,Nat.reduceBEq,Int.reduceLE,Int.reduceLT,Int.reduceToNat,Int.reduceBNe,Int.reduceBEq,Int.reduceNeg,Int.reduceEq,Int.reduceNe,Nat.reduceBNe,Int.reduceAdd,Int.reduceSub,Int.reduceMul,Int.reducePow,Nat.reducePow,Int.reduceGT,Int.reduceGE,if_true,if_false,ite_true,ite_false,beq_self_eq_true,BEq.rfl,reduceCtorEq,eq_self,ne_eq,Function.comp_def,beq_iff_eq]
  refine aloop_for (fun k t s => s = st ∧ ∃ (i : Nat) (last : Int), k + i = m ∧ i ≤ xs.length ∧ 0 ≤ last ∧ last ≤ 2147483647 ∧ (i = 0 → last = 0) ∧ (∀ j, i = j + 1 → xs[j]? = some last) ∧ goB 0 xs = goB last (xs.drop i) ∧
    ∃ hf : Nat → V, t = [v, hf 1, hf 2, hf 3, hf 4, v, .sc (.int .i64 xs.length), .sc (.int .i64 i), hf 8, hf 9, hf 10, hf 11, hf 12, hf 13, hf 14, hf 15, hf 16, hf 17, hf 18, hf 19, hf 20, hf 21, hf 22, hf 23, hf 24, hf 25, hf 26, hf 27, hf 28, hf 29, hf 30, hf 31]) ⟨rfl, 0, 0, by omega, by omega, by omega, by omega, fun _ => rfl, by omega, rfl, (hol [V.dead, _, _, _, _, V.dead, V.dead, V.dead, _, _, _, _, _, _, _, _, _, _, _, _, _, _, _, _, _, _, _, _, _, _, _, _]), rfl⟩ ?_
  rintro I' hI' k t s ⟨rfl, i, last, hk, hi, hl0, hl1, h0, hlast, hgo, hf, rfl⟩
  refine ⟨k - 1, by omega, ?_⟩
  by_cases hil : i < xs.length
  · have d : decide ((i : Int) < xs.length) = true := decide_eq_true (by omega)
    obtain ⟨p1, p2⟩ := ix_is hv hil
    have a1 : IntKind.i64.wrap ((i : Int) + 1) = ((i + 1 : Nat) : Int) := by rw [IntWalk.i64_in _ (by omega)]; rfl
    rw [List.drop_eq_getElem_cons hil, goB] at hgo
    have hget : xs[i]? = some xs[i] := List.getElem?_eq_getElem hil
    have bad : withinB xs[i] (last + 1) 2147483647 = false → unitsB xs = false := fun hb => by unfold unitsB; rw [hgo, hb]; rfl
    simp only [d, p1, p2, ↓evp,evq,evr,fxa0,fxa1,fxa2,fxa3,fxu,fxn,fxl,↓fxp,lgc,absL,fitL,flatL,aput,ares,ares1,ofVal,unSc,aload,afill,splice,abound,asI,elems,IntKind.bits,sortT,eqNil,closedL,allByte,patch,pendOK,numA,Value.cells,Value.oneCell',ibin,List.replicate,Option.elim,Nat.reduceAdd,Nat.reduceSub,Nat.reduceMul,Nat.reduceLT,Nat.reduceEqDiff,Nat.reduceLeDiff,Nat.reduceBEq,Int.reduceLE,Int.reduceLT,Int.reduceToNat,Int.reduceBNe,Int.reduceBEq,Int.reduceNeg,Int.reduceEq,Int.reduceNe,Nat.reduceBNe,Int.reduceAdd,Int.reduceSub,Int.reduceMul,Int.reducePow,Nat.reducePow,Int.reduceGT,Int.reduceGE,if_true,if_false,ite_true,ite_false,beq_self_eq_true,BEq.rfl,reduceCtorEq,eq_self,ne_eq,Function.comp_def,beq_iff_eq]
    refine c_within ?_
    by_cases hw : withinB xs[i] 1 2147483647 = true
    · by_cases hi0 : i > 0
      · have d2 : decide ((i : Int) > 0) = true := decide_eq_true (by omega)
        have a2 : IntKind.i64.wrap ((i : Int) - 1) = ((i - 1 : Nat) : Int) := by rw [IntWalk.i64_in _ (by omega)]; omega
        obtain ⟨j1, j2⟩ := ix_is hv (i := i - 1) (by omega)
        have hj : xs[i - 1]'(by omega) = last := by
          have := hlast (i - 1) (by omega)
          rw [List.getElem?_eq_getElem (by omega)] at this
          exact Option.some.inj this
        rw [hj] at j2
        by_cases hle : xs[i] ≤ last
        · have d3 : decide (xs[i] ≤ last) = true := decide_eq_true hle
          have hb := bad (by simp [withinB]; omega)
          rw [hb] at h
          simp only [hw, d2, a2, j1, j2, d3, ↓evp,evq,evr,fxa0,fxa1,fxa2,fxa3,fxu,fxn,fxl,↓fxp,lgc,absL,fitL,flatL,aput,ares,ares1,ofVal,unSc,aload,afill,splice,abound,asI,elems,IntKind.bits,sortT,eqNil,closedL,allByte,patch,pendOK,numA,Value.cells,Value.oneCell',ibin,List.replicate,Option.elim,Nat.reduceAdd,Nat.reduceSub,Nat.reduceMul,Nat.reduceLT,Nat.reduceEqDiff,Nat.reduceLeDiff,Nat.reduceBEq,Int.reduceLE,Int.reduceLT,Int.reduceToNat,Int.reduceBNe,Int.reduceBEq,Int.reduceNeg,Int.reduceEq,Int.reduceNe,Nat.reduceBNe,Int.reduceAdd,Int.reduceSub,Int.reduceMul,Int.reducePow,Nat.reducePow,Int.reduceGT,Int.reduceGE,if_true,if_false,ite_true,ite_false,beq_self_eq_true,BEq.rfl,reduceCtorEq,eq_self,ne_eq,Function.comp_def,beq_iff_eq]
          exact h
        · have d3 : decide (xs[i] ≤ last) = false := decide_eq_false hle
          simp only [hw, d2, a2, j1, j2, d3, a1, ↓evp,evq,evr,fxa0,fxa1,fxa2,fxa3,fxu,fxn,fxl,↓fxp,lgc,absL,fitL,flatL,aput,ares,ares1,ofVal,unSc,aload,afill,splice,abound,asI,elems,IntKind.bits,sortT,eqNil,closedL,allByte,patch,pendOK,numA,Value.cells,Value.oneCell',ibin,List.replicate,Option.elim,Nat.reduceAdd,Nat.reduceSub,Nat.reduceMul,Nat.reduceLT,Nat.reduceEqDiff,Nat.reduceLeDiff,Nat.reduceBEq,Int.reduceLE,Int.reduceLT,Int.reduceToNat,Int.reduceBNe,Int.reduceBEq,Int.reduceNeg,Int.reduceEq,Int.reduceNe,Nat.reduceBNe,Int.reduceAdd,Int.reduceSub,Int.reduceMul,Int.reducePow,Nat.reducePow,Int.reduceGT,Int.reduceGE,if_true,if_false,ite_true,ite_false,beq_self_eq_true,BEq.rfl,reduceCtorEq,eq_self,ne_eq,Function.comp_def,beq_iff_eq]
          have hw' : withinB xs[i] (last + 1) 2147483647 = true := by simp [withinB] at hw ⊢; omega
          rw [hw', Bool.true_and] at hgo
          refine hI' _ _ _ ⟨rfl, i + 1, xs[i], by omega, hil, ?_, ?_, by omega, fun j hj => ?_, hgo, (hol [V.dead, _, _, _, _, V.dead, V.dead, V.dead, _, _, _, _, _, _, _, _, _, _, _, _, _, _, _, _, _, _, _, _, _, _, _, _]), rfl⟩
          · simp [withinB] at hw; omega
          · simp [withinB] at hw; omega
          · obtain rfl : i = j := by omega
            exact hget
      · have d2 : decide ((i : Int) > 0) = false := decide_eq_false (by omega)
        obtain rfl := h0 (by omega)
        simp only [hw, d2, a1, ↓evp,evq,evr,fxa0,fxa1,fxa2,fxa3,fxu,fxn,fxl,↓fxp,lgc,absL,fitL,flatL,aput,ares,ares1,ofVal,unSc,aload,afill,splice,abound,asI,elems,IntKind.bits,sortT,eqNil,closedL,allByte,patch,pendOK,numA,Value.cells,Value.oneCell',ibin,List.replicate,Option.elim,Nat.reduceAdd,Nat.reduceSub,Nat.reduceMul,Nat.reduceLT,Nat.reduceEqDiff,Nat.reduceLeDiff,Nat.reduceBEq,Int.reduceLE,Int.reduceLT,Int.reduceToNat,Int.reduceBNe,Int.reduceBEq,Int.reduceNeg,Int.reduceEq,Int.reduceNe,Nat.reduceBNe,Int.reduceAdd,Int.reduceSub,Int.reduceMul,Int.reducePow,Nat.reducePow,Int.reduceGT,Int.reduceGE,if_true,if_false,ite_true,ite_false,beq_self_eq_true,BEq.rfl,reduceCtorEq,eq_self,ne_eq,Function.comp_def,beq_iff_eq]
        rw [Int.zero_add, hw, Bool.true_and] at hgo
        refine hI' _ _ _ ⟨rfl, i + 1, xs[i], by omega, hil, ?_, ?_, by omega, fun j hj => ?_, hgo, (hol [V.dead, _, _, _, _, V.dead, V.dead, V.dead, _, _, _, _, _, _, _, _, _, _, _, _, _, _, _, _, _, _, _, _, _, _, _, _]), rfl⟩
        · simp [withinB] at hw; omega
        · simp [withinB] at hw; omega
        · obtain rfl : i = j := by omega
          exact hget
    · have hw' : withinB xs[i] 1 2147483647 = false := by simpa using hw
      have hb := bad (by simp [withinB] at hw' ⊢; omega)
      rw [hb] at h
      simp only [hw', ↓evp,evq,evr,fxa0,fxa1,fxa2,fxa3,fxu,fxn,fxl,↓fxp,lgc,absL,fitL,flatL,aput,ares,ares1,ofVal,unSc,aload,afill,splice,abound,asI,elems,IntKind.bits,sortT,eqNil,closedL,allByte,patch,pendOK,numA,Value.cells,Value.oneCell',ibin,List.replicate,Option.elim,Nat.reduceAdd,Nat.reduceSub,Nat.reduceMul,Nat.reduceLT,Nat.reduceEqDiff,Nat.reduceLeDiff,Nat.reduceBEq,Int.reduceLE,Int.reduceLT,Int.reduceToNat,Int.reduceBNe,Int.reduceBEq,Int.reduceNeg,Int.reduceEq,Int.reduceNe,Nat.reduceBNe,Int.reduceAdd,Int.reduceSub,Int.reduceMul,Int.reducePow,Nat.reducePow,Int.reduceGT,Int.reduceGE,if_true,if_false,ite_true,ite_false,beq_self_eq_true,BEq.rfl,reduceCtorEq,eq_self,ne_eq,Function.comp_def,beq_iff_eq]
      exact h
  · have d : decide ((i : Int) < xs.length) = false := decide_eq_false (by omega)
    rw [List.drop_eq_nil_of_le (by omega), goB] at hgo
    unfold unitsB at h
    rw [hgo, Bool.true_and] at h
    simp only [d, hal, ↓evp,evq,evr,fxa0,fxa1,fxa2,fxa3,fxu,fxn,fxl,↓fxp,lgc,absL,fitL,flatL,aput,ares,ares1,ofVal,unSc,aload,afill,splice,abound,asI,elems,IntKind.bits,sortT,eqNil,closedL,allByte,patch,pendOK,numA,Value.cells,Value.oneCell',ibin,List.replicate,Option.elim,Nat.reduceAdd,Nat.reduceSub,Nat.reduceMul,Nat.reduceLT,Nat.reduceEqDiff,Nat.reduceLeDiff,Nat.reduceBEq,Int.reduceLE,Int.reduceLT,Int.reduceToNat,Int.reduceBNe,Int.reduceBEq,Int.reduceNeg,Int.reduceEq,Int.reduceNe,Nat.reduceBNe,Int.reduceAdd,Int.reduceSub,Int.reduceMul,Int.reducePow,Nat.reducePow,Int.reduceGT,Int.reduceGE,if_true,if_false,ite_true,ite_false,beq_self_eq_true,BEq.rfl,reduceCtorEq,eq_self,ne_eq,Function.comp_def,beq_iff_eq]
    refine c_within ?_
    simp only [↓evp,evq,evr,fxa0,fxa1,fxa2,fxa3,fxu,fxn,fxl,↓fxp,lgc,absL,fitL,flatL,aput,ares,ares1,ofVal,unSc,aload,afill,splice,abound,asI,elems,IntKind.bits,sortT,eqNil,closedL,allByte,patch,pendOK,numA,Value.cells,Value.oneCell',ibin,List.replicate,Option.elim,Nat.reduceAdd,Nat.reduceSub,Nat.reduceMul,Nat.reduceLT,Nat.reduceEqDiff,Nat.reduceLeDiff,Nat.reduceBEq,Int.reduceLE,Int.reduceLT,Int.reduceToNat,Int.reduceBNe,Int.reduceBEq,Int.reduceNeg,Int.reduceEq,Int.reduceNe,Nat.reduceBNe,Int.reduceAdd,Int.reduceSub,Int.reduceMul,Int.reducePow,Nat.reducePow,Int.reduceGT,Int.reduceGE,if_true,if_false,ite_true,ite_false,beq_self_eq_true,BEq.rfl,reduceCtorEq,eq_self,ne_eq,Function.comp_def,beq_iff_eq]
    exact h
end
end Go.Proofs.Ytfndpnmdjblokaa
