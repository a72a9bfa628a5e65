/- Chapter 4's reference: it is asked; a building is taken away. -/
import Derived.Test.YtndjhaeeldegfaaG14
set_option linter.unusedVariables false
set_option linter.unusedSimpArgs false
set_option maxRecDepth 10000
namespace Go.Proofs.Ytndjhaeeldegfaa
open Go Go.M Go.RowKit
attribute [local congr] acallF_cong aloop_cong bcase_cong resK_cong valK_cong wantK_cong callK_cong xputK_cong qputK_cong resM_cong rfK_cong
attribute [local irreducible] seqK blockK loopK nextK bcase resK valK wantK funK putK dputK xputK qputK callK aops aop acode adraw aloop acallF acall invK resM rfK rfEnd rdEnd rdMid around
theorem plcI_spec (id : Int) : ∀ (L : List B4) (j : Nat), (plcI id L j = -1 ∧ ∀ u ∈ L, u.id ≠ id) ∨ ∃ i, ∃ h : i < L.length, plcI id L j = ((j + i : Nat) : Int) ∧ L[i].id = id
  | [], j => .inl ⟨rfl, by simp⟩
  | u :: L, j => by
    simp only [plcI]
    by_cases h : u.id = id
    · refine .inr ⟨0, by simp, ?_, ?_⟩
      · simp [h]
      · simpa using h
    · have h' : (u.id == id) = false := by simpa using h
      rw [h']
      simp only [Bool.false_eq_true, if_false]
      rcases plcI_spec id L (j + 1) with ⟨h1, h2⟩ | ⟨i, hi, h1, h2⟩
      · refine .inl ⟨h1, fun v hv => ?_⟩
        rcases List.mem_cons.1 hv with rfl | hv
        · exact h
        · exact h2 v hv
      · exact .inr ⟨i + 1, by simpa using hi, by rw [h1]; omega, by simpa using h2⟩
def hasU (x y : Int) (u : B4) : Bool := hasB u.x u.y u.w u.h x y
section
variable {n m : Nat} {st s : List Ob} {K : V → List Ob → Prop} {rd : Nat} {WW HH : Int} {tv bv ev : V} {ts : List V} {L : List B4} {ds : List R4} {x y w h id : Int}
theorem q_Find (hy : Wr st rd WW HH tv bv ev ts L ds) (hm : L.length < m) (hl : L.length < 1000000) (hK0 : plcI id L 0 = -1 → ∀ s, Grw st s → K (.tup [.agg (rc 0 0 0 0), .sc (.bool false)]) s)
    (hK1 : ∀ i (h : i < L.length), plcI id L 0 = i → ∀ s, Grw st s → K (.tup [.agg (rc L[i].x L[i].y L[i].w L[i].h), .sc (.bool true)]) s) : acallF Try.prog pl (n + 2) m 35 [.ref rd 0, .sc (.int .i64 id)] st K := by
  refine acallF_inF Try.func35 rfl rfl Try.ntmps35 (by simp) ?_
  have g0 := Grw.push st [.cells (rc 0 0 0 0)]
  have hy0 := hy.grw g0
  simp only [rc] at g0 hy0
  simp only [evf,↓evp,evq,evr,fxa0,fxa1,fxa2,fxa3,fxa4,fxu,fxn,fxl,↓fxp,lgc,absL,fitL,flatL,ares,ares1,ofVal,unSc,aload,afill,splice,abound,asI,elems,IntKind.bits,sortT,eqNil,closedL,allByte,patch,pendOK,numA,Value.cells,Value.oneCell',ibin,List.replicate,Option.elim,Nat.reduceAdd,Nat.reduceSub,Nat.reduceMul,Nat.reduceLT,Nat.reduceEqDiff,Nat.reduceLeDiff,Nat.reduceBEq,Int.reduceLE,Int.reduceLT,Int.reduceToNat,Int.reduceBNe,Int.reduceBEq,Int.reduceNeg,Int.reduceEq,Int.reduceNe,Nat.reduceBNe,Int.reduceAdd,Int.reduceSub,Int.reduceMul,Int.reducePow,Nat.reducePow,Int.reduceGT,Int.reduceGE,if_true,if_false,ite_true,ite_false,beq_self_eq_true,BEq.rfl,reduceCtorEq,eq_self,ne_eq,Function.comp_def,beq_iff_eq]
  refine q_place (n := n) hy0 hm hl ?_
  rcases plcI_spec id L 0 with ⟨h1, _⟩ | ⟨i, hi, h1, _⟩
  · have h2 := hK0 h1
    simp only [h1, get_new, get_new0, M.set_new, M.set_new0, evf,↓evp,evq,evr,fxa0,fxa1,fxa2,fxa3,fxa4,fxu,fxn,fxl,↓fxp,lgc,absL,fitL,flatL,ares,ares1,ofVal,unSc,aload,afill,splice,abound,asI,elems,IntKind.bits,sortT,eqNil,closedL,allByte,patch,pendOK,numA,Value.cells,Value.oneCell',ibin,List.replicate,Option.elim,Nat.reduceAdd,Nat.reduceSub,Nat.reduceMul,Nat.reduceLT,Nat.reduceEqDiff,Nat.reduceLeDiff,Nat.reduceBEq,Int.reduceLE,Int.reduceLT,Int.reduceToNat,Int.reduceBNe,Int.reduceBEq,Int.reduceNeg,Int.reduceEq,Int.reduceNe,Nat.reduceBNe,Int.reduceAdd,Int.reduceSub,Int.reduceMul,Int.reducePow,Nat.reducePow,Int.reduceGT,Int.reduceGE,if_true,if_false,ite_true,ite_false,beq_self_eq_true,BEq.rfl,reduceCtorEq,eq_self,ne_eq,Function.comp_def,beq_iff_eq]
    exact h2 _ (Grw.push _ _)
  · rw [Nat.zero_add] at h1
    have h2 := hK1 i hi h1
    have d : decide ((i : Int) < 0) = false := decide_eq_false (by omega)
    have y1 := hy0.w
    obtain ⟨p1, p2⟩ := ix_flat (f := B4.v) (fun a => rfl) hy0.rb Try.underlying63 sz90 ag90 (by omega) hi
    obtain ⟨p3, p4⟩ := b_r hy0.rb hi
    simp only [rc] at p4 h2
    simp only [h1, d, y1, p1, p3, p4, get_new, get_new0, M.set_new, M.set_new0, evf,↓evp,evq,evr,fxa0,fxa1,fxa2,fxa3,fxa4,fxu,fxn,fxl,↓fxp,lgc,absL,fitL,flatL,ares,ares1,ofVal,unSc,aload,afill,splice,abound,asI,elems,IntKind.bits,sortT,eqNil,closedL,allByte,patch,pendOK,numA,Value.cells,Value.oneCell',ibin,List.replicate,Option.elim,Nat.reduceAdd,Nat.reduceSub,Nat.reduceMul,Nat.reduceLT,Nat.reduceEqDiff,Nat.reduceLeDiff,Nat.reduceBEq,Int.reduceLE,Int.reduceLT,Int.reduceToNat,Int.reduceBNe,Int.reduceBEq,Int.reduceNeg,Int.reduceEq,Int.reduceNe,Nat.reduceBNe,Int.reduceAdd,Int.reduceSub,Int.reduceMul,Int.reducePow,Nat.reducePow,Int.reduceGT,Int.reduceGE,if_true,if_false,ite_true,ite_false,beq_self_eq_true,BEq.rfl,reduceCtorEq,eq_self,ne_eq,Function.comp_def,beq_iff_eq]
    exact h2 _ (Grw.push _ _)
set_option maxHeartbeats 1000000 in
theorem q_At (hy : Wr st rd WW HH tv bv ev ts L ds) (hm : L.length < m) (hl : L.length < 1000000) (hK : ∀ s, Grw st s → K (match L.find? (hasU x y) with | some u => .tup [.sc (.int .i64 u.id), .sc (.bool true)] | none => .tup [.sc (.int .i64 0), .sc (.bool false)]) s) :
    acallF Try.prog pl (n + 5) m 33 [.ref rd 0, .agg (cl x y)] st K := by
  refine acallF_inF Try.func33 rfl rfl Try.ntmps33 (by simp) ?_
  have g0 := Grw.push st [.cells (cl x y)]
  have c0 : (st ++ [Ob.cells (cl x y)])[st.length]? = some (.cells (cl x y)) := get_new0 _ _
  simp only [cl] at g0 c0
  simp only [cl, evf,↓evp,evq,evr,fxa0,fxa1,fxa2,fxa3,fxa4,fxu,fxn,fxl,↓fxp,lgc,absL,fitL,flatL,ares,ares1,ofVal,unSc,aload,afill,splice,abound,asI,elems,IntKind.bits,sortT,eqNil,closedL,allByte,patch,pendOK,numA,Value.cells,Value.oneCell',ibin,List.replicate,Option.elim,Nat.reduceAdd,Nat.reduceSub,Nat.reduceMul,Nat.reduceLT,Nat.reduceEqDiff,Nat.reduceLeDiff,Nat.reduceBEq,Int.reduceLE,Int.reduceLT,Int.reduceToNat,Int.reduceBNe,Int.reduceBEq,Int.reduceNeg,Int.reduceEq,Int.reduceNe,Nat.reduceBNe,Int.reduceAdd,Int.reduceSub,Int.reduceMul,Int.reducePow,Nat.reducePow,Int.reduceGT,Int.reduceGE,if_true,if_false,ite_true,ite_false,beq_self_eq_true,BEq.rfl,reduceCtorEq,eq_self,ne_eq,Function.comp_def,beq_iff_eq]
  refine aloop_forF (fun k f s => ∃ i : Nat, Grw st s ∧ s[st.length]? = some (.cells (cl x y)) ∧ k + i = m ∧ i ≤ L.length ∧ L.find? (hasU x y) = (L.drop i).find? (hasU x y) ∧ f 0 = .ref rd 0 ∧ f 3 = .ref st.length 0 ∧ f 6 = .sc (.int .i64 i)) ⟨0, g0, c0, by omega, by omega, rfl, by simp only [evf, ne_eq, Nat.reduceEqDiff, Nat.reduceLT, not_false_eq_true], by simp only [evf, ne_eq, Nat.reduceEqDiff, Nat.reduceLT, not_false_eq_true], by simp only [evf, ne_eq, Nat.reduceEqDiff, Nat.reduceLT, not_false_eq_true]; rfl⟩ ?_
  rintro I' hI' k f s ⟨i, gs, cs, hk, hi, hp, f0, f3, f6⟩
  refine ⟨k - 1, by omega, ?_⟩
  have hys := hy.grw gs
  have y1 := hys.w
  have hv := hys.rb
  have hal := alen_rd hv Try.underlying63
  simp only [cl] at cs
  by_cases hil : i < L.length
  · have d : decide ((i : Int) < L.length) = true := decide_eq_true (by omega)
    obtain ⟨p1, p2⟩ := ix_flat (f := B4.v) (fun a => rfl) hv Try.underlying63 sz90 ag90 (by omega) hil
    have e4 : IntKind.i64.wrap ((i : Int) + 1) = ((i + 1 : Nat) : Int) := by rw [IntWalk.i64_in _ (by omega)]; rfl
    have hd : L.drop i = L[i] :: L.drop (i + 1) := List.drop_eq_getElem_cons hil
    rw [hd, List.find?_cons] at hp
    obtain ⟨p3, p4⟩ := b_r hv hil
    simp only [f0, f3, f6, y1, hal, d, p1, p3, p4, cs, evf,↓evp,evq,evr,fxa0,fxa1,fxa2,fxa3,fxa4,fxu,fxn,fxl,↓fxp,lgc,absL,fitL,flatL,ares,ares1,ofVal,unSc,aload,afill,splice,abound,asI,elems,IntKind.bits,sortT,eqNil,closedL,allByte,patch,pendOK,numA,Value.cells,Value.oneCell',ibin,List.replicate,Option.elim,Nat.reduceAdd,Nat.reduceSub,Nat.reduceMul,Nat.reduceLT,Nat.reduceEqDiff,Nat.reduceLeDiff,Nat.reduceBEq,Int.reduceLE,Int.reduceLT,Int.reduceToNat,Int.reduceBNe,Int.reduceBEq,Int.reduceNeg,Int.reduceEq,Int.reduceNe,Nat.reduceBNe,Int.reduceAdd,Int.reduceSub,Int.reduceMul,Int.reducePow,Nat.reducePow,Int.reduceGT,Int.reduceGE,if_true,if_false,ite_true,ite_false,beq_self_eq_true,BEq.rfl,reduceCtorEq,eq_self,ne_eq,Function.comp_def,beq_iff_eq]
    refine r_Has (n := n) fun s3 j3 => ?_
    have cs3 := j3 _ _ cs
    cases q : hasB L[i].x L[i].y L[i].w L[i].h x y
    · simp only [hasU, q] at hp
      simp only [f0, f3, f6, y1, hal, d, p1, p3, p4, cs, cs3, j3, e4, evf,↓evp,evq,evr,fxa0,fxa1,fxa2,fxa3,fxa4,fxu,fxn,fxl,↓fxp,lgc,absL,fitL,flatL,ares,ares1,ofVal,unSc,aload,afill,splice,abound,asI,elems,IntKind.bits,sortT,eqNil,closedL,allByte,patch,pendOK,numA,Value.cells,Value.oneCell',ibin,List.replicate,Option.elim,Nat.reduceAdd,Nat.reduceSub,Nat.reduceMul,Nat.reduceLT,Nat.reduceEqDiff,Nat.reduceLeDiff,Nat.reduceBEq,Int.reduceLE,Int.reduceLT,Int.reduceToNat,Int.reduceBNe,Int.reduceBEq,Int.reduceNeg,Int.reduceEq,Int.reduceNe,Nat.reduceBNe,Int.reduceAdd,Int.reduceSub,Int.reduceMul,Int.reducePow,Nat.reducePow,Int.reduceGT,Int.reduceGE,if_true,if_false,ite_true,ite_false,beq_self_eq_true,BEq.rfl,reduceCtorEq,eq_self,ne_eq,Function.comp_def,beq_iff_eq]
      exact hI' _ _ _ ⟨i + 1, gs.trans j3, cs3, by omega, hil, hp, by simp only [f0, evf, ne_eq, Nat.reduceEqDiff, Nat.reduceLT, not_false_eq_true], by simp only [f3, evf, ne_eq, Nat.reduceEqDiff, Nat.reduceLT, not_false_eq_true], by simp only [evf, ne_eq, Nat.reduceEqDiff, Nat.reduceLT, not_false_eq_true]⟩
    · simp only [hasU, q] at hp
      simp only [hasU, hp] at hK
      have hys3 := hys.grw j3
      have y3 := hys3.w
      obtain ⟨r1, r2⟩ := ix_flat (f := B4.v) (fun a => rfl) hys3.rb Try.underlying63 sz90 ag90 (by omega) hil
      obtain ⟨r3, r4⟩ := b_id hys3.rb hil
      simp only [f0, f3, f6, y1, y3, hal, d, p1, p3, p4, r1, r3, r4, cs, cs3, j3, evf,↓evp,evq,evr,fxa0,fxa1,fxa2,fxa3,fxa4,fxu,fxn,fxl,↓fxp,lgc,absL,fitL,flatL,ares,ares1,ofVal,unSc,aload,afill,splice,abound,asI,elems,IntKind.bits,sortT,eqNil,closedL,allByte,patch,pendOK,numA,Value.cells,Value.oneCell',ibin,List.replicate,Option.elim,Nat.reduceAdd,Nat.reduceSub,Nat.reduceMul,Nat.reduceLT,Nat.reduceEqDiff,Nat.reduceLeDiff,Nat.reduceBEq,Int.reduceLE,Int.reduceLT,Int.reduceToNat,Int.reduceBNe,Int.reduceBEq,Int.reduceNeg,Int.reduceEq,Int.reduceNe,Nat.reduceBNe,Int.reduceAdd,Int.reduceSub,Int.reduceMul,Int.reducePow,Nat.reducePow,Int.reduceGT,Int.reduceGE,if_true,if_false,ite_true,ite_false,beq_self_eq_true,BEq.rfl,reduceCtorEq,eq_self,ne_eq,Function.comp_def,beq_iff_eq]
      exact hK _ (gs.trans j3)
  · have d : decide ((i : Int) < L.length) = false := decide_eq_false (by omega)
    obtain rfl : i = L.length := by omega
    rw [List.drop_length] at hp
    rw [hp] at hK
    simp only [List.find?_nil] at hK
    simp only [f0, f3, f6, y1, hal, d, evf,↓evp,evq,evr,fxa0,fxa1,fxa2,fxa3,fxa4,fxu,fxn,fxl,↓fxp,lgc,absL,fitL,flatL,ares,ares1,ofVal,unSc,aload,afill,splice,abound,asI,elems,IntKind.bits,sortT,eqNil,closedL,allByte,patch,pendOK,numA,Value.cells,Value.oneCell',ibin,List.replicate,Option.elim,Nat.reduceAdd,Nat.reduceSub,Nat.reduceMul,Nat.reduceLT,Nat.reduceEqDiff,Nat.reduceLeDiff,Nat.reduceBEq,Int.reduceLE,Int.reduceLT,Int.reduceToNat,Int.reduceBNe,Int.reduceBEq,Int.reduceNeg,Int.reduceEq,Int.reduceNe,Nat.reduceBNe,Int.reduceAdd,Int.reduceSub,Int.reduceMul,Int.reducePow,Nat.reducePow,Int.reduceGT,Int.reduceGE,if_true,if_false,ite_true,ite_false,beq_self_eq_true,BEq.rfl,reduceCtorEq,eq_self,ne_eq,Function.comp_def,beq_iff_eq]
    exact hK _ gs
theorem q_Terrain (hi : Wr st rd WW HH tv bv ev ts L ds) (hW : 1 ≤ WW ∧ WW ≤ 128) (hH : 1 ≤ HH ∧ HH ≤ 128) (hl : (ts.length : Int) = WW * HH) (hb : ∀ v ∈ ts, ∃ k : Int, v = .sc (.int .u8 k) ∧ 0 ≤ k ∧ k < 256)
    (hK0 : hasB 0 0 WW HH x y = false → ∀ s, Grw st s → K (.tup [.sc (.int .i64 0), .sc (.bool false)]) s)
    (hK1 : hasB 0 0 WW HH x y = true → ∀ k s, ts[(y * WW + x).toNat]? = some (.sc (.int .u8 k)) → Grw st s → K (.tup [.sc (.int .i64 k), .sc (.bool true)]) s) :
    acallF Try.prog pl (n + 5) m 31 [.ref rd 0, .agg (cl x y)] st K := by
  refine acallF_inF Try.func31 rfl rfl Try.ntmps31 (by simp) ?_
  have g0 := Grw.push st [.cells (cl x y)]
  have c0 : (st ++ [Ob.cells (cl x y)])[st.length]? = some (.cells (cl x y)) := get_new _ _ 0
  simp only [cl] at g0 c0
  simp only [cl, evf,↓evp,evq,evr,fxa0,fxa1,fxa2,fxa3,fxa4,fxu,fxn,fxl,↓fxp,lgc,absL,fitL,flatL,ares,ares1,ofVal,unSc,aload,afill,splice,abound,asI,elems,IntKind.bits,sortT,eqNil,closedL,allByte,patch,pendOK,numA,Value.cells,Value.oneCell',ibin,List.replicate,Option.elim,Nat.reduceAdd,Nat.reduceSub,Nat.reduceMul,Nat.reduceLT,Nat.reduceEqDiff,Nat.reduceLeDiff,Nat.reduceBEq,Int.reduceLE,Int.reduceLT,Int.reduceToNat,Int.reduceBNe,Int.reduceBEq,Int.reduceNeg,Int.reduceEq,Int.reduceNe,Nat.reduceBNe,Int.reduceAdd,Int.reduceSub,Int.reduceMul,Int.reducePow,Nat.reducePow,Int.reduceGT,Int.reduceGE,if_true,if_false,ite_true,ite_false,beq_self_eq_true,BEq.rfl,reduceCtorEq,eq_self,ne_eq,Function.comp_def,beq_iff_eq]
  refine q_All (n := n + 3) (hi.grw g0) fun s1 j1 => ?_
  have c1 := j1 _ _ c0
  simp only [c0, c1, j1, evf,↓evp,evq,evr,fxa0,fxa1,fxa2,fxa3,fxa4,fxu,fxn,fxl,↓fxp,lgc,absL,fitL,flatL,ares,ares1,ofVal,unSc,aload,afill,splice,abound,asI,elems,IntKind.bits,sortT,eqNil,closedL,allByte,patch,pendOK,numA,Value.cells,Value.oneCell',ibin,List.replicate,Option.elim,Nat.reduceAdd,Nat.reduceSub,Nat.reduceMul,Nat.reduceLT,Nat.reduceEqDiff,Nat.reduceLeDiff,Nat.reduceBEq,Int.reduceLE,Int.reduceLT,Int.reduceToNat,Int.reduceBNe,Int.reduceBEq,Int.reduceNeg,Int.reduceEq,Int.reduceNe,Nat.reduceBNe,Int.reduceAdd,Int.reduceSub,Int.reduceMul,Int.reducePow,Nat.reducePow,Int.reduceGT,Int.reduceGE,if_true,if_false,ite_true,ite_false,beq_self_eq_true,BEq.rfl,reduceCtorEq,eq_self,ne_eq,Function.comp_def,beq_iff_eq]
  refine r_Has (n := n) fun s2 j2 => ?_
  have c2 := j2 _ _ c1
  have hi2 := ((hi.grw g0).grw j1).grw j2
  have g2 := (g0.trans j1).trans j2
  cases e : hasB 0 0 WW HH x y
  · simp only [c0, c1, j1, j2, evf,↓evp,evq,evr,fxa0,fxa1,fxa2,fxa3,fxa4,fxu,fxn,fxl,↓fxp,lgc,absL,fitL,flatL,ares,ares1,ofVal,unSc,aload,afill,splice,abound,asI,elems,IntKind.bits,sortT,eqNil,closedL,allByte,patch,pendOK,numA,Value.cells,Value.oneCell',ibin,List.replicate,Option.elim,Nat.reduceAdd,Nat.reduceSub,Nat.reduceMul,Nat.reduceLT,Nat.reduceEqDiff,Nat.reduceLeDiff,Nat.reduceBEq,Int.reduceLE,Int.reduceLT,Int.reduceToNat,Int.reduceBNe,Int.reduceBEq,Int.reduceNeg,Int.reduceEq,Int.reduceNe,Nat.reduceBNe,Int.reduceAdd,Int.reduceSub,Int.reduceMul,Int.reducePow,Nat.reducePow,Int.reduceGT,Int.reduceGE,if_true,if_false,ite_true,ite_false,beq_self_eq_true,BEq.rfl,reduceCtorEq,eq_self,ne_eq,Function.comp_def,beq_iff_eq]
    exact hK0 e _ g2
  have e' := e
  simp only [hasB, inB, Bool.and_eq_true, decide_eq_true_eq] at e'
  obtain ⟨_, ⟨⟨hx0, hx1⟩, hy0⟩, hy1⟩ := e'
  have h1 := hi2.w
  have hb0 : 0 ≤ y * WW := Int.mul_nonneg (by omega) (by omega)
  have hb1 : y * WW ≤ (HH - 1) * WW := Int.mul_le_mul_of_nonneg_right (by omega) (by omega)
  have hb3 : (HH - 1) * WW = WW * HH - WW := by rw [Int.sub_mul, Int.one_mul, Int.mul_comm]
  have hb2 : WW * HH ≤ 128 * 128 := Int.mul_le_mul hW.2 hH.2 (by omega) (by omega)
  have e1 : IntKind.i64.wrap (y * WW) = y * WW := wi64 (by omega) (by omega)
  have e2 : IntKind.i64.wrap (y * WW + x) = y * WW + x := wi64 (by omega) (by omega)
  obtain ⟨q, hq⟩ := Int.eq_ofNat_of_zero_le (show 0 ≤ y * WW + x by omega)
  have hql : q < ts.length := by omega
  obtain ⟨k, hk, hk0, hk1⟩ := hb ts[q] (List.getElem_mem hql)
  have rd := hi2.tl.rd sz5 (by omega)
  have p1 := aix_rd rd Try.underlying62 sz5 .i64 (j := (q : Int)) (by omega) (by omega)
  have p2 := ald_ix rd sz5 sz5 (by omega) hql (o := 0) (by omega)
  have p3 : aload Try.prog 5 (ts.drop (q * 1 + 0)) = some (.sc (.int .u8 k)) := by
    simp only [aload, ag5, Nat.mul_one, Nat.add_zero]
    rw [List.getElem?_drop, Nat.add_zero, List.getElem?_eq_getElem hql, hk]
  rw [p3] at p2
  simp only [Int.toNat_natCast] at p1
  have e3 : IntKind.i64.wrap k = k := wi64 (by omega) (by omega)
  have fin := hK1 e k s2 (by rw [hq, Int.toNat_natCast, List.getElem?_eq_getElem hql, hk]) g2
  rw [hq] at e2
  simp only [c0, c1, c2, j1, j2, h1, e1, e2, hq, p1, p2, e3, evf,↓evp,evq,evr,fxa0,fxa1,fxa2,fxa3,fxa4,fxu,fxn,fxl,↓fxp,lgc,absL,fitL,flatL,ares,ares1,ofVal,unSc,aload,afill,splice,abound,asI,elems,IntKind.bits,sortT,eqNil,closedL,allByte,patch,pendOK,numA,Value.cells,Value.oneCell',ibin,List.replicate,Option.elim,Nat.reduceAdd,Nat.reduceSub,Nat.reduceMul,Nat.reduceLT,Nat.reduceEqDiff,Nat.reduceLeDiff,Nat.reduceBEq,Int.reduceLE,Int.reduceLT,Int.reduceToNat,Int.reduceBNe,Int.reduceBEq,Int.reduceNeg,Int.reduceEq,Int.reduceNe,Nat.reduceBNe,Int.reduceAdd,Int.reduceSub,Int.reduceMul,Int.reducePow,Nat.reducePow,Int.reduceGT,Int.reduceGE,if_true,if_false,ite_true,ite_false,beq_self_eq_true,BEq.rfl,reduceCtorEq,eq_self,ne_eq,Function.comp_def,beq_iff_eq]
  exact fin
theorem q_Dirty (hi : Wr st rd WW HH tv bv ev ts L ds) (hdl : ds.length < 4000000000000)
    (hK0 : (id < 0 ∨ (ds.length : Int) < id) → K (.tsl [] 0 true true) st)
    (hK1 : 0 ≤ id → id ≤ ds.length → ∀ v' s, Gl s 78 v' ((ds.drop id.toNat).flatMap R4.v) (ds.drop id.toNat).length → Grw st s → K v' s) :
    acallF Try.prog pl (n + 1) m 38 [.ref rd 0, .sc (.int .i64 id)] st K := by
  refine acallF_inF Try.func38 rfl rfl Try.ntmps38 (by simp) ?_
  have w1 := hi.w
  have cut := hi.ce
  have al := alen_rd cut.1 Try.underlying83
  cases d1 : decide (id < 0)
  case true =>
    simp only [w1, d1, evf,↓evp,evq,evr,fxa0,fxa1,fxa2,fxa3,fxa4,fxu,fxn,fxl,↓fxp,lgc,absL,fitL,flatL,ares,ares1,ofVal,unSc,aload,afill,splice,abound,asI,elems,IntKind.bits,sortT,eqNil,closedL,allByte,patch,pendOK,numA,Value.cells,Value.oneCell',ibin,List.replicate,Option.elim,Nat.reduceAdd,Nat.reduceSub,Nat.reduceMul,Nat.reduceLT,Nat.reduceEqDiff,Nat.reduceLeDiff,Nat.reduceBEq,Int.reduceLE,Int.reduceLT,Int.reduceToNat,Int.reduceBNe,Int.reduceBEq,Int.reduceNeg,Int.reduceEq,Int.reduceNe,Nat.reduceBNe,Int.reduceAdd,Int.reduceSub,Int.reduceMul,Int.reducePow,Nat.reducePow,Int.reduceGT,Int.reduceGE,if_true,if_false,ite_true,ite_false,beq_self_eq_true,BEq.rfl,reduceCtorEq,eq_self,ne_eq,Function.comp_def,beq_iff_eq]
    exact hK0 (.inl (of_decide_eq_true d1))
  cases d2 : decide (id > (ds.length : Int))
  case true =>
    simp only [w1, d1, d2, al, evf,↓evp,evq,evr,fxa0,fxa1,fxa2,fxa3,fxa4,fxu,fxn,fxl,↓fxp,lgc,absL,fitL,flatL,ares,ares1,ofVal,unSc,aload,afill,splice,abound,asI,elems,IntKind.bits,sortT,eqNil,closedL,allByte,patch,pendOK,numA,Value.cells,Value.oneCell',ibin,List.replicate,Option.elim,Nat.reduceAdd,Nat.reduceSub,Nat.reduceMul,Nat.reduceLT,Nat.reduceEqDiff,Nat.reduceLeDiff,Nat.reduceBEq,Int.reduceLE,Int.reduceLT,Int.reduceToNat,Int.reduceBNe,Int.reduceBEq,Int.reduceNeg,Int.reduceEq,Int.reduceNe,Nat.reduceBNe,Int.reduceAdd,Int.reduceSub,Int.reduceMul,Int.reducePow,Nat.reducePow,Int.reduceGT,Int.reduceGE,if_true,if_false,ite_true,ite_false,beq_self_eq_true,BEq.rfl,reduceCtorEq,eq_self,ne_eq,Function.comp_def,beq_iff_eq]
    exact hK0 (.inr (of_decide_eq_true d2))
  have d1' := of_decide_eq_false d1
  have d2' := of_decide_eq_false d2
  obtain ⟨q, rfl⟩ := Int.eq_ofNat_of_zero_le (show 0 ≤ id by omega)
  obtain ⟨v', k1, k2⟩ := slice_end cut Try.underlying83 sz78 (lo := q) (by omega)
  have e : (ds.flatMap R4.v).drop (q * 4) = (ds.drop q).flatMap R4.v := flatMap_drop (f := R4.v) (s := 4) (fun _ => rfl) _ _
  rw [e] at k2
  have k3 := hK1 (by omega) (by omega)
  simp only [Int.toNat_natCast, List.length_drop] at k3
  obtain ⟨v2, s2, ap, gl2, tr2, _⟩ := gl_app (P := Try.prog) (t := 83) (e := 78) (s := st) (v := .tsl [] 0 true true) (xs := []) (n := 0) (x := v') (.inl ⟨rfl, rfl, rfl⟩) Try.underlying83 sz78 by78 ze78 (by omega) rfl (by simp) k2.1.1 (closed_rs _) (k2.1.2.2 _ sz78) (by omega) (by omega)
  simp only [w1, d1, d2, al, k1, ap, evf,↓evp,evq,evr,fxa0,fxa1,fxa2,fxa3,fxa4,fxu,fxn,fxl,↓fxp,lgc,absL,fitL,flatL,ares,ares1,ofVal,unSc,aload,afill,splice,abound,asI,elems,IntKind.bits,sortT,eqNil,closedL,allByte,patch,pendOK,numA,Value.cells,Value.oneCell',ibin,List.replicate,Option.elim,Nat.reduceAdd,Nat.reduceSub,Nat.reduceMul,Nat.reduceLT,Nat.reduceEqDiff,Nat.reduceLeDiff,Nat.reduceBEq,Int.reduceLE,Int.reduceLT,Int.reduceToNat,Int.reduceBNe,Int.reduceBEq,Int.reduceNeg,Int.reduceEq,Int.reduceNe,Nat.reduceBNe,Int.reduceAdd,Int.reduceSub,Int.reduceMul,Int.reducePow,Nat.reducePow,Int.reduceGT,Int.reduceGE,if_true,if_false,ite_true,ite_false,beq_self_eq_true,BEq.rfl,reduceCtorEq,eq_self,ne_eq,Function.comp_def,beq_iff_eq]
  rw [List.nil_append, Nat.zero_add] at gl2
  exact k3 v2 s2 gl2 fun j o h => tr2.2 _ _ (fun hh => by cases hh) h
theorem q_Rects {a b : V} {A : List R4} (ha : Rd Try.prog st 78 a (A.flatMap R4.v) A.length) (hb : Rd Try.prog st 78 b (A.flatMap R4.v) A.length) (hm : A.length < m) (hl : A.length < 4000000000000) (hK : K (.sc (.bool true)) st) :
    acallF Try.prog pl (n + 1) m 36 [a, b] st K := by
  refine acallF_inF Try.func36 rfl rfl Try.ntmps36 (by simp) ?_
  have hal := alen_rd ha Try.underlying83
  have hbl := alen_rd hb Try.underlying83
  have d0 : ((A.length : Int) != (A.length : Int)) = false := by simp
  simp only [hal, hbl, d0, evf,↓evp,evq,evr,fxa0,fxa1,fxa2,fxa3,fxa4,fxu,fxn,fxl,↓fxp,lgc,absL,fitL,flatL,ares,ares1,ofVal,unSc,aload,afill,splice,abound,asI,elems,IntKind.bits,sortT,eqNil,closedL,allByte,patch,pendOK,numA,Value.cells,Value.oneCell',ibin,List.replicate,Option.elim,Nat.reduceAdd,Nat.reduceSub,Nat.reduceMul,Nat.reduceLT,Nat.reduceEqDiff,Nat.reduceLeDiff,Nat.reduceBEq,Int.reduceLE,Int.reduceLT,Int.reduceToNat,Int.reduceBNe,Int.reduceBEq,Int.reduceNeg,Int.reduceEq,Int.reduceNe,Nat.reduceBNe,Int.reduceAdd,Int.reduceSub,Int.reduceMul,Int.reducePow,Nat.reducePow,Int.reduceGT,Int.reduceGE,if_true,if_false,ite_true,ite_false,beq_self_eq_true,BEq.rfl,reduceCtorEq,eq_self,ne_eq,Function.comp_def,beq_iff_eq]
  refine aloop_forF (fun k f s => s = st ∧ ∃ i : Nat, k + i = m ∧ i ≤ A.length ∧ f 0 = a ∧ f 1 = b ∧ f 5 = .sc (.int .i64 i)) ⟨rfl, 0, by omega, by omega, by simp only [evf, ne_eq, Nat.reduceEqDiff, Nat.reduceLT, not_false_eq_true], by simp only [evf, ne_eq, Nat.reduceEqDiff, Nat.reduceLT, not_false_eq_true], by simp only [evf, ne_eq, Nat.reduceEqDiff, Nat.reduceLT, not_false_eq_true]; rfl⟩ ?_
  rintro I' hI' k f s ⟨rfl, i, hk, hi, f0, f1, f5⟩
  refine ⟨k - 1, by omega, ?_⟩
  by_cases hil : i < A.length
  · have d : decide ((i : Int) < A.length) = true := decide_eq_true (by omega)
    obtain ⟨p1, p2⟩ := ix_flat (f := R4.v) (fun a => rfl) ha Try.underlying83 sz78 ag78 (by omega) hil
    obtain ⟨q1, q2⟩ := ix_flat (f := R4.v) (fun a => rfl) hb Try.underlying83 sz78 ag78 (by omega) hil
    have e4 : IntKind.i64.wrap ((i : Int) + 1) = ((i + 1 : Nat) : Int) := by rw [IntWalk.i64_in _ (by omega)]; rfl
    have eq : eqR A[i].x A[i].y A[i].w A[i].h A[i].x A[i].y A[i].w A[i].h = true := eqR_true.2 ⟨rfl, rfl, rfl, rfl⟩
    simp only [R4.v, rc] at p2 q2
    simp only [f0, f1, f5, hal, d, p1, p2, q1, q2, e4, cmp_rectN, eq, List.append_eq, evf,↓evp,evq,evr,fxa0,fxa1,fxa2,fxa3,fxa4,fxu,fxn,fxl,↓fxp,lgc,absL,fitL,flatL,ares,ares1,ofVal,unSc,aload,afill,splice,abound,asI,elems,IntKind.bits,sortT,eqNil,closedL,allByte,patch,pendOK,numA,Value.cells,Value.oneCell',ibin,List.replicate,Option.elim,Nat.reduceAdd,Nat.reduceSub,Nat.reduceMul,Nat.reduceLT,Nat.reduceEqDiff,Nat.reduceLeDiff,Nat.reduceBEq,Int.reduceLE,Int.reduceLT,Int.reduceToNat,Int.reduceBNe,Int.reduceBEq,Int.reduceNeg,Int.reduceEq,Int.reduceNe,Nat.reduceBNe,Int.reduceAdd,Int.reduceSub,Int.reduceMul,Int.reducePow,Nat.reducePow,Int.reduceGT,Int.reduceGE,if_true,if_false,ite_true,ite_false,beq_self_eq_true,BEq.rfl,reduceCtorEq,eq_self,ne_eq,Function.comp_def,beq_iff_eq]
    exact hI' _ _ _ ⟨rfl, i + 1, by omega, hil, by simp only [f0, evf, ne_eq, Nat.reduceEqDiff, Nat.reduceLT, not_false_eq_true], by simp only [f1, evf, ne_eq, Nat.reduceEqDiff, Nat.reduceLT, not_false_eq_true], by simp only [evf, ne_eq, Nat.reduceEqDiff, Nat.reduceLT, not_false_eq_true]⟩
  · have d : decide ((i : Int) < A.length) = false := decide_eq_false (by omega)
    obtain rfl : i = A.length := by omega
    simp only [f0, f1, f5, hal, d, evf,↓evp,evq,evr,fxa0,fxa1,fxa2,fxa3,fxa4,fxu,fxn,fxl,↓fxp,lgc,absL,fitL,flatL,ares,ares1,ofVal,unSc,aload,afill,splice,abound,asI,elems,IntKind.bits,sortT,eqNil,closedL,allByte,patch,pendOK,numA,Value.cells,Value.oneCell',ibin,List.replicate,Option.elim,Nat.reduceAdd,Nat.reduceSub,Nat.reduceMul,Nat.reduceLT,Nat.reduceEqDiff,Nat.reduceLeDiff,Nat.reduceBEq,Int.reduceLE,Int.reduceLT,Int.reduceToNat,Int.reduceBNe,Int.reduceBEq,Int.reduceNeg,Int.reduceEq,Int.reduceNe,Nat.reduceBNe,Int.reduceAdd,Int.reduceSub,Int.reduceMul,Int.reducePow,Nat.reducePow,Int.reduceGT,Int.reduceGE,if_true,if_false,ite_true,ite_false,beq_self_eq_true,BEq.rfl,reduceCtorEq,eq_self,ne_eq,Function.comp_def,beq_iff_eq]
    exact hK
end
end Go.Proofs.Ytndjhaeeldegfaa
