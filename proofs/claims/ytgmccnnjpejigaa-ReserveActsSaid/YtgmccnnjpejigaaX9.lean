/- Chapter 22's reference: may one claim? Chapter 22's reference: a claim more. Chapter 22: has an index just these units? Chapter 22's reference: all stand where they claimed. Chapter 22: a round of 'ReserveActs' over all claims. Chapter 22: the law ReserveActs. -/
import Derived.Test.YtgmccnnjpejigaaX6
set_option linter.unusedVariables false
set_option linter.unusedSimpArgs false
set_option maxRecDepth 10000
namespace Go.Proofs.Ytgmccnnjpejigaa
open Go Go.M Go.RowKit
attribute [local congr] acallF_cong aloop_cong bcase_cong resK_cong valK_cong wantK_cong callK_cong xputK_cong qputK_cong resM_cong rfK_cong
attribute [local irreducible] seqK blockK loopK nextK bcase resK valK wantK funK putK dputK xputK qputK callK aops aop acode adraw aloop acallF acall invK resM rfK rfEnd rdEnd rdMid around
/-! ### Chapter 22's reference: may one claim? -/
structure C3 where
  id : Int
  x : Int
  y : Int
def C3.v (c : C3) : List V := .sc (.int .i64 c.id) :: cl c.x c.y
def cOf (u : U) : C3 := ⟨u.id, u.x, u.y⟩
/-- The document's table, where it lies. -/
structure Rt (s : List Ob) (z iy : Nat) (cv : V) (CL : List C3) : Prop where
  at_ : s[z]? = some (.cells [.ref iy 0, cv])
  rd : Cut Try.prog s 99 cv (CL.flatMap C3.v) CL.length
theorem Rt.grw {st s : List Ob} {z iy : Nat} {cv : V} {CL : List C3} (h : Rt st z iy cv CL) (k : Grw st s) : Rt s z iy cv CL := ⟨k _ _ h.at_, h.rd.grw k⟩
section
variable {s : List Ob} {CL : List C3} {lv : V}
theorem c_id (hv : Rd Try.prog s 99 lv (CL.flatMap C3.v) CL.length) {i : Nat} (hi : i < CL.length) : afa Try.prog s 99 0 (ixp 3 lv i 0) = some (ixp 3 lv i 0, s) ∧ ald Try.prog s 3 (ixp 3 lv i 0) = some (.sc (.int .i64 CL[i].id), s) := by
  refine ⟨afa_ix hv (i := 0) (off := 0) (k := 1) (ft := 3) (by kernel_rfl) (by omega) i 0, ?_⟩
  rw [ald_ix hv sz99 sz3 (by omega) hi (by omega)]
  simp only [aload, ag3, Nat.add_zero]
  rw [flatMap_at (f := C3.v) (s := 3) (fun a => rfl) CL i hi]
  rfl
theorem c_to (hv : Rd Try.prog s 99 lv (CL.flatMap C3.v) CL.length) {i : Nat} (hi : i < CL.length) : afa Try.prog s 99 1 (ixp 3 lv i 0) = some (ixp 3 lv i 1, s) ∧ ald Try.prog s 32 (ixp 3 lv i 1) = some (.agg (cl CL[i].x CL[i].y), s) := by
  refine ⟨afa_ix hv (i := 1) (off := 1) (k := 2) (ft := 32) (by kernel_rfl) (by omega) i 0, ?_⟩
  rw [ald_ix hv sz99 sz32 (by omega) hi (by omega)]
  have e : (CL.flatMap C3.v).drop (i * 3 + 1) = cl CL[i].x CL[i].y ++ (CL.drop (i + 1)).flatMap C3.v := by
    rw [← List.drop_drop, flatMap_at (f := C3.v) (s := 3) (fun a => rfl) CL i hi]
    rfl
  rw [e]
  simp only [aload, ag32, sz32]
  rw [if_pos (by simp [cl])]
  rfl
end
section
variable {n m : Nat} {st s : List Ob} {K : V → List Ob → Prop} {iy z : Nat} {us gs cls : List (Int × V)} {os cc : List ((Int × Int) × V)} {L M : List U} {x y id : Int} {sv cv : V}
theorem r_FindU (hy : Ri st iy sv L) (rel : Rel us os L) (hm : 300 < m) (hl : L.length ≤ 256)
    (h0 : L.find? (fun u => u.id == id) = none → ∀ s, Grw st s → K (.tup [.agg (rc 0 0 0 0), .sc (.bool false)]) s)
    (h1 : ∀ p, p ∈ L → p.id = id → L.find? (fun u => u.id == id) = some p → ∀ s, Grw st s → K (.tup [.agg (rc p.x p.y p.w p.h), .sc (.bool true)]) s) :
    acallF Try.prog pl (n + 2) m 27 [.ref iy 0, .sc (.int .i64 id)] st K := by
  refine acallF_inF Try.func27 rfl rfl Try.ntmps27 (by simp) ?_
  obtain ⟨s1, hs1⟩ : ∃ s1, s1 = st ++ [Ob.cells (rc 0 0 0 0)] := ⟨_, rfl⟩
  have g1 : Grw st s1 := by rw [hs1]; exact .push _ _
  have c1 : s1[st.length]? = some (.cells (rc 0 0 0 0)) := by rw [hs1]; exact get_new0 _ _
  have hy1 := hy.grw g1
  have y1 := hy1.at_
  have b1 : ∀ o, (s1.set st.length o)[st.length]? = some o := fun o => get_set c1 o
  simp only [rc] at hs1 c1
  simp only [evf,↓evp,evq,evr,fxa0,fxa1,fxa2,fxa3,fxa4,fxu,fxn,fxl,↓fxp,lgc,absL,fitL,flatL,ares,ares1,ofVal,unSc,aload,afill,splice,abound,asI,elems,IntKind.bits,sortT,eqNil,closedL,allByte,patch,pendOK,numA,Value.cells,Value.oneCell',ibin,List.replicate,Option.elim,Nat.reduceAdd,Nat.reduceSub,Nat.reduceMul,Nat.reduceLT,Nat.reduceEqDiff,Nat.reduceLeDiff,Nat.reduceBEq,Int.reduceLE,Int.reduceLT,Int.reduceToNat,Int.reduceBNe,Int.reduceBEq,Int.reduceNeg,Int.reduceEq,Int.reduceNe,Nat.reduceBNe,Int.reduceAdd,Int.reduceSub,Int.reduceMul,Int.reducePow,Nat.reducePow,Int.reduceGT,Int.reduceGE,if_true,if_false,ite_true,ite_false,beq_self_eq_true,BEq.rfl,reduceCtorEq,eq_self,ne_eq,Function.comp_def,beq_iff_eq]
  rw [← hs1]
  refine r_place (n := n) hy1 (by omega) (by omega) ?_
  rcases placeI_spec id L 0 with ⟨e1, e2⟩ | ⟨i, hil, e1, e2⟩
  · have d : decide ((-1 : Int) < 0) = true := rfl
    rw [e1]
    simp only [d, c1, b1, evf,↓evp,evq,evr,fxa0,fxa1,fxa2,fxa3,fxa4,fxu,fxn,fxl,↓fxp,lgc,absL,fitL,flatL,ares,ares1,ofVal,unSc,aload,afill,splice,abound,asI,elems,IntKind.bits,sortT,eqNil,closedL,allByte,patch,pendOK,numA,Value.cells,Value.oneCell',ibin,List.replicate,Option.elim,Nat.reduceAdd,Nat.reduceSub,Nat.reduceMul,Nat.reduceLT,Nat.reduceEqDiff,Nat.reduceLeDiff,Nat.reduceBEq,Int.reduceLE,Int.reduceLT,Int.reduceToNat,Int.reduceBNe,Int.reduceBEq,Int.reduceNeg,Int.reduceEq,Int.reduceNe,Nat.reduceBNe,Int.reduceAdd,Int.reduceSub,Int.reduceMul,Int.reducePow,Nat.reducePow,Int.reduceGT,Int.reduceGE,if_true,if_false,ite_true,ite_false,beq_self_eq_true,BEq.rfl,reduceCtorEq,eq_self,ne_eq,Function.comp_def,beq_iff_eq]
    exact h0 (find_none e2) _ (g1.set (Nat.le_refl _) _)
  · have d : decide (((0 + i : Nat) : Int) < 0) = false := decide_eq_false (by omega)
    rw [e1]
    rw [Nat.zero_add] at d ⊢
    obtain ⟨p1, p2⟩ := ix_flat (f := U.v) (fun a => rfl) hy1.rd.1 Try.underlying27 sz48 ag48 (by omega) hil
    obtain ⟨p3, p4⟩ := u_r hy1.rd.1 hil
    simp only [rc] at p4
    simp only [d, c1, b1, y1, p1, p3, p4, evf,↓evp,evq,evr,fxa0,fxa1,fxa2,fxa3,fxa4,fxu,fxn,fxl,↓fxp,lgc,absL,fitL,flatL,ares,ares1,ofVal,unSc,aload,afill,splice,abound,asI,elems,IntKind.bits,sortT,eqNil,closedL,allByte,patch,pendOK,numA,Value.cells,Value.oneCell',ibin,List.replicate,Option.elim,Nat.reduceAdd,Nat.reduceSub,Nat.reduceMul,Nat.reduceLT,Nat.reduceEqDiff,Nat.reduceLeDiff,Nat.reduceBEq,Int.reduceLE,Int.reduceLT,Int.reduceToNat,Int.reduceBNe,Int.reduceBEq,Int.reduceNeg,Int.reduceEq,Int.reduceNe,Nat.reduceBNe,Int.reduceAdd,Int.reduceSub,Int.reduceMul,Int.reducePow,Nat.reducePow,Int.reduceGT,Int.reduceGE,if_true,if_false,ite_true,ite_false,beq_self_eq_true,BEq.rfl,reduceCtorEq,eq_self,ne_eq,Function.comp_def,beq_iff_eq]
    rcases rel.unit id with ⟨_, f2⟩ | ⟨p, hp, f1, f2, _⟩
    · have := List.find?_eq_none.1 f2 _ (List.getElem_mem hil)
      simp [e2] at this
    · have : p = L[i] := nodup_in rel.ids hp (List.getElem_mem hil) (by rw [f1, e2])
      subst this
      exact h1 _ hp f1 f2 _ (g1.set (Nat.le_refl _) _)
set_option maxHeartbeats 8000000 in
theorem r_MayClaim (hy : Ri st iy sv L) (rel : Rel us os L) (hT : Rt st z iy cv (M.map cOf)) (hC : Cr L M gs cls cc) (hm : 300 < m) (hl : L.length ≤ 256) (hMl : M.length ≤ 256)
    (hK : ∀ s, Grw st s → K (.sc (.int .i64 (mayC L M id x y))) s) :
    acallF Try.prog pl (n + 7) m 52 [.ref z 0, .sc (.int .i64 id), .agg (cl x y)] st K := by
  refine acallF_inF Try.func52 rfl rfl Try.ntmps52 (by simp) ?_
  obtain ⟨s1, hs1⟩ : ∃ s1, s1 = st ++ [Ob.cells (cl x y)] := ⟨_, rfl⟩
  have g1 : Grw st s1 := by rw [hs1]; exact .push _ _
  have c1 : s1[st.length]? = some (.cells (cl x y)) := by rw [hs1]; exact get_new0 _ _
  have l1 : s1.length = st.length + 1 := by rw [hs1]; simp
  have hy1 := hy.grw g1
  have hT1 := hT.grw g1
  have a1 := hT1.at_
  simp only [cl] at hs1 c1
  simp only [cl, evf,↓evp,evq,evr,fxa0,fxa1,fxa2,fxa3,fxa4,fxu,fxn,fxl,↓fxp,lgc,absL,fitL,flatL,ares,ares1,ofVal,unSc,aload,afill,splice,abound,asI,elems,IntKind.bits,sortT,eqNil,closedL,allByte,patch,pendOK,numA,Value.cells,Value.oneCell',ibin,List.replicate,Option.elim,Nat.reduceAdd,Nat.reduceSub,Nat.reduceMul,Nat.reduceLT,Nat.reduceEqDiff,Nat.reduceLeDiff,Nat.reduceBEq,Int.reduceLE,Int.reduceLT,Int.reduceToNat,Int.reduceBNe,Int.reduceBEq,Int.reduceNeg,Int.reduceEq,Int.reduceNe,Nat.reduceBNe,Int.reduceAdd,Int.reduceSub,Int.reduceMul,Int.reducePow,Nat.reducePow,Int.reduceGT,Int.reduceGE,if_true,if_false,ite_true,ite_false,beq_self_eq_true,BEq.rfl,reduceCtorEq,eq_self,ne_eq,Function.comp_def,beq_iff_eq]
  rw [← hs1]
  simp only [a1, evf,↓evp,evq,evr,fxa0,fxa1,fxa2,fxa3,fxa4,fxu,fxn,fxl,↓fxp,lgc,absL,fitL,flatL,ares,ares1,ofVal,unSc,aload,afill,splice,abound,asI,elems,IntKind.bits,sortT,eqNil,closedL,allByte,patch,pendOK,numA,Value.cells,Value.oneCell',ibin,List.replicate,Option.elim,Nat.reduceAdd,Nat.reduceSub,Nat.reduceMul,Nat.reduceLT,Nat.reduceEqDiff,Nat.reduceLeDiff,Nat.reduceBEq,Int.reduceLE,Int.reduceLT,Int.reduceToNat,Int.reduceBNe,Int.reduceBEq,Int.reduceNeg,Int.reduceEq,Int.reduceNe,Nat.reduceBNe,Int.reduceAdd,Int.reduceSub,Int.reduceMul,Int.reducePow,Nat.reducePow,Int.reduceGT,Int.reduceGE,if_true,if_false,ite_true,ite_false,beq_self_eq_true,BEq.rfl,reduceCtorEq,eq_self,ne_eq,Function.comp_def,beq_iff_eq]
  unfold mayC at hK
  refine r_FindU (n := n + 4) hy1 rel hm hl (fun e s2 g2 => ?_) fun p hp hpe e s2 g2 => ?_
  · rw [e] at hK
    simp only [rc, evf,↓evp,evq,evr,fxa0,fxa1,fxa2,fxa3,fxa4,fxu,fxn,fxl,↓fxp,lgc,absL,fitL,flatL,ares,ares1,ofVal,unSc,aload,afill,splice,abound,asI,elems,IntKind.bits,sortT,eqNil,closedL,allByte,patch,pendOK,numA,Value.cells,Value.oneCell',ibin,List.replicate,Option.elim,Nat.reduceAdd,Nat.reduceSub,Nat.reduceMul,Nat.reduceLT,Nat.reduceEqDiff,Nat.reduceLeDiff,Nat.reduceBEq,Int.reduceLE,Int.reduceLT,Int.reduceToNat,Int.reduceBNe,Int.reduceBEq,Int.reduceNeg,Int.reduceEq,Int.reduceNe,Nat.reduceBNe,Int.reduceAdd,Int.reduceSub,Int.reduceMul,Int.reducePow,Nat.reducePow,Int.reduceGT,Int.reduceGE,if_true,if_false,ite_true,ite_false,beq_self_eq_true,BEq.rfl,reduceCtorEq,eq_self,ne_eq,Function.comp_def,beq_iff_eq]
    exact hK _ ((g1.trans g2).push' _)
  rw [e] at hK
  simp only at hK
  obtain ⟨s3, hs3⟩ : ∃ s3, s3 = s2 ++ [Ob.cells (rc p.x p.y p.w p.h)] := ⟨_, rfl⟩
  have g3 : Grw s2 s3 := by rw [hs3]; exact .push _ _
  have r3 : s3[s2.length]? = some (.cells (rc p.x p.y p.w p.h)) := by rw [hs3]; exact get_new0 _ _
  have gg3 := (g1.trans g2).trans g3
  have c3 := (g2.trans g3) _ _ c1
  have hT3 := hT.grw gg3
  have a3 := hT3.at_
  have eM : (M.map cOf).length = M.length := List.length_map _
  have l2 := g2.le
  simp only [rc] at hs3 r3
  simp only [rc, evf,↓evp,evq,evr,fxa0,fxa1,fxa2,fxa3,fxa4,fxu,fxn,fxl,↓fxp,lgc,absL,fitL,flatL,ares,ares1,ofVal,unSc,aload,afill,splice,abound,asI,elems,IntKind.bits,sortT,eqNil,closedL,allByte,patch,pendOK,numA,Value.cells,Value.oneCell',ibin,List.replicate,Option.elim,Nat.reduceAdd,Nat.reduceSub,Nat.reduceMul,Nat.reduceLT,Nat.reduceEqDiff,Nat.reduceLeDiff,Nat.reduceBEq,Int.reduceLE,Int.reduceLT,Int.reduceToNat,Int.reduceBNe,Int.reduceBEq,Int.reduceNeg,Int.reduceEq,Int.reduceNe,Nat.reduceBNe,Int.reduceAdd,Int.reduceSub,Int.reduceMul,Int.reducePow,Nat.reducePow,Int.reduceGT,Int.reduceGE,if_true,if_false,ite_true,ite_false,beq_self_eq_true,BEq.rfl,reduceCtorEq,eq_self,ne_eq,Function.comp_def,beq_iff_eq]
  rw [← hs3]
  have any_c : ∀ i, i ≤ M.length → True := fun _ _ => trivial
  refine aloop_forF (fun k f s => s = s3 ∧ ∃ i : Nat, k + i = m ∧ i ≤ M.length ∧ M.any (fun c => c.id == id) = (M.drop i).any (fun c => c.id == id) ∧ f 0 = .ref z 0 ∧ f 1 = .sc (.int .i64 id) ∧ f 5 = .ref st.length 0 ∧ f 7 = .ref s2.length 0 ∧ f 9 = .sc (.int .i64 i)) ⟨rfl, 0, by omega, by omega, rfl, by simp only [evf, ne_eq, Nat.reduceEqDiff, Nat.reduceLT, not_false_eq_true], by simp only [evf, ne_eq, Nat.reduceEqDiff, Nat.reduceLT, not_false_eq_true], by simp only [evf, ne_eq, Nat.reduceEqDiff, Nat.reduceLT, not_false_eq_true], by simp only [evf, ne_eq, Nat.reduceEqDiff, Nat.reduceLT, not_false_eq_true], by simp only [evf, ne_eq, Nat.reduceEqDiff, Nat.reduceLT, not_false_eq_true]; rfl⟩ ?_
  rintro I' hI' k f s ⟨rfl, i, hk, hi, hp', f0, f1, f5, f7, f9⟩
  refine ⟨k - 1, by omega, ?_⟩
  have al := alen_rd hT3.rd.1 Try.underlying83
  rw [eM] at al
  have e3 : IntKind.i64.wrap ((i : Int) + 1) = ((i + 1 : Nat) : Int) := by rw [IntWalk.i64_in _ (by omega)]; rfl
  by_cases hil : i < M.length
  · have d : decide ((i : Int) < M.length) = true := decide_eq_true (by omega)
    have hil' : i < (M.map cOf).length := by rw [eM]; exact hil
    obtain ⟨p1, p2⟩ := ix_flat (f := C3.v) (fun a => rfl) hT3.rd.1 Try.underlying83 sz99 ag99 (by omega) hil'
    obtain ⟨p3, p4⟩ := c_id hT3.rd.1 hil'
    have ec : (M.map cOf)[i].id = M[i].id := by rw [List.getElem_map]; rfl
    rw [ec] at p4
    have hd : M.drop i = M[i] :: M.drop (i + 1) := List.drop_eq_getElem_cons hil
    rw [hd, List.any_cons] at hp'
    cases q : M[i].id == id
    · rw [q, Bool.false_or] at hp'
      simp only [f0, f1, f5, f7, f9, a3, al, d, p1, p3, p4, q, e3, evf,↓evp,evq,evr,fxa0,fxa1,fxa2,fxa3,fxa4,fxu,fxn,fxl,↓fxp,lgc,absL,fitL,flatL,ares,ares1,ofVal,unSc,aload,afill,splice,abound,asI,elems,IntKind.bits,sortT,eqNil,closedL,allByte,patch,pendOK,numA,Value.cells,Value.oneCell',ibin,List.replicate,Option.elim,Nat.reduceAdd,Nat.reduceSub,Nat.reduceMul,Nat.reduceLT,Nat.reduceEqDiff,Nat.reduceLeDiff,Nat.reduceBEq,Int.reduceLE,Int.reduceLT,Int.reduceToNat,Int.reduceBNe,Int.reduceBEq,Int.reduceNeg,Int.reduceEq,Int.reduceNe,Nat.reduceBNe,Int.reduceAdd,Int.reduceSub,Int.reduceMul,Int.reducePow,Nat.reducePow,Int.reduceGT,Int.reduceGE,if_true,if_false,ite_true,ite_false,beq_self_eq_true,BEq.rfl,reduceCtorEq,eq_self,ne_eq,Function.comp_def,beq_iff_eq]
      exact hI' _ _ _ ⟨rfl, i + 1, by omega, hil, hp', by simp only [f0, evf, ne_eq, Nat.reduceEqDiff, Nat.reduceLT, not_false_eq_true], by simp only [f1, evf, ne_eq, Nat.reduceEqDiff, Nat.reduceLT, not_false_eq_true], by simp only [f5, evf, ne_eq, Nat.reduceEqDiff, Nat.reduceLT, not_false_eq_true], by simp only [f7, evf, ne_eq, Nat.reduceEqDiff, Nat.reduceLT, not_false_eq_true], by simp only [evf, ne_eq, Nat.reduceEqDiff, Nat.reduceLT, not_false_eq_true]⟩
    · rw [q, Bool.true_or] at hp'
      rw [if_pos hp'] at hK
      simp only [f0, f1, f5, f7, f9, a3, al, d, p1, p3, p4, q, evf,↓evp,evq,evr,fxa0,fxa1,fxa2,fxa3,fxa4,fxu,fxn,fxl,↓fxp,lgc,absL,fitL,flatL,ares,ares1,ofVal,unSc,aload,afill,splice,abound,asI,elems,IntKind.bits,sortT,eqNil,closedL,allByte,patch,pendOK,numA,Value.cells,Value.oneCell',ibin,List.replicate,Option.elim,Nat.reduceAdd,Nat.reduceSub,Nat.reduceMul,Nat.reduceLT,Nat.reduceEqDiff,Nat.reduceLeDiff,Nat.reduceBEq,Int.reduceLE,Int.reduceLT,Int.reduceToNat,Int.reduceBNe,Int.reduceBEq,Int.reduceNeg,Int.reduceEq,Int.reduceNe,Nat.reduceBNe,Int.reduceAdd,Int.reduceSub,Int.reduceMul,Int.reducePow,Nat.reducePow,Int.reduceGT,Int.reduceGE,if_true,if_false,ite_true,ite_false,beq_self_eq_true,BEq.rfl,reduceCtorEq,eq_self,ne_eq,Function.comp_def,beq_iff_eq]
      exact hK _ gg3
  have d : decide ((i : Int) < M.length) = false := decide_eq_false (by omega)
  obtain rfl : i = M.length := by omega
  rw [List.drop_length] at hp'
  simp only [List.any_nil] at hp'
  rw [if_neg (by rw [hp']; decide)] at hK
  have b3 : ∀ o, (s.set s2.length o)[s2.length]? = some o := fun o => get_set r3 o
  obtain ⟨s4, hs4⟩ : ∃ s4, s4 = s.set s2.length (Ob.cells (rc x y p.w p.h)) := ⟨_, rfl⟩
  have r4 : s4[s2.length]? = some (.cells (rc x y p.w p.h)) := by rw [hs4]; exact b3 _
  have g4 : Grw st s4 := by rw [hs4]; exact gg3.set (by omega) _
  simp only [rc] at hs4 r4
  simp only [f0, f1, f5, f7, f9, a3, al, d, c3, r3, b3, evf,↓evp,evq,evr,fxa0,fxa1,fxa2,fxa3,fxa4,fxu,fxn,fxl,↓fxp,lgc,absL,fitL,flatL,ares,ares1,ofVal,unSc,aload,afill,splice,abound,asI,elems,IntKind.bits,sortT,eqNil,closedL,allByte,patch,pendOK,numA,Value.cells,Value.oneCell',ibin,List.replicate,Option.elim,Nat.reduceAdd,Nat.reduceSub,Nat.reduceMul,Nat.reduceLT,Nat.reduceEqDiff,Nat.reduceLeDiff,Nat.reduceBEq,Int.reduceLE,Int.reduceLT,Int.reduceToNat,Int.reduceBNe,Int.reduceBEq,Int.reduceNeg,Int.reduceEq,Int.reduceNe,Nat.reduceBNe,Int.reduceAdd,Int.reduceSub,Int.reduceMul,Int.reducePow,Nat.reducePow,Int.reduceGT,Int.reduceGE,if_true,if_false,ite_true,ite_false,beq_self_eq_true,BEq.rfl,reduceCtorEq,eq_self,ne_eq,Function.comp_def,beq_iff_eq]
  rw [← hs4]
  try simp only [r4, evf,↓evp,evq,evr,fxa0,fxa1,fxa2,fxa3,fxa4,fxu,fxn,fxl,↓fxp,lgc,absL,fitL,flatL,ares,ares1,ofVal,unSc,aload,afill,splice,abound,asI,elems,IntKind.bits,sortT,eqNil,closedL,allByte,patch,pendOK,numA,Value.cells,Value.oneCell',ibin,List.replicate,Option.elim,Nat.reduceAdd,Nat.reduceSub,Nat.reduceMul,Nat.reduceLT,Nat.reduceEqDiff,Nat.reduceLeDiff,Nat.reduceBEq,Int.reduceLE,Int.reduceLT,Int.reduceToNat,Int.reduceBNe,Int.reduceBEq,Int.reduceNeg,Int.reduceEq,Int.reduceNe,Nat.reduceBNe,Int.reduceAdd,Int.reduceSub,Int.reduceMul,Int.reducePow,Nat.reducePow,Int.reduceGT,Int.reduceGE,if_true,if_false,ite_true,ite_false,beq_self_eq_true,BEq.rfl,reduceCtorEq,eq_self,ne_eq,Function.comp_def,beq_iff_eq]
  refine r_May (n := n + 3) fun s5 g5 => ?_
  have r5 := g5 _ _ r4
  have gg5 := g4.trans g5
  have hT5 := hT.grw gg5
  have a5 := hT5.at_
  cases e1 : mayB x y p.w p.h
  · rw [if_pos e1] at hK
    simp only [evf,↓evp,evq,evr,fxa0,fxa1,fxa2,fxa3,fxa4,fxu,fxn,fxl,↓fxp,lgc,absL,fitL,flatL,ares,ares1,ofVal,unSc,aload,afill,splice,abound,asI,elems,IntKind.bits,sortT,eqNil,closedL,allByte,patch,pendOK,numA,Value.cells,Value.oneCell',ibin,List.replicate,Option.elim,Nat.reduceAdd,Nat.reduceSub,Nat.reduceMul,Nat.reduceLT,Nat.reduceEqDiff,Nat.reduceLeDiff,Nat.reduceBEq,Int.reduceLE,Int.reduceLT,Int.reduceToNat,Int.reduceBNe,Int.reduceBEq,Int.reduceNeg,Int.reduceEq,Int.reduceNe,Nat.reduceBNe,Int.reduceAdd,Int.reduceSub,Int.reduceMul,Int.reducePow,Nat.reducePow,Int.reduceGT,Int.reduceGE,if_true,if_false,ite_true,ite_false,beq_self_eq_true,BEq.rfl,reduceCtorEq,eq_self,ne_eq,Function.comp_def,beq_iff_eq]
    exact hK _ gg5
  rw [if_neg (by rw [e1]; decide)] at hK
  simp only [f0, f1, f5, f7, f9, a5, r5, evf,↓evp,evq,evr,fxa0,fxa1,fxa2,fxa3,fxa4,fxu,fxn,fxl,↓fxp,lgc,absL,fitL,flatL,ares,ares1,ofVal,unSc,aload,afill,splice,abound,asI,elems,IntKind.bits,sortT,eqNil,closedL,allByte,patch,pendOK,numA,Value.cells,Value.oneCell',ibin,List.replicate,Option.elim,Nat.reduceAdd,Nat.reduceSub,Nat.reduceMul,Nat.reduceLT,Nat.reduceEqDiff,Nat.reduceLeDiff,Nat.reduceBEq,Int.reduceLE,Int.reduceLT,Int.reduceToNat,Int.reduceBNe,Int.reduceBEq,Int.reduceNeg,Int.reduceEq,Int.reduceNe,Nat.reduceBNe,Int.reduceAdd,Int.reduceSub,Int.reduceMul,Int.reducePow,Nat.reducePow,Int.reduceGT,Int.reduceGE,if_true,if_false,ite_true,ite_false,beq_self_eq_true,BEq.rfl,reduceCtorEq,eq_self,ne_eq,Function.comp_def,beq_iff_eq]
  refine r_Free (n := n) (hy.grw gg5) (by omega) (by omega) fun s6 g6 => ?_
  have r6 := g6 _ _ r5
  have gg6 := gg5.trans g6
  have hT6 := hT.grw gg6
  have a6 := hT6.at_
  rw [e1]
  cases e2 : L.any (othR id x y p.w p.h)
  case true =>
    rw [if_pos e2] at hK
    simp only [Bool.not_true, Bool.and_false, evf,↓evp,evq,evr,fxa0,fxa1,fxa2,fxa3,fxa4,fxu,fxn,fxl,↓fxp,lgc,absL,fitL,flatL,ares,ares1,ofVal,unSc,aload,afill,splice,abound,asI,elems,IntKind.bits,sortT,eqNil,closedL,allByte,patch,pendOK,numA,Value.cells,Value.oneCell',ibin,List.replicate,Option.elim,Nat.reduceAdd,Nat.reduceSub,Nat.reduceMul,Nat.reduceLT,Nat.reduceEqDiff,Nat.reduceLeDiff,Nat.reduceBEq,Int.reduceLE,Int.reduceLT,Int.reduceToNat,Int.reduceBNe,Int.reduceBEq,Int.reduceNeg,Int.reduceEq,Int.reduceNe,Nat.reduceBNe,Int.reduceAdd,Int.reduceSub,Int.reduceMul,Int.reducePow,Nat.reducePow,Int.reduceGT,Int.reduceGE,if_true,if_false,ite_true,ite_false,beq_self_eq_true,BEq.rfl,reduceCtorEq,eq_self,ne_eq,Function.comp_def,beq_iff_eq]
    exact hK _ gg6
  rw [if_neg (by rw [e2]; decide)] at hK
  simp only [Bool.not_false, Bool.and_self, f0, f1, f5, f7, f9, a5, r5, a6, r6, evf,↓evp,evq,evr,fxa0,fxa1,fxa2,fxa3,fxa4,fxu,fxn,fxl,↓fxp,lgc,absL,fitL,flatL,ares,ares1,ofVal,unSc,aload,afill,splice,abound,asI,elems,IntKind.bits,sortT,eqNil,closedL,allByte,patch,pendOK,numA,Value.cells,Value.oneCell',ibin,List.replicate,Option.elim,Nat.reduceAdd,Nat.reduceSub,Nat.reduceMul,Nat.reduceLT,Nat.reduceEqDiff,Nat.reduceLeDiff,Nat.reduceBEq,Int.reduceLE,Int.reduceLT,Int.reduceToNat,Int.reduceBNe,Int.reduceBEq,Int.reduceNeg,Int.reduceEq,Int.reduceNe,Nat.reduceBNe,Int.reduceAdd,Int.reduceSub,Int.reduceMul,Int.reducePow,Nat.reducePow,Int.reduceGT,Int.reduceGE,if_true,if_false,ite_true,ite_false,beq_self_eq_true,BEq.rfl,reduceCtorEq,eq_self,ne_eq,Function.comp_def,beq_iff_eq]
  refine aloop_forF (fun k f s => ∃ i : Nat, k + i = m ∧ i ≤ M.length ∧ Grw s6 s ∧ M.any (meetsR x y p.w p.h) = (M.drop i).any (meetsR x y p.w p.h) ∧ f 0 = .ref z 0 ∧ f 7 = .ref s2.length 0 ∧ f 10 = .sc (.int .i64 i)) ⟨0, by omega, by omega, fun _ _ h => h, rfl, by simp only [f0, evf, ne_eq, Nat.reduceEqDiff, Nat.reduceLT, not_false_eq_true], by simp only [f7, evf, ne_eq, Nat.reduceEqDiff, Nat.reduceLT, not_false_eq_true], by simp only [evf, ne_eq, Nat.reduceEqDiff, Nat.reduceLT, not_false_eq_true]; rfl⟩ ?_
  rintro I2 hI2 k2 f s7 ⟨j, hk2, hj, g7, hq, f0, f7, f10⟩
  refine ⟨k2 - 1, by omega, ?_⟩
  have gg7 := gg6.trans g7
  have hT7 := hT.grw gg7
  have a7 := hT7.at_
  have r7 := g7 _ _ r6
  have al7 := alen_rd hT7.rd.1 Try.underlying83
  rw [eM] at al7
  have e4 : IntKind.i64.wrap ((j : Int) + 1) = ((j + 1 : Nat) : Int) := by rw [IntWalk.i64_in _ (by omega)]; rfl
  by_cases hjl : j < M.length
  · have d : decide ((j : Int) < M.length) = true := decide_eq_true (by omega)
    have hjl' : j < (M.map cOf).length := by rw [eM]; exact hjl
    have gX := fun X => Grw.push s7 X
    have hTX := fun X => hT7.grw (gX X)
    have aX := fun X => (hTX X).at_
    have r7X := fun X => gX X _ _ r7
    have p1 := fun X => (ix_flat (f := C3.v) (fun a => rfl) (hTX X).rd.1 Try.underlying83 sz99 ag99 (by omega) hjl').1
    have p3 := fun X => (c_id (hTX X).rd.1 hjl').1
    have p4 := fun X => (c_id (hTX X).rd.1 hjl').2
    have ec : (M.map cOf)[j].id = M[j].id := by rw [List.getElem_map]; rfl
    have ex : (M.map cOf)[j].x = M[j].x ∧ (M.map cOf)[j].y = M[j].y := by rw [List.getElem_map]; exact ⟨rfl, rfl⟩
    simp only [ec] at p4
    have hd : M.drop j = M[j] :: M.drop (j + 1) := List.drop_eq_getElem_cons hjl
    rw [hd, List.any_cons] at hq
    simp only [f0, f7, f10, a7, al7, d, aX, p1, p3, p4, evf,↓evp,evq,evr,fxa0,fxa1,fxa2,fxa3,fxa4,fxu,fxn,fxl,↓fxp,lgc,absL,fitL,flatL,ares,ares1,ofVal,unSc,aload,afill,splice,abound,asI,elems,IntKind.bits,sortT,eqNil,closedL,allByte,patch,pendOK,numA,Value.cells,Value.oneCell',ibin,List.replicate,Option.elim,Nat.reduceAdd,Nat.reduceSub,Nat.reduceMul,Nat.reduceLT,Nat.reduceEqDiff,Nat.reduceLeDiff,Nat.reduceBEq,Int.reduceLE,Int.reduceLT,Int.reduceToNat,Int.reduceBNe,Int.reduceBEq,Int.reduceNeg,Int.reduceEq,Int.reduceNe,Nat.reduceBNe,Int.reduceAdd,Int.reduceSub,Int.reduceMul,Int.reducePow,Nat.reducePow,Int.reduceGT,Int.reduceGE,if_true,if_false,ite_true,ite_false,beq_self_eq_true,BEq.rfl,reduceCtorEq,eq_self,ne_eq,Function.comp_def,beq_iff_eq]
    have hyX := fun X => (hy.grw gg7).grw (gX X)
    refine r_FindU (n := n + 4) (hyX _) rel hm hl (fun e => ?_) fun q hq1 hq2 e s8 g8 => ?_
    · obtain ⟨q, hq1, hq2, _⟩ := hC.un M[j] (List.getElem_mem hjl)
      have := List.find?_eq_none.1 e q hq1
      simp [hq2] at this
    obtain ⟨q', hq1', hq2', w1, w2⟩ := hC.un M[j] (List.getElem_mem hjl)
    obtain rfl : q' = q := nodup_in rel.ids hq1' hq1 (by rw [hq2', hq2])
    have w0 : s8[s7.length]? = some Ob.gone := g8 _ _ (get_new0 _ _)
    have v1 : ∀ o, (s8.set s7.length o)[s7.length]? = some o := fun o => get_set w0 o
    have v2 : ∀ o o', ((s8.set s7.length o).set s7.length o') = s8.set s7.length o' := fun o o' => List.set_set ..
    have gs : ∀ o, Grw s7 (s8.set s7.length o) := fun o j' o' ho => by
      have lj : j' < s7.length := (List.getElem?_eq_some_iff.1 ho).1
      rw [List.getElem?_set_ne (by omega)]
      exact g8 _ _ (gX _ _ _ ho)
    have hTs := fun o => hT7.grw (gs o)
    have as_ := fun o => (hTs o).at_
    have rs := fun o => gs o _ _ r7
    have t1 := fun o => (ix_flat (f := C3.v) (fun a => rfl) (hTs o).rd.1 Try.underlying83 sz99 ag99 (by omega) hjl').1
    have t3 := fun o => (c_to (hTs o).rd.1 hjl').1
    have t4 := fun o => (c_to (hTs o).rd.1 hjl').2
    simp only [ex.1, ex.2, cl] at t4
    simp only [rc, f0, f7, f10, w0, v1, v2, as_, rs, t1, t3, t4, evf,↓evp,evq,evr,fxa0,fxa1,fxa2,fxa3,fxa4,fxu,fxn,fxl,↓fxp,lgc,absL,fitL,flatL,ares,ares1,ofVal,unSc,aload,afill,splice,abound,asI,elems,IntKind.bits,sortT,eqNil,closedL,allByte,patch,pendOK,numA,Value.cells,Value.oneCell',ibin,List.replicate,Option.elim,Nat.reduceAdd,Nat.reduceSub,Nat.reduceMul,Nat.reduceLT,Nat.reduceEqDiff,Nat.reduceLeDiff,Nat.reduceBEq,Int.reduceLE,Int.reduceLT,Int.reduceToNat,Int.reduceBNe,Int.reduceBEq,Int.reduceNeg,Int.reduceEq,Int.reduceNe,Nat.reduceBNe,Int.reduceAdd,Int.reduceSub,Int.reduceMul,Int.reducePow,Nat.reducePow,Int.reduceGT,Int.reduceGE,if_true,if_false,ite_true,ite_false,beq_self_eq_true,BEq.rfl,reduceCtorEq,eq_self,ne_eq,Function.comp_def,beq_iff_eq]
    refine r_Meet (n := n + 2) fun ra rb rc' rd s9 g9 => ?_
    rw [w1, w2]
    have gg9 : Grw s7 s9 := (gs _).trans g9
    cases hmm : meetB M[j].x M[j].y M[j].w M[j].h x y p.w p.h
    · simp only [meetsR, hmm, Bool.false_or] at hq
      simp only [rc, f0, f7, f10, e4, evf,↓evp,evq,evr,fxa0,fxa1,fxa2,fxa3,fxa4,fxu,fxn,fxl,↓fxp,lgc,absL,fitL,flatL,ares,ares1,ofVal,unSc,aload,afill,splice,abound,asI,elems,IntKind.bits,sortT,eqNil,closedL,allByte,patch,pendOK,numA,Value.cells,Value.oneCell',ibin,List.replicate,Option.elim,Nat.reduceAdd,Nat.reduceSub,Nat.reduceMul,Nat.reduceLT,Nat.reduceEqDiff,Nat.reduceLeDiff,Nat.reduceBEq,Int.reduceLE,Int.reduceLT,Int.reduceToNat,Int.reduceBNe,Int.reduceBEq,Int.reduceNeg,Int.reduceEq,Int.reduceNe,Nat.reduceBNe,Int.reduceAdd,Int.reduceSub,Int.reduceMul,Int.reducePow,Nat.reducePow,Int.reduceGT,Int.reduceGE,if_true,if_false,ite_true,ite_false,beq_self_eq_true,BEq.rfl,reduceCtorEq,eq_self,ne_eq,Function.comp_def,beq_iff_eq]
      exact hI2 _ _ _ ⟨j + 1, by omega, hjl, (g7.trans gg9).push' _, hq, by simp only [f0, evf, ne_eq, Nat.reduceEqDiff, Nat.reduceLT, not_false_eq_true], by simp only [f7, evf, ne_eq, Nat.reduceEqDiff, Nat.reduceLT, not_false_eq_true], by simp only [evf, ne_eq, Nat.reduceEqDiff, Nat.reduceLT, not_false_eq_true]⟩
    · simp only [meetsR, hmm, Bool.true_or] at hq
      rw [if_pos hq] at hK
      simp only [rc, f0, f7, f10, evf,↓evp,evq,evr,fxa0,fxa1,fxa2,fxa3,fxa4,fxu,fxn,fxl,↓fxp,lgc,absL,fitL,flatL,ares,ares1,ofVal,unSc,aload,afill,splice,abound,asI,elems,IntKind.bits,sortT,eqNil,closedL,allByte,patch,pendOK,numA,Value.cells,Value.oneCell',ibin,List.replicate,Option.elim,Nat.reduceAdd,Nat.reduceSub,Nat.reduceMul,Nat.reduceLT,Nat.reduceEqDiff,Nat.reduceLeDiff,Nat.reduceBEq,Int.reduceLE,Int.reduceLT,Int.reduceToNat,Int.reduceBNe,Int.reduceBEq,Int.reduceNeg,Int.reduceEq,Int.reduceNe,Nat.reduceBNe,Int.reduceAdd,Int.reduceSub,Int.reduceMul,Int.reducePow,Nat.reducePow,Int.reduceGT,Int.reduceGE,if_true,if_false,ite_true,ite_false,beq_self_eq_true,BEq.rfl,reduceCtorEq,eq_self,ne_eq,Function.comp_def,beq_iff_eq]
      exact hK _ ((gg7.trans gg9).push' _)
  · have d : decide ((j : Int) < M.length) = false := decide_eq_false (by omega)
    obtain rfl : j = M.length := by omega
    rw [List.drop_length] at hq
    simp only [List.any_nil] at hq
    rw [if_neg (by rw [hq]; decide)] at hK
    simp only [f0, f7, f10, a7, al7, d, evf,↓evp,evq,evr,fxa0,fxa1,fxa2,fxa3,fxa4,fxu,fxn,fxl,↓fxp,lgc,absL,fitL,flatL,ares,ares1,ofVal,unSc,aload,afill,splice,abound,asI,elems,IntKind.bits,sortT,eqNil,closedL,allByte,patch,pendOK,numA,Value.cells,Value.oneCell',ibin,List.replicate,Option.elim,Nat.reduceAdd,Nat.reduceSub,Nat.reduceMul,Nat.reduceLT,Nat.reduceEqDiff,Nat.reduceLeDiff,Nat.reduceBEq,Int.reduceLE,Int.reduceLT,Int.reduceToNat,Int.reduceBNe,Int.reduceBEq,Int.reduceNeg,Int.reduceEq,Int.reduceNe,Nat.reduceBNe,Int.reduceAdd,Int.reduceSub,Int.reduceMul,Int.reducePow,Nat.reducePow,Int.reduceGT,Int.reduceGE,if_true,if_false,ite_true,ite_false,beq_self_eq_true,BEq.rfl,reduceCtorEq,eq_self,ne_eq,Function.comp_def,beq_iff_eq]
    exact hK _ gg7
end
/-! ### Chapter 22's reference: a claim more. -/
theorem flat_takeC (L : List C3) (k : Nat) : (L.flatMap C3.v).take (k * 3) = (L.take k).flatMap C3.v := by
  induction L generalizing k with
  | nil => simp
  | cons u L ih =>
    cases k with
    | zero => simp
    | succ k =>
      have := ih k
      simp only [List.flatMap_cons, List.take_succ_cons, C3.v, cl, List.cons_append, List.nil_append, Nat.succ_mul, this]
theorem closed_cs : ∀ L : List C3, closedL (L.flatMap C3.v) = true
  | [] => rfl
  | u :: L => by
    have := closed_cs L
    simp only [List.flatMap_cons, C3.v, cl, List.cons_append, List.nil_append, closedL, closed, Bool.true_and]
    exact this
section
variable {n m : Nat} {st s : List Ob} {K : V → List Ob → Prop} {iy z : Nat} {us gs cls : List (Int × V)} {os cc : List ((Int × Int) × V)} {L M : List U} {x y id : Int} {sv cv : V}
set_option maxHeartbeats 4000000 in
theorem r_DoClaim (hy : Ri st iy sv L) (rel : Rel us os L) (hT : Rt st z iy cv (M.map cOf)) (hC : Cr L M gs cls cc) (hm : 300 < m) (hl : L.length ≤ 256) (hMl : M.length ≤ 256)
    (hK1 : mayC L M id x y ≠ 0 → ∀ s, Grw st s → K (.sc (.int .i64 (mayC L M id x y))) s)
    (hK0 : mayC L M id x y = 0 → ∀ cv' s, (∀ u : U, u.id = id → u.x = x → u.y = y → Rt s z iy cv' ((insU u M).map cOf)) → (∀ j o, j ≠ z → st[j]? = some o → s[j]? = some o) → K (.sc (.int .i64 0)) s) :
    acallF Try.prog pl (n + 8) m 53 [.ref z 0, .sc (.int .i64 id), .agg (cl x y)] st K := by
  refine acallF_inF Try.func53 rfl rfl Try.ntmps53 (by simp) ?_
  have g0 := Grw.push st [.cells (cl x y)]
  have c0 : (st ++ [Ob.cells (cl x y)])[st.length]? = some (.cells (cl x y)) := get_new _ _ 0
  simp only [cl] at g0 c0
  simp only [cl, c0, evf,↓evp,evq,evr,fxa0,fxa1,fxa2,fxa3,fxa4,fxu,fxn,fxl,↓fxp,lgc,absL,fitL,flatL,ares,ares1,ofVal,unSc,aload,afill,splice,abound,asI,elems,IntKind.bits,sortT,eqNil,closedL,allByte,patch,pendOK,numA,Value.cells,Value.oneCell',ibin,List.replicate,Option.elim,Nat.reduceAdd,Nat.reduceSub,Nat.reduceMul,Nat.reduceLT,Nat.reduceEqDiff,Nat.reduceLeDiff,Nat.reduceBEq,Int.reduceLE,Int.reduceLT,Int.reduceToNat,Int.reduceBNe,Int.reduceBEq,Int.reduceNeg,Int.reduceEq,Int.reduceNe,Nat.reduceBNe,Int.reduceAdd,Int.reduceSub,Int.reduceMul,Int.reducePow,Nat.reducePow,Int.reduceGT,Int.reduceGE,if_true,if_false,ite_true,ite_false,beq_self_eq_true,BEq.rfl,reduceCtorEq,eq_self,ne_eq,Function.comp_def,beq_iff_eq]
  refine r_MayClaim (n := n) (hy.grw g0) rel (hT.grw g0) hC hm hl hMl fun s1 j1 => ?_
  have c1 := j1 _ _ c0
  have g1 := g0.trans j1
  cases e1 : mayC L M id x y != 0
  case true =>
    have e1' : mayC L M id x y ≠ 0 := by simpa using e1
    simp only [e1, evf,↓evp,evq,evr,fxa0,fxa1,fxa2,fxa3,fxa4,fxu,fxn,fxl,↓fxp,lgc,absL,fitL,flatL,ares,ares1,ofVal,unSc,aload,afill,splice,abound,asI,elems,IntKind.bits,sortT,eqNil,closedL,allByte,patch,pendOK,numA,Value.cells,Value.oneCell',ibin,List.replicate,Option.elim,Nat.reduceAdd,Nat.reduceSub,Nat.reduceMul,Nat.reduceLT,Nat.reduceEqDiff,Nat.reduceLeDiff,Nat.reduceBEq,Int.reduceLE,Int.reduceLT,Int.reduceToNat,Int.reduceBNe,Int.reduceBEq,Int.reduceNeg,Int.reduceEq,Int.reduceNe,Nat.reduceBNe,Int.reduceAdd,Int.reduceSub,Int.reduceMul,Int.reducePow,Nat.reducePow,Int.reduceGT,Int.reduceGE,if_true,if_false,ite_true,ite_false,beq_self_eq_true,BEq.rfl,reduceCtorEq,eq_self,ne_eq,Function.comp_def,beq_iff_eq]
    exact hK1 e1' _ g1
  have e1' : mayC L M id x y = 0 := by simpa using e1
  have hK0 := hK0 e1'
  simp only [c1, e1, evf,↓evp,evq,evr,fxa0,fxa1,fxa2,fxa3,fxa4,fxu,fxn,fxl,↓fxp,lgc,absL,fitL,flatL,ares,ares1,ofVal,unSc,aload,afill,splice,abound,asI,elems,IntKind.bits,sortT,eqNil,closedL,allByte,patch,pendOK,numA,Value.cells,Value.oneCell',ibin,List.replicate,Option.elim,Nat.reduceAdd,Nat.reduceSub,Nat.reduceMul,Nat.reduceLT,Nat.reduceEqDiff,Nat.reduceLeDiff,Nat.reduceBEq,Int.reduceLE,Int.reduceLT,Int.reduceToNat,Int.reduceBNe,Int.reduceBEq,Int.reduceNeg,Int.reduceEq,Int.reduceNe,Nat.reduceBNe,Int.reduceAdd,Int.reduceSub,Int.reduceMul,Int.reducePow,Nat.reducePow,Int.reduceGT,Int.reduceGE,if_true,if_false,ite_true,ite_false,beq_self_eq_true,BEq.rfl,reduceCtorEq,eq_self,ne_eq,Function.comp_def,beq_iff_eq]
  have eM : (M.map cOf).length = M.length := List.length_map _
  refine aloop_forF (fun k f s => s = s1 ∧ ∃ i : Nat, k + i = m ∧ i ≤ atI' id M ∧ (∀ j (h : j < M.length), j < i → M[j].id < id) ∧ f 0 = .ref z 0 ∧ f 1 = .sc (.int .i64 id) ∧ f 5 = .ref st.length 0 ∧ f 8 = .sc (.int .i64 i)) ⟨rfl, 0, by omega, by omega, fun j _ h => by omega, by simp only [evf, ne_eq, Nat.reduceEqDiff, Nat.reduceLT, not_false_eq_true], by simp only [evf, ne_eq, Nat.reduceEqDiff, Nat.reduceLT, not_false_eq_true], by simp only [evf, ne_eq, Nat.reduceEqDiff, Nat.reduceLT, not_false_eq_true], by simp only [evf, ne_eq, Nat.reduceEqDiff, Nat.reduceLT, not_false_eq_true]; rfl⟩ ?_
  rintro I' hI' k f s ⟨rfl, i, hk, hi, hp, f0, f1, f5, f7⟩
  have hle := atI'_le id M
  refine ⟨k - 1, by omega, ?_⟩
  have hT2 := hT.grw g1
  have y2 := hT2.at_
  have hv := hT2.rd.1
  have hal2 := alen_rd hv Try.underlying83
  rw [eM] at hal2
  have e9 : IntKind.i64.wrap ((i : Int) + 1) = ((i + 1 : Nat) : Int) := by rw [IntWalk.i64_in _ (by omega)]; rfl
  have next : ∀ hil : i < M.length, M[i].id < id → i < atI' id M := fun hil h => (atI'_lt id M i hil fun j hj => hp j (by omega) hj).1 h
  have stop : (i = M.length ∨ ∃ hil : i < M.length, ¬ M[i].id < id) → i = atI' id M := by
    rintro (h | ⟨hil, h⟩)
    · omega
    · have := (atI'_lt id M i hil fun j hj => hp j (by omega) hj)
      omega
  have y3 : ∀ X, (s ++ X)[z]? = some (.cells [.ref iy 0, cv]) := fun X => Grw.push s X _ _ y2
  have c3 := fun X => Grw.push s X _ _ c1
  have hle' : atI' id M ≤ (M.map cOf).length := by rw [eM]; exact hle
  obtain ⟨va, ka, na⟩ := slice_start hT2.rd Try.underlying83 sz99 hle'
  obtain ⟨vb, kb, nb⟩ := slice_end hT2.rd Try.underlying83 sz99 hle'
  have ka' := fun X => aslice_grw (Grw.push s X) ka
  have kb' := fun X => aslice_grw (Grw.push s X) kb
  have a1 := own_app (A := []) (a := 0) (o := Ob.gone) Try.underlying83 sz99 by99 ze99 (by omega) rfl (na.1.grw (.push s _)).1 (by rw [flat_takeC]; exact closed_cs _) (na.1.2.2 _ sz99) (by omega) (by omega)
  have a2 := own_app (s := s) (P := Try.prog) (A := [] ++ ((M.map cOf).flatMap C3.v).take (atI' id M * 3)) (a := 0 + atI' id M) (o := Ob.row 99 (C3.v ⟨id, x, y⟩) 1 0 false) (zs := C3.v ⟨id, x, y⟩) (k := 1) (x := .sl (s.length + 1) 0 1 false 1) Try.underlying83 sz99 by99 ze99 (by omega) rfl (by simp only [elems, get_new, sz99]; rfl) rfl rfl (by omega) (by omega)
  have a3 := own_app (s := s) (P := Try.prog) (A := ((M.map cOf).flatMap C3.v).take (atI' id M * 3) ++ C3.v ⟨id, x, y⟩) (a := atI' id M + 1) (o := Ob.row 99 (C3.v ⟨id, x, y⟩) 1 0 false) Try.underlying83 sz99 by99 ze99 (by omega) rfl (nb.1.grw (.push s _)).1 (by rw [flatMap_drop (f := C3.v) (s := 3) fun _ => rfl]; exact closed_cs _) (nb.1.2.2 _ sz99) (by omega) (by omega)
  rw [eM] at a3
  simp only [Nat.zero_add, List.nil_append, C3.v, cl] at a1 a2 a3
  have hiy : z < s.length := (List.getElem?_eq_some_iff.1 y2).1
  have so : ∀ X o, (s ++ X).set z o = s.set z o ++ X := fun X o => Go.M.set_old hiy X o
  have q1 : ∀ o X, (s.set z o ++ X)[s.length]? = X[0]? := fun o X => by have := get_new0 (s.set z o) X; rwa [List.length_set] at this
  have q2 : ∀ o X, (s.set z o ++ X)[s.length + 1]? = X[1]? := fun o X => by have := get_new (s.set z o) X 1; rwa [List.length_set] at this
  have last : i = atI' id M → ∀ S, S = s.set z (Ob.cells [.ref iy 0, V.sl s.length 0 (atI' id M + 1 + (M.length - atI' id M)) false (atI' id M + 1 + (M.length - atI' id M))]) ++ [Ob.row 99 (((M.map cOf).flatMap C3.v).take (atI' id M * 3) ++ V.sc (.int .i64 id) :: V.sc (.int .i64 x) :: V.sc (.int .i64 y) :: ((M.map cOf).flatMap C3.v).drop (atI' id M * 3)) (atI' id M + 1 + (M.length - atI' id M)) 0 false, Ob.row 99 [V.sc (.int .i64 id), V.sc (.int .i64 x), V.sc (.int .i64 y)] 1 0 false] → K (.sc (.int .i64 0)) S := by
    rintro rfl S rfl
    refine hK0 (.sl s.length 0 (atI' id M + 1 + (M.length - atI' id M)) false (atI' id M + 1 + (M.length - atI' id M))) _ (fun u hu1 hu2 hu3 => ?_) ?_
    · have hlen : ((insU u M).map cOf).length = atI' id M + 1 + (M.length - atI' id M) := by rw [List.length_map, insU_eq, insAt_len]; omega
      have hfl : ((insU u M).map cOf).flatMap C3.v = ((M.map cOf).flatMap C3.v).take (atI' id M * 3) ++ V.sc (.int .i64 id) :: V.sc (.int .i64 x) :: V.sc (.int .i64 y) :: ((M.map cOf).flatMap C3.v).drop (atI' id M * 3) := by
        rw [show ((M.map cOf).flatMap C3.v).drop (atI' id M * 3) = ((M.map cOf).drop (atI' id M)).flatMap C3.v from flatMap_drop (f := C3.v) (s := 3) (fun _ => rfl) _ _, flat_takeC, insU_eq]
        simp only [insAt, List.map_append, List.map_cons, List.map_take, List.map_drop, List.flatMap_append, List.flatMap_cons, cOf, C3.v, cl, hu1, hu2, hu3, List.cons_append, List.nil_append]
      refine ⟨?_, ?_⟩
      · rw [List.getElem?_append_left (by rw [List.length_set]; exact hiy), List.getElem?_set_self hiy]
      · rw [hlen, hfl]
        refine ⟨⟨?_, ⟨fun b hb => (by cases hb), fun hh => by cases hh⟩, fun s' hs' => ?_⟩, .inr ⟨_, _, _, _, rfl⟩, fun hh => by cases hh⟩
        · simp only [elems, q1, sz99, List.getElem?_cons_zero]
          rw [if_pos ⟨trivial, Nat.zero_le _, by omega⟩, Nat.zero_mul, List.drop_zero, ← hfl, ← hlen, ← flatMap_len (f := C3.v) (s := 3) (fun _ => rfl), List.take_length]
        · rw [sz99] at hs'
          cases hs'
          rw [← hfl, ← hlen, flatMap_len (f := C3.v) (s := 3) (fun _ => rfl)]
    · intro j o hj ho
      have := (g1 _ _ ho)
      have lj : j < s.length := (List.getElem?_eq_some_iff.1 this).1
      rw [List.getElem?_append_left (by rw [List.length_set]; exact lj), List.getElem?_set_ne (Ne.symm hj)]
      exact this
  by_cases hil : i < M.length
  · have d : decide ((i : Int) < M.length) = true := decide_eq_true (by omega)
    have hil' : i < (M.map cOf).length := by rw [eM]; exact hil
    obtain ⟨p1, p2⟩ := ix_flat (f := C3.v) (fun a => rfl) hv Try.underlying83 sz99 ag99 (by omega) hil'
    obtain ⟨p3, p4⟩ := c_id hv hil'
    have ec : (M.map cOf)[i].id = M[i].id := by rw [List.getElem_map]; rfl
    rw [ec] at p4
    cases q : decide (M[i].id < id)
    · obtain rfl := stop (.inr ⟨hil, of_decide_eq_false q⟩)
      simp only [f0, f1, f5, f7, y2, hal2, d, p1, p3, p4, q, y3, c3, ka', kb', a1, a2, a3, so, q1, q2, evf,↓evp,evq,evr,fxa0,fxa1,fxa2,fxa3,fxa4,fxu,fxn,fxl,↓fxp,lgc,absL,fitL,flatL,ares,ares1,ofVal,unSc,aload,afill,splice,abound,asI,elems,IntKind.bits,sortT,eqNil,closedL,allByte,patch,pendOK,numA,Value.cells,Value.oneCell',ibin,List.replicate,Option.elim,Nat.reduceAdd,Nat.reduceSub,Nat.reduceMul,Nat.reduceLT,Nat.reduceEqDiff,Nat.reduceLeDiff,Nat.reduceBEq,Int.reduceLE,Int.reduceLT,Int.reduceToNat,Int.reduceBNe,Int.reduceBEq,Int.reduceNeg,Int.reduceEq,Int.reduceNe,Nat.reduceBNe,Int.reduceAdd,Int.reduceSub,Int.reduceMul,Int.reducePow,Nat.reducePow,Int.reduceGT,Int.reduceGE,if_true,if_false,ite_true,ite_false,beq_self_eq_true,BEq.rfl,reduceCtorEq,eq_self,ne_eq,Function.comp_def,beq_iff_eq]
      exact last rfl _ rfl
    · simp only [f0, f1, f5, f7, y2, hal2, d, p1, p3, p4, q, e9, evf,↓evp,evq,evr,fxa0,fxa1,fxa2,fxa3,fxa4,fxu,fxn,fxl,↓fxp,lgc,absL,fitL,flatL,ares,ares1,ofVal,unSc,aload,afill,splice,abound,asI,elems,IntKind.bits,sortT,eqNil,closedL,allByte,patch,pendOK,numA,Value.cells,Value.oneCell',ibin,List.replicate,Option.elim,Nat.reduceAdd,Nat.reduceSub,Nat.reduceMul,Nat.reduceLT,Nat.reduceEqDiff,Nat.reduceLeDiff,Nat.reduceBEq,Int.reduceLE,Int.reduceLT,Int.reduceToNat,Int.reduceBNe,Int.reduceBEq,Int.reduceNeg,Int.reduceEq,Int.reduceNe,Nat.reduceBNe,Int.reduceAdd,Int.reduceSub,Int.reduceMul,Int.reducePow,Nat.reducePow,Int.reduceGT,Int.reduceGE,if_true,if_false,ite_true,ite_false,beq_self_eq_true,BEq.rfl,reduceCtorEq,eq_self,ne_eq,Function.comp_def,beq_iff_eq]
      have hn := next hil (of_decide_eq_true q)
      refine hI' _ _ _ ⟨rfl, i + 1, by omega, by omega, fun j h hj => ?_, by simp only [f0, evf, ne_eq, Nat.reduceEqDiff, Nat.reduceLT, not_false_eq_true], by simp only [f1, evf, ne_eq, Nat.reduceEqDiff, Nat.reduceLT, not_false_eq_true], by simp only [f5, evf, ne_eq, Nat.reduceEqDiff, Nat.reduceLT, not_false_eq_true], by simp only [evf, ne_eq, Nat.reduceEqDiff, Nat.reduceLT, not_false_eq_true]⟩
      by_cases hji : j = i
      · subst hji; exact of_decide_eq_true q
      · exact hp j h (by omega)
  · have d : decide ((i : Int) < M.length) = false := decide_eq_false (by omega)
    obtain rfl := stop (.inl (by omega))
    simp only [f0, f1, f5, f7, y2, hal2, d, y3, c3, ka', kb', a1, a2, a3, so, q1, q2, evf,↓evp,evq,evr,fxa0,fxa1,fxa2,fxa3,fxa4,fxu,fxn,fxl,↓fxp,lgc,absL,fitL,flatL,ares,ares1,ofVal,unSc,aload,afill,splice,abound,asI,elems,IntKind.bits,sortT,eqNil,closedL,allByte,patch,pendOK,numA,Value.cells,Value.oneCell',ibin,List.replicate,Option.elim,Nat.reduceAdd,Nat.reduceSub,Nat.reduceMul,Nat.reduceLT,Nat.reduceEqDiff,Nat.reduceLeDiff,Nat.reduceBEq,Int.reduceLE,Int.reduceLT,Int.reduceToNat,Int.reduceBNe,Int.reduceBEq,Int.reduceNeg,Int.reduceEq,Int.reduceNe,Nat.reduceBNe,Int.reduceAdd,Int.reduceSub,Int.reduceMul,Int.reducePow,Nat.reducePow,Int.reduceGT,Int.reduceGE,if_true,if_false,ite_true,ite_false,beq_self_eq_true,BEq.rfl,reduceCtorEq,eq_self,ne_eq,Function.comp_def,beq_iff_eq]
    exact last rfl _ rfl
end
/-! ### Chapter 22: has an index just these units? -/
section
variable {n m : Nat} {st s : List Ob} {K : V → List Ob → Prop} {ix a b iy : Nat} {us : List (Int × V)} {os : List ((Int × Int) × V)} {L : List U} {sv : V}
set_option maxHeartbeats 4000000 in
theorem same22_yl {ps : Array Tmp} {asg body : Code} (hc : frf (Try.f51.body.getD .skip) = some (ps, asg, body)) {F : Nat → V} {t3 t5 lid i : Nat} {p : Option Code} (q3 : F 3 = .ref t3 0) (q5 : F 5 = .ref t5 0)
    (h3 : s[t3]? = some (.cells [.ref iy 0])) (h5 : s[t5]? = some (.cells [.sc (.int .i64 i)])) (hy : Ri s iy sv L) (hi : i < L.length) (hl : L.length ≤ 256)
    (hlp : s[lid]? = some (.loop .ready p (pl 51) (ofF 52 F) ps.toList asg body))
    (hK : ∀ s', s'[t5]? = some (.cells [.sc (.int .i64 (i + 1 : Nat))]) → s'[lid]? = some (.loop .ready none (pl 51) (ofF 52 F) ps.toList asg body) → (∀ j o, j ≠ t5 → j ≠ lid → s[j]? = some o → s'[j]? = some o) → s.length ≤ s'.length → K (.sc (.bool true)) s') :
    acallF Try.prog pl (n + 1) m Try.prog.funcs.size [.yl lid, .sc (.int .i64 L[i].id), .agg (rc L[i].x L[i].y L[i].w L[i].h)] s K := by
  simp only [Try.f51, Option.getD_some, frf, Option.some.injEq, Prod.mk.injEq] at hc
  obtain ⟨rfl, rfl, rfl⟩ := hc
  refine acallF_yl hlp rfl ?_
  rw [show (#[10, 11] : Array Tmp).toList = [10, 11] from rfl, aputs_two (by decide) (by decide)]
  simp only [rc, evf,↓evp,evq,evr,fxa0,fxa1,fxa2,fxa3,fxa4,fxu,fxn,fxl,↓fxp,lgc,absL,fitL,flatL,ares,ares1,ofVal,unSc,aload,afill,splice,abound,asI,elems,IntKind.bits,sortT,eqNil,closedL,allByte,patch,pendOK,numA,Value.cells,Value.oneCell',ibin,List.replicate,Option.elim,Nat.reduceAdd,Nat.reduceSub,Nat.reduceMul,Nat.reduceLT,Nat.reduceEqDiff,Nat.reduceLeDiff,Nat.reduceBEq,Int.reduceLE,Int.reduceLT,Int.reduceToNat,Int.reduceBNe,Int.reduceBEq,Int.reduceNeg,Int.reduceEq,Int.reduceNe,Nat.reduceBNe,Int.reduceAdd,Int.reduceSub,Int.reduceMul,Int.reducePow,Nat.reducePow,Int.reduceGT,Int.reduceGE,if_true,if_false,ite_true,ite_false,beq_self_eq_true,BEq.rfl,reduceCtorEq,eq_self,ne_eq,Function.comp_def,beq_iff_eq]
  have g0 := Grw.push s [.cells (rc L[i].x L[i].y L[i].w L[i].h)]
  have c6 : (s ++ [Ob.cells (rc L[i].x L[i].y L[i].w L[i].h)])[s.length]? = some (.cells (rc L[i].x L[i].y L[i].w L[i].h)) := get_new0 _ _
  simp only [rc] at g0 c6
  refine rdMid_ok (g0 _ _ hlp) ?_
  generalize hs1 : (s ++ [Ob.cells _]) = s1 at g0 c6
  have l1 : s1.length = s.length + 1 := by rw [← hs1]; simp
  have nl : s.length ≠ lid := fun he => by subst he; rw [List.getElem?_eq_none (Nat.le_refl _)] at hlp; cases hlp
  have lt : lid < s1.length := (List.getElem?_eq_some_iff.1 (g0 _ _ hlp)).1
  have nc : ∀ (j : Nat) (c : List V), s[j]? = some (.cells c) → j ≠ lid := fun j c hj he => by subst he; rw [hlp] at hj; cases hj
  generalize hs2 : s1.set lid _ = s2
  have k : ∀ j o, j ≠ lid → s1[j]? = some o → s2[j]? = some o := fun j o hj ho => by rw [← hs2, List.getElem?_set_ne (Ne.symm hj)]; exact ho
  have kr : Kr s s2 := fun j e xs n lo fz hj => k _ _ (fun he => by rw [he, hlp] at hj; cases hj) (g0 _ _ hj)
  have d3 := k _ _ (nc _ _ h3) (g0 _ _ h3)
  have d5 := k _ _ (nc _ _ h5) (g0 _ _ h5)
  have d6 := k _ _ nl c6
  have dr := k _ _ (nc _ _ hy.at_) (g0 _ _ hy.at_)
  have dl : ∀ o, s1.set lid o = s2 → s2[lid]? = some o := fun o ho => by rw [← ho]; exact List.getElem?_set_self lt
  have dl := dl _ hs2
  have rb2 := rd_kr hy.rd.1 kr
  have l2 : s2.length = s1.length := by rw [← hs2, List.length_set]
  have al := alen_rd rb2 Try.underlying27
  have d : decide ((i : Int) ≥ L.length) = false := decide_eq_false (by omega)
  have e3 : IntKind.i64.wrap ((i : Int) + 1) = ((i + 1 : Nat) : Int) := by rw [IntWalk.i64_in _ (by omega)]; rfl
  obtain ⟨p1, p2⟩ := ix_flat (f := U.v) (fun a => rfl) rb2 Try.underlying27 sz48 ag48 (by omega) hi
  obtain ⟨p3, p4⟩ := u_id rb2 hi
  obtain ⟨p5, p6⟩ := u_r rb2 hi
  have cm := fun p q => cmp_rectN p q L[i].x L[i].y L[i].w L[i].h L[i].x L[i].y L[i].w L[i].h
  have eq1 : eqR L[i].x L[i].y L[i].w L[i].h L[i].x L[i].y L[i].w L[i].h = true := by simp [eqR]
  have ne1 : (L[i].id != L[i].id) = false := by simp
  simp only [rc] at p6
  have b5 : ∀ o, (s2.set t5 o)[t5]? = some o := fun o => get_set d5 o
  simp only [q3, q5, d3, d5, d6, dr, al, d, p1, p3, p4, p5, p6, cm, eq1, ne1, Bool.not_true, e3, b5, evf,↓evp,evq,evr,fxa0,fxa1,fxa2,fxa3,fxa4,fxu,fxn,fxl,↓fxp,lgc,absL,fitL,flatL,ares,ares1,ofVal,unSc,aload,afill,splice,abound,asI,elems,IntKind.bits,sortT,eqNil,closedL,allByte,patch,pendOK,numA,Value.cells,Value.oneCell',ibin,List.replicate,Option.elim,Nat.reduceAdd,Nat.reduceSub,Nat.reduceMul,Nat.reduceLT,Nat.reduceEqDiff,Nat.reduceLeDiff,Nat.reduceBEq,Int.reduceLE,Int.reduceLT,Int.reduceToNat,Int.reduceBNe,Int.reduceBEq,Int.reduceNeg,Int.reduceEq,Int.reduceNe,Nat.reduceBNe,Int.reduceAdd,Int.reduceSub,Int.reduceMul,Int.reducePow,Nat.reducePow,Int.reduceGT,Int.reduceGE,if_true,if_false,ite_true,ite_false,beq_self_eq_true,BEq.rfl,reduceCtorEq,eq_self,ne_eq,Function.comp_def,beq_iff_eq]
  have nt := nc _ _ h5
  have lt5 : t5 < s2.length := (List.getElem?_eq_some_iff.1 d5).1
  have ll2 : lid < s2.length := (List.getElem?_eq_some_iff.1 dl).1
  refine rdEnd_normal (by rw [List.getElem?_set_ne nt]; exact dl) ?_
  refine hK _ ?_ ?_ ?_ ?_
  · rw [List.getElem?_set_ne (Ne.symm nt), List.getElem?_set_self lt5]
  · rw [List.getElem?_set_self (by rw [List.length_set]; exact ll2)]
  · intro j o j1 j2 ho
    rw [List.getElem?_set_ne (Ne.symm j2), List.getElem?_set_ne (Ne.symm j1)]
    exact k _ _ j2 (g0 _ _ ho)
  · rw [List.length_set, List.length_set]
    omega
set_option maxHeartbeats 4000000 in
theorem l22_same (hr : Rel us os L) (hg : Gd L) (hi : Ix st ix a b us os) (hy : Ri st iy sv L) (hm : 300 < m)
    (hK : ∀ s, Grw st s → K (.sc (.bool true)) s) : acallF Try.prog pl (n + 5) m 51 [.ref ix 0, .ref iy 0] st K := by
  refine acallF_inF Try.func51 rfl rfl Try.ntmps51 (by simp) ?_
  obtain ⟨s2, hs2⟩ : ∃ s2, s2 = st ++ [Ob.cells [.ref iy 0], Ob.cells [.sc (.bool false)], Ob.cells [.sc (.int .i64 0)]] := ⟨_, rfl⟩
  have g2 : Grw st s2 := by rw [hs2]; exact .push _ _
  have c2 : s2[st.length]? = some (.cells [.ref iy 0]) := by rw [hs2]; exact get_new0 _ _
  have d2 : s2[st.length + 1]? = some (.cells [.sc (.bool false)]) := by rw [hs2]; exact get_new _ _ 1
  have k2 : s2[st.length + 2]? = some (.cells [.sc (.int .i64 0)]) := by rw [hs2]; exact get_new _ _ 2
  have l2 : s2.length = st.length + 3 := by rw [hs2]; simp
  simp only [evf,↓evp,evq,evr,fxa0,fxa1,fxa2,fxa3,fxa4,fxu,fxn,fxl,↓fxp,lgc,absL,fitL,flatL,ares,ares1,ofVal,unSc,aload,afill,splice,abound,asI,elems,IntKind.bits,sortT,eqNil,closedL,allByte,patch,pendOK,numA,Value.cells,Value.oneCell',ibin,List.replicate,Option.elim,Nat.reduceAdd,Nat.reduceSub,Nat.reduceMul,Nat.reduceLT,Nat.reduceEqDiff,Nat.reduceLeDiff,Nat.reduceBEq,Int.reduceLE,Int.reduceLT,Int.reduceToNat,Int.reduceBNe,Int.reduceBEq,Int.reduceNeg,Int.reduceEq,Int.reduceNe,Nat.reduceBNe,Int.reduceAdd,Int.reduceSub,Int.reduceMul,Int.reducePow,Nat.reducePow,Int.reduceGT,Int.reduceGE,if_true,if_false,ite_true,ite_false,beq_self_eq_true,BEq.rfl,reduceCtorEq,eq_self,ne_eq,Function.comp_def,beq_iff_eq]
  rw [← hs2]
  refine o_All (n := n + 3) rfl rfl ?_
  obtain ⟨sa, hsa⟩ : ∃ sa, sa = s2 ++ [Ob.cells [.ref ix 0]] := ⟨_, rfl⟩
  have ga : Grw s2 sa := by rw [hsa]; exact .push _ _
  have va : sa[s2.length]? = some (.cells [.ref ix 0]) := by rw [hsa]; exact get_new0 _ _
  have lsa : sa.length = s2.length + 1 := by rw [hsa]; simp
  have ca := ga _ _ c2
  have da := ga _ _ d2
  have ka := ga _ _ k2
  have gst := g2.trans ga
  rw [← hsa]
  simp only [evf,↓evp,evq,evr,fxa0,fxa1,fxa2,fxa3,fxa4,fxu,fxn,fxl,↓fxp,lgc,absL,fitL,flatL,ares,ares1,ofVal,unSc,aload,afill,splice,abound,asI,elems,IntKind.bits,sortT,eqNil,closedL,allByte,patch,pendOK,numA,Value.cells,Value.oneCell',ibin,List.replicate,Option.elim,Nat.reduceAdd,Nat.reduceSub,Nat.reduceMul,Nat.reduceLT,Nat.reduceEqDiff,Nat.reduceLeDiff,Nat.reduceBEq,Int.reduceLE,Int.reduceLT,Int.reduceToNat,Int.reduceBNe,Int.reduceBEq,Int.reduceNeg,Int.reduceEq,Int.reduceNe,Nat.reduceBNe,Int.reduceAdd,Int.reduceSub,Int.reduceMul,Int.reducePow,Nat.reducePow,Int.reduceGT,Int.reduceGE,if_true,if_false,ite_true,ite_false,beq_self_eq_true,BEq.rfl,reduceCtorEq,eq_self,ne_eq,Function.comp_def,beq_iff_eq]
  generalize hS : (sa ++ [_]) = S
  have gS : Grw sa S := by rw [← hS]; exact .push _ _
  have lS : S.length = sa.length + 1 := by rw [← hS]; simp
  obtain ⟨F, ps, asg, body, hc, q3, q5, hl0⟩ : ∃ F ps asg body, frf (Try.f51.body.getD .skip) = some (ps, asg, body) ∧ F 3 = .ref st.length 0 ∧ F 5 = .ref (st.length + 2) 0 ∧ S[sa.length]? = some (.loop .ready none (pl 51) (ofF 52 F) ps.toList asg body) := by
    refine ⟨_, _, _, _, rfl, ?_, ?_, (by rw [← hS]; exact get_new0 sa _)⟩
    · simp only [evf, ne_eq, Nat.reduceEqDiff, Nat.reduceLT, not_false_eq_true]
    · simp only [evf, ne_eq, Nat.reduceEqDiff, Nat.reduceLT, not_false_eq_true]
  have gSt := gst.trans gS
  have eL : (L.map U.id).length = L.length := List.length_map _
  refine o_Each (n := n) (l := sa.length) (rb := s2.length) (ids := L.map U.id) (J := fun _ => False)
    (I := fun r ro k s => s[r]? = some ro ∧ S.length ≤ r ∧ s[st.length + 2]? = some (.cells [.sc (.int .i64 k)]) ∧ s[sa.length]? = some (.loop .ready none (pl 51) (ofF 52 F) ps.toList asg body) ∧ s[st.length]? = some (.cells [.ref iy 0]) ∧ s[s2.length]? = some (.cells [.ref ix 0]) ∧ s[st.length + 1]? = some (.cells [.sc (.bool false)]) ∧ Grw st s)
    (hi.grw gSt) (gS _ _ va) hr.ni hr.mem hg.pw hg.ir (by rw [eL]; exact hg.len) hm ?_ ?_ ?_ ?_ (fun _ h => h.elim)
  · rintro r ro k s ⟨i1, i2, i3, i4, i5, i6, i7, i8⟩
    exact ⟨i6, hi.grw i8, i1⟩
  · intro r ro s g hr1 hr2
    exact ⟨hr2, hr1, g _ _ (gS _ _ ka), g _ _ hl0, g _ _ (gS _ _ ca), g _ _ (gS _ _ va), g _ _ (gS _ _ da), gSt.trans g⟩
  · rintro r ro i hil v s K' hv ⟨i1, i2, i3, i4, i5, i6, i7, i8⟩ hK1 _
    have hil' : i < L.length := by rw [eL] at hil; exact hil
    simp only [List.getElem_map] at hv ⊢
    rw [hr.at_id hil' hv]
    refine same22_yl (n := n + 2) (t3 := st.length) (t5 := st.length + 2) (lid := sa.length) (F := F) (p := none) hc q3 q5 i5 i3 (hy.grw i8) hil' hg.len i4 ?_
    intro s' k1 k2 k3 k4
    exact hK1 _ ⟨k3 _ _ (by omega) (by omega) i1, i2, k1, k2, k3 _ _ (by omega) (by omega) i5, k3 _ _ (by omega) (by omega) i6, k3 _ _ (by omega) (by omega) i7, fun j o ho => by
      have lj : j < st.length := (List.getElem?_eq_some_iff.1 ho).1
      exact k3 _ _ (by omega) (by omega) (i8 _ _ ho)⟩
  · rintro r ro s ⟨i1, i2, i3, i4, i5, i6, i7, i8⟩
    rw [eL] at i3
    refine rfEnd_normal i4 (by decide) ?_
    have lsl : sa.length < s.length := (List.getElem?_eq_some_iff.1 i4).1
    generalize hsz : s.set sa.length _ = sz
    have kz : ∀ j o, j ≠ sa.length → s[j]? = some o → sz[j]? = some o := fun j o hj ho => by rw [← hsz, List.getElem?_set_ne (Ne.symm hj)]; exact ho
    have z3 := kz _ _ (by omega) i3
    have z5 := kz _ _ (by omega) i5
    have z7 := kz _ _ (by omega) i7
    have gz : Grw st sz := fun j o ho => by
      have lj : j < st.length := (List.getElem?_eq_some_iff.1 ho).1
      exact kz _ _ (by omega) (i8 _ _ ho)
    have hyz := hy.grw gz
    have wz := hyz.at_
    have alz := alen_rd hyz.rd.1 Try.underlying27
    have bz : ∀ o, (sz.set (st.length + 1) o)[st.length + 1]? = some o := fun o => get_set z7 o
    simp only [z3, z5, z7, wz, alz, bz, beq_self_eq_true, evf,↓evp,evq,evr,fxa0,fxa1,fxa2,fxa3,fxa4,fxu,fxn,fxl,↓fxp,lgc,absL,fitL,flatL,ares,ares1,ofVal,unSc,aload,afill,splice,abound,asI,elems,IntKind.bits,sortT,eqNil,closedL,allByte,patch,pendOK,numA,Value.cells,Value.oneCell',ibin,List.replicate,Option.elim,Nat.reduceAdd,Nat.reduceSub,Nat.reduceMul,Nat.reduceLT,Nat.reduceEqDiff,Nat.reduceLeDiff,Nat.reduceBEq,Int.reduceLE,Int.reduceLT,Int.reduceToNat,Int.reduceBNe,Int.reduceBEq,Int.reduceNeg,Int.reduceEq,Int.reduceNe,Nat.reduceBNe,Int.reduceAdd,Int.reduceSub,Int.reduceMul,Int.reducePow,Nat.reducePow,Int.reduceGT,Int.reduceGE,if_true,if_false,ite_true,ite_false,beq_self_eq_true,BEq.rfl,reduceCtorEq,eq_self,ne_eq,Function.comp_def,beq_iff_eq]
    exact hK _ (gz.set (by omega) _)
end
/-! ### Chapter 22's reference: all stand where they claimed. -/
theorem cut_nil (P : Program) (s : List Ob) {e : TypeId} : Cut P s e (.tsl [] 0 true true) [] 0 := ⟨⟨rfl, ⟨fun b hb => (by cases hb), fun _ => rfl⟩, fun s _ => by simp⟩, .inl ⟨_, _, _, _, rfl⟩, fun _ => rfl⟩
theorem splice_at (L : List U) (x y : Int) : ∀ (i : Nat) (hi : i < L.length), splice (L.flatMap U.v) (cl x y) (i * 5 + 1) = (L.set i (mvU L[i] x y)).flatMap U.v := by
  intro i hi
  unfold splice
  have e1 : (L.flatMap U.v) = (L.take i).flatMap U.v ++ (U.v L[i] ++ (L.drop (i + 1)).flatMap U.v) := by
    rw [← List.flatMap_cons, ← List.drop_eq_getElem_cons hi, ← List.flatMap_append, List.take_append_drop]
  have l1 : ((L.take i).flatMap U.v).length = i * 5 := by rw [flatMap_len (f := U.v) (s := 5) (fun _ => rfl), List.length_take, Nat.min_eq_left (by omega)]
  rw [List.set_eq_take_append_cons_drop, if_pos hi, List.flatMap_append, List.flatMap_cons, e1]
  have l2 : (cl x y).length = 2 := rfl
  have d1 : List.drop (i * 5 + 1 + 2) ((L.take i).flatMap U.v) = [] := List.drop_of_length_le (by omega)
  rw [List.take_append, List.drop_append, List.take_of_length_le (by omega), l1, l2, show i * 5 + 1 - i * 5 = 1 by omega, d1, show i * 5 + 1 + 2 - i * 5 = 3 by omega]
  simp only [U.v, rc, cl, mvU, List.cons_append, List.nil_append, List.take_succ_cons, List.take_zero, List.drop_succ_cons, List.drop_zero, List.append_assoc]
theorem applyU_succ {M : List U} (hn : (M.map U.id).Nodup) {k : Nat} (hk : k < M.length) (u : U) : applyU (M.take (k + 1)) u = if M[k].id == u.id then mvU u M[k].x M[k].y else applyU (M.take k) u := by
  have ht : M.take (k + 1) = M.take k ++ [M[k]] := by rw [List.take_append_getElem]
  unfold applyU
  rw [ht, List.find?_append]
  cases hq : M[k].id == u.id
  · simp only [List.find?_cons, hq, List.find?_nil, Option.or_none]; rfl
  · have : (M.take k).find? (fun c => c.id == u.id) = none := find_none fun c hc he => take_ne hn hk c hc (by rw [he]; simpa using (beq_iff_eq.1 hq).symm)
    rw [this]
    simp only [List.find?_cons, hq, Option.none_or]; rfl
section
variable {s : List Ob} {rid n lo i : Nat} {X : List U}
theorem rowU_at (h : s[rid]? = some (.row 48 (X.flatMap U.v) n lo false)) (hlo : lo ≤ n) (hn : X.length = n) (hi : i < X.length) :
    aix Try.prog s 27 (.sl rid 0 n false n) (.sc (.int .i64 i)) = some (.rref rid (i * 5) n, s) ∧ afa Try.prog s 48 0 (.rref rid (i * 5) n) = some (.rref rid (i * 5) n, s) ∧
    ald Try.prog s 3 (.rref rid (i * 5) n) = some (.sc (.int .i64 X[i].id), s) ∧ afa Try.prog s 48 1 (.rref rid (i * 5) n) = some (.rref rid (i * 5 + 1) n, s) ∧
    afa Try.prog s 34 0 (.rref rid (i * 5 + 1) n) = some (.rref rid (i * 5 + 1) n, s) ∧
    ∀ x y, asto Try.prog s 32 (.rref rid (i * 5 + 1) n) (.agg (cl x y)) = some (.sc undef, s.set rid (.row 48 ((X.set i (mvU X[i] x y)).flatMap U.v) n n false)) := by
  subst hn
  have gl : Gl s 48 (.sl rid 0 X.length false X.length) (X.flatMap U.v) X.length := .inr ⟨rid, lo, rfl, h, hlo⟩
  have rd := gl.rd (P := Try.prog) sz48 (flatMap_len (f := U.v) (s := 5) (fun _ => rfl) _)
  obtain ⟨p1, p2⟩ := ix_flat (f := U.v) (fun a => rfl) rd Try.underlying27 sz48 ag48 (by omega) hi
  obtain ⟨p3, p4⟩ := u_id rd hi
  obtain ⟨p5, p6⟩ := u_r rd hi
  have e : ixp 5 (.sl rid 0 X.length false X.length) i 0 = .rref rid (i * 5) X.length := by simp [ixp]
  have e1 : ixp 5 (.sl rid 0 X.length false X.length) i 1 = .rref rid (i * 5 + 1) X.length := by simp [ixp]
  rw [e] at p1 p2 p3 p4 p5
  rw [e1] at p5
  refine ⟨p1, p3, p4, p5, ?_, fun x y => ?_⟩
  · rw [afa_rref]
    rfl
  rw [asto_rref, h]
  have hl : (X.flatMap U.v).length = X.length * 5 := flatMap_len (f := U.v) (s := 5) (fun _ => rfl) _
  have hb : i * 5 + 1 + 2 ≤ X.length * 5 := by omega
  have ec : cellsV (.agg (cl x y)) = cl x y := rfl
  simp only [ec]
  rw [if_pos ⟨by rw [sz32]; rfl, by rw [hl]; exact hb, trivial, trivial, rfl, rfl⟩, splice_at X x y i hi]
end
section
variable {n m : Nat} {st s : List Ob} {K : V → List Ob → Prop} {iy z : Nat} {us gs cls : List (Int × V)} {os cc : List ((Int × Int) × V)} {L M : List U} {sv cv : V}
set_option maxHeartbeats 8000000 in
theorem r_Apply (hy : Ri st iy sv L) (hT : Rt st z iy cv (M.map cOf)) (hn : (M.map U.id).Nodup) (hm : 300 < m) (hl : L.length ≤ 256) (hMl : M.length ≤ 256)
    (hK : ∀ sv' s, Ri s iy sv' (L.map (applyU M)) → Rt s z iy (.tsl [] 0 true true) [] → (∀ j o, j ≠ iy → j ≠ z → st[j]? = some o → s[j]? = some o) → K (.sc (.int .i64 M.length)) s) :
    acallF Try.prog pl (n + 1) m 50 [.ref z 0] st K := by
  refine acallF_inF Try.func50 rfl rfl Try.ntmps50 (by simp) ?_
  have z0 := hT.at_
  have y0 := hy.at_
  have eM : (M.map cOf).length = M.length := List.length_map _
  have alM := alen_rd hT.rd.1 Try.underlying83
  rw [eM] at alM
  have g0 := Grw.push st [.row 48 [] 0 0 false]
  have zX : ∀ X, (st ++ X)[z]? = some (.cells [.ref iy 0, cv]) := fun X => Grw.push st X _ _ z0
  have yX : ∀ X, (st ++ X)[iy]? = some (.cells [sv]) := fun X => Grw.push st X _ _ y0
  have a1 := append_own (st := st ++ [Ob.row 48 [] 0 0 false]) (id := st.length) (get_new0 _ _) (Nat.zero_le _) Try.underlying27 sz48 by48 ze48 (by omega) rfl (hy.rd.grw (.push st _)).1.1 (closed_us L) (hy.rd.1.2.2 _ sz48) (by omega) (by omega)
  rw [Go.M.set_new0] at a1
  simp only [Nat.zero_add, List.nil_append, List.set_cons_zero] at a1
  simp only [z0, zX, yX, alM, a1, evf,↓evp,evq,evr,fxa0,fxa1,fxa2,fxa3,fxa4,fxu,fxn,fxl,↓fxp,lgc,absL,fitL,flatL,ares,ares1,ofVal,unSc,aload,afill,splice,abound,asI,elems,IntKind.bits,sortT,eqNil,closedL,allByte,patch,pendOK,numA,Value.cells,Value.oneCell',ibin,List.replicate,Option.elim,Nat.reduceAdd,Nat.reduceSub,Nat.reduceMul,Nat.reduceLT,Nat.reduceEqDiff,Nat.reduceLeDiff,Nat.reduceBEq,Int.reduceLE,Int.reduceLT,Int.reduceToNat,Int.reduceBNe,Int.reduceBEq,Int.reduceNeg,Int.reduceEq,Int.reduceNe,Nat.reduceBNe,Int.reduceAdd,Int.reduceSub,Int.reduceMul,Int.reducePow,Nat.reducePow,Int.reduceGT,Int.reduceGE,if_true,if_false,ite_true,ite_false,beq_self_eq_true,BEq.rfl,reduceCtorEq,eq_self,ne_eq,Function.comp_def,beq_iff_eq]
  generalize hs1 : (st ++ [Ob.row _ _ _ _ _]) = s1
  have r1 : s1[st.length]? = some (.row 48 (L.flatMap U.v) L.length 0 false) := by rw [← hs1]; exact get_new0 _ _
  have g1 : Grw st s1 := by rw [← hs1]; exact .push _ _
  have l1 : s1.length = st.length + 1 := by rw [← hs1]; simp
  clear hs1 a1
  have kk : ∀ {s s' : List Ob}, (∀ j o, j < st.length → s[j]? = some o → s'[j]? = some o) → (∀ j o, j < st.length → st[j]? = some o → s[j]? = some o) → ∀ j o, j < st.length → st[j]? = some o → s'[j]? = some o := fun h k j o hj ho => h j o hj (k j o hj ho)
  refine aloop_forF (fun k f s => ∃ (i lo : Nat) (X : List U), k + i = m ∧ i ≤ L.length ∧ X.length = L.length ∧ (∀ j (h : j < X.length) (h' : j < L.length), X[j] = if j < i then applyU M L[j] else L[j]) ∧ lo ≤ L.length ∧ s[st.length]? = some (.row 48 (X.flatMap U.v) L.length lo false) ∧ Grw st s ∧ f 0 = .ref z 0 ∧ f 3 = .sc (.int .i64 M.length) ∧ f 4 = .sl st.length 0 L.length false L.length ∧ f 5 = .sc (.int .i64 i))
    ⟨0, 0, L, by omega, by omega, rfl, fun j h h' => by simp, by omega, r1, g1, by simp only [evf, ne_eq, Nat.reduceEqDiff, Nat.reduceLT, not_false_eq_true], by simp only [evf, ne_eq, Nat.reduceEqDiff, Nat.reduceLT, not_false_eq_true], by simp only [evf, ne_eq, Nat.reduceEqDiff, Nat.reduceLT, not_false_eq_true], by simp only [evf, ne_eq, Nat.reduceEqDiff, Nat.reduceLT, not_false_eq_true]; rfl⟩ ?_
  rintro I1 hI1 k f s ⟨i, lo, X, hk, hi, hXl, hX, hlo, hr, hg, f0, f3, f4, f5⟩
  refine ⟨k - 1, by omega, ?_⟩
  have gl : Gl s 48 (.sl st.length 0 L.length false L.length) (X.flatMap U.v) L.length := .inr ⟨_, lo, rfl, hr, hlo⟩
  have al := alen_rd (gl.rd (P := Try.prog) sz48 (by rw [flatMap_len (f := U.v) (s := 5) (fun _ => rfl), hXl])) Try.underlying27
  have e3 : IntKind.i64.wrap ((i : Int) + 1) = ((i + 1 : Nat) : Int) := by rw [IntWalk.i64_in _ (by omega)]; rfl
  by_cases hil : i < L.length
  · have d : decide ((i : Int) < L.length) = true := decide_eq_true (by omega)
    simp only [f0, f3, f4, f5, al, d, evf,↓evp,evq,evr,fxa0,fxa1,fxa2,fxa3,fxa4,fxu,fxn,fxl,↓fxp,lgc,absL,fitL,flatL,ares,ares1,ofVal,unSc,aload,afill,splice,abound,asI,elems,IntKind.bits,sortT,eqNil,closedL,allByte,patch,pendOK,numA,Value.cells,Value.oneCell',ibin,List.replicate,Option.elim,Nat.reduceAdd,Nat.reduceSub,Nat.reduceMul,Nat.reduceLT,Nat.reduceEqDiff,Nat.reduceLeDiff,Nat.reduceBEq,Int.reduceLE,Int.reduceLT,Int.reduceToNat,Int.reduceBNe,Int.reduceBEq,Int.reduceNeg,Int.reduceEq,Int.reduceNe,Nat.reduceBNe,Int.reduceAdd,Int.reduceSub,Int.reduceMul,Int.reducePow,Nat.reducePow,Int.reduceGT,Int.reduceGE,if_true,if_false,ite_true,ite_false,beq_self_eq_true,BEq.rfl,reduceCtorEq,eq_self,ne_eq,Function.comp_def,beq_iff_eq]
    refine aloop_forF (fun k f s => ∃ (q lo : Nat) (X : List U), k + q = m ∧ q ≤ M.length ∧ X.length = L.length ∧ (∀ j (h : j < X.length) (h' : j < L.length), X[j] = if j < i then applyU M L[j] else if j = i then applyU (M.take q) L[j] else L[j]) ∧ lo ≤ L.length ∧ s[st.length]? = some (.row 48 (X.flatMap U.v) L.length lo false) ∧ Grw st s ∧ f 0 = .ref z 0 ∧ f 3 = .sc (.int .i64 M.length) ∧ f 4 = .sl st.length 0 L.length false L.length ∧ f 5 = .sc (.int .i64 i) ∧ f 6 = .sc (.int .i64 q))
      ⟨0, lo, X, by omega, by omega, hXl, fun j h h' => by rw [hX j h h']; split; · rfl
                                                           split; · simp [applyU]
                                                           rfl, hlo, hr, hg, by simp only [f0, evf, ne_eq, Nat.reduceEqDiff, Nat.reduceLT, not_false_eq_true], by simp only [f3, evf, ne_eq, Nat.reduceEqDiff, Nat.reduceLT, not_false_eq_true], by simp only [f4, evf, ne_eq, Nat.reduceEqDiff, Nat.reduceLT, not_false_eq_true], by simp only [f5, evf, ne_eq, Nat.reduceEqDiff, Nat.reduceLT, not_false_eq_true], by simp only [evf, ne_eq, Nat.reduceEqDiff, Nat.reduceLT, not_false_eq_true]; rfl⟩ ?_
    clear hr hg hX hlo gl al f0 f3 f4 f5
    rintro I2 hI2 k2 f s ⟨q, lo, X, hk2, hq, hXl, hX, hlo, hr, hg, f0, f3, f4, f5, f6⟩
    refine ⟨k2 - 1, by omega, ?_⟩
    have e4 : IntKind.i64.wrap ((q : Int) + 1) = ((q + 1 : Nat) : Int) := by rw [IntWalk.i64_in _ (by omega)]; rfl
    by_cases hql : q < M.length
    · have d2 : decide ((q : Int) < M.length) = true := decide_eq_true (by omega)
      have hT2 := hT.grw hg
      have z2 := hT2.at_
      have hql' : q < (M.map cOf).length := by rw [eM]; exact hql
      obtain ⟨p1, p2⟩ := ix_flat (f := C3.v) (fun a => rfl) hT2.rd.1 Try.underlying83 sz99 ag99 (by omega) hql'
      obtain ⟨p3, p4⟩ := c_id hT2.rd.1 hql'
      obtain ⟨p5, p6⟩ := c_to hT2.rd.1 hql'
      have ec : (M.map cOf)[q] = cOf M[q] := by rw [List.getElem_map]
      rw [ec] at p4 p6
      simp only [cOf] at p4 p6
      have hiX : i < X.length := by omega
      obtain ⟨w1, w2, w3, w4, w5, w6⟩ := rowU_at hr hlo hXl hiX
      have hXi : X[i] = applyU (M.take q) L[i] := by rw [hX i hiX hil]; simp
      have hid : X[i].id = L[i].id := by rw [hXi, applyU_id]
      rw [hid] at w3
      cases hq2 : M[q].id == L[i].id
      · simp only [f0, f3, f4, f5, f6, d2, z2, p1, p3, p4, w1, w2, w3, hq2, e4, evf,↓evp,evq,evr,fxa0,fxa1,fxa2,fxa3,fxa4,fxu,fxn,fxl,↓fxp,lgc,absL,fitL,flatL,ares,ares1,ofVal,unSc,aload,afill,splice,abound,asI,elems,IntKind.bits,sortT,eqNil,closedL,allByte,patch,pendOK,numA,Value.cells,Value.oneCell',ibin,List.replicate,Option.elim,Nat.reduceAdd,Nat.reduceSub,Nat.reduceMul,Nat.reduceLT,Nat.reduceEqDiff,Nat.reduceLeDiff,Nat.reduceBEq,Int.reduceLE,Int.reduceLT,Int.reduceToNat,Int.reduceBNe,Int.reduceBEq,Int.reduceNeg,Int.reduceEq,Int.reduceNe,Nat.reduceBNe,Int.reduceAdd,Int.reduceSub,Int.reduceMul,Int.reducePow,Nat.reducePow,Int.reduceGT,Int.reduceGE,if_true,if_false,ite_true,ite_false,beq_self_eq_true,BEq.rfl,reduceCtorEq,eq_self,ne_eq,Function.comp_def,beq_iff_eq]
        refine hI2 _ _ _ ⟨q + 1, lo, X, by omega, hql, hXl, fun j h h' => ?_, hlo, hr, hg, by simp only [f0, evf, ne_eq, Nat.reduceEqDiff, Nat.reduceLT, not_false_eq_true], by simp only [f3, evf, ne_eq, Nat.reduceEqDiff, Nat.reduceLT, not_false_eq_true], by simp only [f4, evf, ne_eq, Nat.reduceEqDiff, Nat.reduceLT, not_false_eq_true], by simp only [f5, evf, ne_eq, Nat.reduceEqDiff, Nat.reduceLT, not_false_eq_true], by simp only [evf, ne_eq, Nat.reduceEqDiff, Nat.reduceLT, not_false_eq_true]⟩
        rw [hX j h h']
        split; · rfl
        split
        · rename_i hji
          subst hji
          rw [applyU_succ hn hql, hq2]; rfl
        · rfl
      · simp only [cl] at p6
        have w6 := w6 M[q].x M[q].y
        simp only [cl] at w6
        simp only [f0, f3, f4, f5, f6, d2, z2, p1, p3, p4, p5, p6, w1, w2, w3, w4, w5, w6, hq2, e4, evf,↓evp,evq,evr,fxa0,fxa1,fxa2,fxa3,fxa4,fxu,fxn,fxl,↓fxp,lgc,absL,fitL,flatL,ares,ares1,ofVal,unSc,aload,afill,splice,abound,asI,elems,IntKind.bits,sortT,eqNil,closedL,allByte,patch,pendOK,numA,Value.cells,Value.oneCell',ibin,List.replicate,Option.elim,Nat.reduceAdd,Nat.reduceSub,Nat.reduceMul,Nat.reduceLT,Nat.reduceEqDiff,Nat.reduceLeDiff,Nat.reduceBEq,Int.reduceLE,Int.reduceLT,Int.reduceToNat,Int.reduceBNe,Int.reduceBEq,Int.reduceNeg,Int.reduceEq,Int.reduceNe,Nat.reduceBNe,Int.reduceAdd,Int.reduceSub,Int.reduceMul,Int.reducePow,Nat.reducePow,Int.reduceGT,Int.reduceGE,if_true,if_false,ite_true,ite_false,beq_self_eq_true,BEq.rfl,reduceCtorEq,eq_self,ne_eq,Function.comp_def,beq_iff_eq]
        have ls : st.length < s.length := (List.getElem?_eq_some_iff.1 hr).1
        refine hI2 _ _ _ ⟨q + 1, L.length, X.set i (mvU X[i] M[q].x M[q].y), by omega, hql, by rw [List.length_set]; exact hXl, fun j h h' => ?_, Nat.le_refl _, List.getElem?_set_self ls, hg.set (Nat.le_refl _) _, by simp only [f0, evf, ne_eq, Nat.reduceEqDiff, Nat.reduceLT, not_false_eq_true], by simp only [f3, evf, ne_eq, Nat.reduceEqDiff, Nat.reduceLT, not_false_eq_true], by simp only [f4, evf, ne_eq, Nat.reduceEqDiff, Nat.reduceLT, not_false_eq_true], by simp only [f5, evf, ne_eq, Nat.reduceEqDiff, Nat.reduceLT, not_false_eq_true], by simp only [evf, ne_eq, Nat.reduceEqDiff, Nat.reduceLT, not_false_eq_true]⟩
        rw [List.length_set] at h
        rw [List.getElem_set]
        split
        · rename_i hji
          subst hji
          rw [if_neg (by omega), if_pos rfl, applyU_succ hn hql, hq2, hXi]
          simp only [if_true, mvU]
          have : ∀ c ∈ M.take q, c.id ≠ L[i].id := fun c hc => by rw [← beq_iff_eq.1 hq2]; exact take_ne hn hql c hc
          rw [applyU_none this]
        · rename_i hji
          rw [hX j h h', if_neg (show ¬ j = i from fun h => hji h.symm), if_neg (show ¬ j = i from fun h => hji h.symm)]
    · have d2 : decide ((q : Int) < M.length) = false := decide_eq_false (by omega)
      simp only [f0, f3, f4, f5, f6, d2, e3, evf,↓evp,evq,evr,fxa0,fxa1,fxa2,fxa3,fxa4,fxu,fxn,fxl,↓fxp,lgc,absL,fitL,flatL,ares,ares1,ofVal,unSc,aload,afill,splice,abound,asI,elems,IntKind.bits,sortT,eqNil,closedL,allByte,patch,pendOK,numA,Value.cells,Value.oneCell',ibin,List.replicate,Option.elim,Nat.reduceAdd,Nat.reduceSub,Nat.reduceMul,Nat.reduceLT,Nat.reduceEqDiff,Nat.reduceLeDiff,Nat.reduceBEq,Int.reduceLE,Int.reduceLT,Int.reduceToNat,Int.reduceBNe,Int.reduceBEq,Int.reduceNeg,Int.reduceEq,Int.reduceNe,Nat.reduceBNe,Int.reduceAdd,Int.reduceSub,Int.reduceMul,Int.reducePow,Nat.reducePow,Int.reduceGT,Int.reduceGE,if_true,if_false,ite_true,ite_false,beq_self_eq_true,BEq.rfl,reduceCtorEq,eq_self,ne_eq,Function.comp_def,beq_iff_eq]
      refine hI1 _ _ _ ⟨i + 1, lo, X, by omega, hil, hXl, fun j h h' => ?_, hlo, hr, hg, by simp only [f0, evf, ne_eq, Nat.reduceEqDiff, Nat.reduceLT, not_false_eq_true], by simp only [f3, evf, ne_eq, Nat.reduceEqDiff, Nat.reduceLT, not_false_eq_true], by simp only [f4, evf, ne_eq, Nat.reduceEqDiff, Nat.reduceLT, not_false_eq_true], by simp only [evf, ne_eq, Nat.reduceEqDiff, Nat.reduceLT, not_false_eq_true]⟩
      rw [hX j h h']
      have : M.take q = M := List.take_of_length_le (by omega)
      rw [this]
      by_cases h1 : j < i
      · rw [if_pos h1, if_pos (by omega)]
      · by_cases h2 : j = i
        · rw [if_neg h1, if_pos h2, if_pos (by omega)]
        · rw [if_neg h1, if_neg h2, if_neg (by omega)]
  · have d : decide ((i : Int) < L.length) = false := decide_eq_false (by omega)
    have z2 := hg _ _ z0
    have y2 := hg _ _ y0
    have lz : z < s.length := (List.getElem?_eq_some_iff.1 z2).1
    have ly : iy < s.length := (List.getElem?_eq_some_iff.1 y2).1
    have nzy : z ≠ iy := fun he => by rw [he, y0] at z0; cases z0
    have z3 : ∀ o, (s.set iy o)[z]? = some (.cells [.ref iy 0, cv]) := fun o => by rw [List.getElem?_set_ne (Ne.symm nzy)]; exact z2
    simp only [f0, f3, f4, f5, al, d, z2, y2, z3, evf,↓evp,evq,evr,fxa0,fxa1,fxa2,fxa3,fxa4,fxu,fxn,fxl,↓fxp,lgc,absL,fitL,flatL,ares,ares1,ofVal,unSc,aload,afill,splice,abound,asI,elems,IntKind.bits,sortT,eqNil,closedL,allByte,patch,pendOK,numA,Value.cells,Value.oneCell',ibin,List.replicate,Option.elim,Nat.reduceAdd,Nat.reduceSub,Nat.reduceMul,Nat.reduceLT,Nat.reduceEqDiff,Nat.reduceLeDiff,Nat.reduceBEq,Int.reduceLE,Int.reduceLT,Int.reduceToNat,Int.reduceBNe,Int.reduceBEq,Int.reduceNeg,Int.reduceEq,Int.reduceNe,Nat.reduceBNe,Int.reduceAdd,Int.reduceSub,Int.reduceMul,Int.reducePow,Nat.reducePow,Int.reduceGT,Int.reduceGE,if_true,if_false,ite_true,ite_false,beq_self_eq_true,BEq.rfl,reduceCtorEq,eq_self,ne_eq,Function.comp_def,beq_iff_eq]
    have eX : X = L.map (applyU M) := List.ext_getElem (by rw [List.length_map]; exact hXl) fun j h h' => by
      rw [List.length_map] at h'
      rw [hX j h h', if_pos (by omega), List.getElem_map]
    subst eX
    have lst : iy < st.length := (List.getElem?_eq_some_iff.1 y0).1
    have lzt : z < st.length := (List.getElem?_eq_some_iff.1 z0).1
    refine hK (.sl st.length 0 L.length false L.length) _ ⟨?_, ?_⟩ ⟨?_, cut_nil _ _⟩ fun j o h1 h2 ho => ?_
    · rw [List.getElem?_set_ne nzy, List.getElem?_set_self ly]
    · refine Gl.cut (.inr ⟨_, lo, by rw [List.length_map], ?_, by rw [List.length_map]; exact hlo⟩) sz48 (by rw [flatMap_len (f := U.v) (s := 5) (fun _ => rfl)])
      rw [List.getElem?_set_ne (by omega), List.getElem?_set_ne (by omega), List.length_map]
      exact hr
    · rw [List.getElem?_set_self (by rw [List.length_set]; exact lz)]
    · rw [List.getElem?_set_ne (Ne.symm h2), List.getElem?_set_ne (Ne.symm h1)]
      exact hg _ _ ho
end
/-! ### Chapter 22: a round of 'ReserveActs' over all claims. -/
theorem cmp_claimN (p q : Operand) (i x y i' x' y' : Int) : pureRun Try.prog (do eqGuard .neq 99 p q (.agg #[.int .i64 i, .int .i64 x, .int .i64 y]) (.agg #[.int .i64 i', .int .i64 x', .int .i64 y']); binOp .neq 99 (.agg #[.int .i64 i, .int .i64 x, .int .i64 y]) (.agg #[.int .i64 i', .int .i64 x', .int .i64 y'])) = some (.bool (!(i == i' && (x == x' && y == y')))) := by
  refine pr_neqStruct p q (by kernel_rfl) ?_
  rw [pr_eqStruct _ _ Try.underlying99 (by kernel_rfl)]
  rw [pr_eqCons (d := 9998) (a := i) (b := i') (k := .i64) (by decide) Try.underlying3 (by rfl) (by rfl), pr_eqConsS (d := 9999) (r := (x == x' && y == y')) (by decide) Try.underlying32 sz32 (eq_cell 9997 x y x' y')]
  cases (x == x' && y == y') <;> cases (i == i') <;> simp [Op.eqFields, pureRun_pure]
section
variable {n m : Nat} {st s : List Ob} {K : V → List Ob → Prop} {iy z : Nat} {M : List U} {cv : V}
set_option maxHeartbeats 4000000 in
theorem ra_yl {ps : Array Tmp} {asg body : Code} (hc : frf (Try.f13.body.getD .skip) = some (ps, asg, body)) {F : Nat → V} {t7 t10 lid i : Nat} {p : Option Code} (q7 : F 7 = .ref t7 0) (q10 : F 10 = .ref t10 0)
    (h7 : s[t7]? = some (.cells [.ref z 0])) (h10 : s[t10]? = some (.cells [.sc (.int .i64 i)])) (hT : Rt s z iy cv (M.map cOf)) (hi : i < M.length) (hl : M.length ≤ 256)
    (hlp : s[lid]? = some (.loop .ready p (pl 13) (ofF 125 F) ps.toList asg body))
    (hK : ∀ s', s'[t10]? = some (.cells [.sc (.int .i64 (i + 1 : Nat))]) → s'[lid]? = some (.loop .ready none (pl 13) (ofF 125 F) ps.toList asg body) → (∀ j o, j ≠ t10 → j ≠ lid → s[j]? = some o → s'[j]? = some o) → s.length ≤ s'.length → K (.sc (.bool true)) s') :
    acallF Try.prog pl (n + 1) m Try.prog.funcs.size [.yl lid, .sc (.int .i64 M[i].id), .agg (cl M[i].x M[i].y)] s K := by
  simp only [Try.f13, Option.getD_some, frf, Option.some.injEq, Prod.mk.injEq] at hc
  obtain ⟨rfl, rfl, rfl⟩ := hc
  refine acallF_yl hlp rfl ?_
  rw [show (#[77, 78] : Array Tmp).toList = [77, 78] from rfl, aputs_two (by decide) (by decide)]
  simp only [cl, evf,↓evp,evq,evr,fxa0,fxa1,fxa2,fxa3,fxa4,fxu,fxn,fxl,↓fxp,lgc,absL,fitL,flatL,ares,ares1,ofVal,unSc,aload,afill,splice,abound,asI,elems,IntKind.bits,sortT,eqNil,closedL,allByte,patch,pendOK,numA,Value.cells,Value.oneCell',ibin,List.replicate,Option.elim,Nat.reduceAdd,Nat.reduceSub,Nat.reduceMul,Nat.reduceLT,Nat.reduceEqDiff,Nat.reduceLeDiff,Nat.reduceBEq,Int.reduceLE,Int.reduceLT,Int.reduceToNat,Int.reduceBNe,Int.reduceBEq,Int.reduceNeg,Int.reduceEq,Int.reduceNe,Nat.reduceBNe,Int.reduceAdd,Int.reduceSub,Int.reduceMul,Int.reducePow,Nat.reducePow,Int.reduceGT,Int.reduceGE,if_true,if_false,ite_true,ite_false,beq_self_eq_true,BEq.rfl,reduceCtorEq,eq_self,ne_eq,Function.comp_def,beq_iff_eq]
  have g0 := Grw.push s [.cells (cl M[i].x M[i].y)]
  have c6 : (s ++ [Ob.cells (cl M[i].x M[i].y)])[s.length]? = some (.cells (cl M[i].x M[i].y)) := get_new0 _ _
  simp only [cl] at g0 c6
  refine rdMid_ok (g0 _ _ hlp) ?_
  generalize hs1 : (s ++ [Ob.cells _]) = s1 at g0 c6
  have l1 : s1.length = s.length + 1 := by rw [← hs1]; simp
  have nl : s.length ≠ lid := fun he => by subst he; rw [List.getElem?_eq_none (Nat.le_refl _)] at hlp; cases hlp
  have lt : lid < s1.length := (List.getElem?_eq_some_iff.1 (g0 _ _ hlp)).1
  have nc : ∀ (j : Nat) (c : List V), s[j]? = some (.cells c) → j ≠ lid := fun j c hj he => by subst he; rw [hlp] at hj; cases hj
  generalize hs2 : s1.set lid _ = s2
  have k : ∀ j o, j ≠ lid → s1[j]? = some o → s2[j]? = some o := fun j o hj ho => by rw [← hs2, List.getElem?_set_ne (Ne.symm hj)]; exact ho
  have kr : Kr s s2 := fun j e xs n lo fz hj => k _ _ (fun he => by rw [he, hlp] at hj; cases hj) (g0 _ _ hj)
  have d7 := k _ _ (nc _ _ h7) (g0 _ _ h7)
  have d10 := k _ _ (nc _ _ h10) (g0 _ _ h10)
  have d6 := k _ _ nl c6
  have dr := k _ _ (nc _ _ hT.at_) (g0 _ _ hT.at_)
  have dl : ∀ o, s1.set lid o = s2 → s2[lid]? = some o := fun o ho => by rw [← ho]; exact List.getElem?_set_self lt
  have dl := dl _ hs2
  have rb2 := rd_kr hT.rd.1 kr
  have l2 : s2.length = s1.length := by rw [← hs2, List.length_set]
  have eM : (M.map cOf).length = M.length := List.length_map _
  have al := alen_rd rb2 Try.underlying83
  rw [eM] at al
  have d : decide ((i : Int) ≥ M.length) = false := decide_eq_false (by omega)
  have e3 : IntKind.i64.wrap ((i : Int) + 1) = ((i + 1 : Nat) : Int) := by rw [IntWalk.i64_in _ (by omega)]; rfl
  have hi' : i < (M.map cOf).length := by rw [eM]; exact hi
  obtain ⟨p1, p2⟩ := ix_flat (f := C3.v) (fun a => rfl) rb2 Try.underlying83 sz99 ag99 (by omega) hi'
  have ec : (M.map cOf)[i] = cOf M[i] := by rw [List.getElem_map]
  rw [ec] at p2
  simp only [cOf, C3.v, cl] at p2
  have cm := fun p q => cmp_claimN p q M[i].id M[i].x M[i].y M[i].id M[i].x M[i].y
  have eq1 : (M[i].id == M[i].id && (M[i].x == M[i].x && M[i].y == M[i].y)) = true := by simp
  have b10 : ∀ o, (s2.set t10 o)[t10]? = some o := fun o => get_set d10 o
  simp only [q7, q10, d7, d10, d6, dr, al, d, p1, p2, cm, eq1, Bool.not_true, e3, b10, evf,↓evp,evq,evr,fxa0,fxa1,fxa2,fxa3,fxa4,fxu,fxn,fxl,↓fxp,lgc,absL,fitL,flatL,ares,ares1,ofVal,unSc,aload,afill,splice,abound,asI,elems,IntKind.bits,sortT,eqNil,closedL,allByte,patch,pendOK,numA,Value.cells,Value.oneCell',ibin,List.replicate,Option.elim,Nat.reduceAdd,Nat.reduceSub,Nat.reduceMul,Nat.reduceLT,Nat.reduceEqDiff,Nat.reduceLeDiff,Nat.reduceBEq,Int.reduceLE,Int.reduceLT,Int.reduceToNat,Int.reduceBNe,Int.reduceBEq,Int.reduceNeg,Int.reduceEq,Int.reduceNe,Nat.reduceBNe,Int.reduceAdd,Int.reduceSub,Int.reduceMul,Int.reducePow,Nat.reducePow,Int.reduceGT,Int.reduceGE,if_true,if_false,ite_true,ite_false,beq_self_eq_true,BEq.rfl,reduceCtorEq,eq_self,ne_eq,Function.comp_def,beq_iff_eq]
  have nt := nc _ _ h10
  have lt5 : t10 < s2.length := (List.getElem?_eq_some_iff.1 d10).1
  have ll2 : lid < s2.length := (List.getElem?_eq_some_iff.1 dl).1
  refine rdEnd_normal (by rw [List.getElem?_set_ne nt]; exact dl) ?_
  refine hK _ ?_ ?_ ?_ ?_
  · rw [List.getElem?_set_ne (Ne.symm nt), List.getElem?_set_self lt5]
  · rw [List.getElem?_set_self (by rw [List.length_set]; exact ll2)]
  · intro j o j1 j2 ho
    rw [List.getElem?_set_ne (Ne.symm j2), List.getElem?_set_ne (Ne.symm j1)]
    exact k _ _ j2 (g0 _ _ ho)
  · rw [List.length_set, List.length_set]
    omega
end
/-! ### Chapter 22: the law ReserveActs. -/
section
variable {n m : Nat} {st s : List Ob} {K : V → List Ob → Prop} {E : List U} {C : List K4} {lv cv : V}
theorem k_all {s : List Ob} {C : List K4} {lv : V} (hv : Rd Try.prog s 82 lv (C.flatMap K4.v) C.length) {i : Nat} (hi : i < C.length) : ald Try.prog s 82 (ixp 4 lv i 0) = some (.agg (K4.v C[i]), s) :=
  (ix_flat (f := K4.v) (fun a => rfl) hv Try.underlying76 sz82 ag82 (by omega) hi).2
set_option maxHeartbeats 8000000 in
theorem l22_Acts (he : ∀ s, Rd Try.prog s 130 lv (E.flatMap U.v) E.length) (hid : ∀ e ∈ E, inR e.id) (hEm : E.length < m) (hEl : E.length ≤ 3518437208883) (hc : ∀ s, Rd Try.prog s 82 cv (C.flatMap K4.v) C.length) (hCm : C.length < m) (hCl : C.length ≤ 4398046511104) (hm : 300 < m) (hK : ∀ s, K (.sc (.bool true)) s) :
    acallF Try.prog pl (n + 12) m 13 [lv, cv] st K := by
  refine acallF_inF Try.func13 rfl rfl Try.ntmps13 (by simp) ?_
  obtain ⟨s0, hs0⟩ : ∃ s0, s0 = st ++ [Ob.cells [.sc (.bool false)]] := ⟨_, rfl⟩
  have c0 : s0[st.length]? = some (.cells [.sc (.bool false)]) := by rw [hs0]; exact get_new0 _ _
  have l0 : s0.length = st.length + 1 := by rw [hs0]; simp
  simp only [evf,↓evp,evq,evr,fxa0,fxa1,fxa2,fxa3,fxa4,fxu,fxn,fxl,↓fxp,lgc,absL,fitL,flatL,ares,ares1,ofVal,unSc,aload,afill,splice,abound,asI,elems,IntKind.bits,sortT,eqNil,closedL,allByte,patch,pendOK,numA,Value.cells,Value.oneCell',ibin,List.replicate,Option.elim,Nat.reduceAdd,Nat.reduceSub,Nat.reduceMul,Nat.reduceLT,Nat.reduceEqDiff,Nat.reduceLeDiff,Nat.reduceBEq,Int.reduceLE,Int.reduceLT,Int.reduceToNat,Int.reduceBNe,Int.reduceBEq,Int.reduceNeg,Int.reduceEq,Int.reduceNe,Nat.reduceBNe,Int.reduceAdd,Int.reduceSub,Int.reduceMul,Int.reducePow,Nat.reducePow,Int.reduceGT,Int.reduceGE,if_true,if_false,ite_true,ite_false,beq_self_eq_true,BEq.rfl,reduceCtorEq,eq_self,ne_eq,Function.comp_def,beq_iff_eq]
  rw [← hs0]
  refine awake22 (n := n + 2) (by omega) fun s1 g1 => ?_
  have c1 := g1 _ _ c0
  have l1 := g1.le
  simp only [evf,↓evp,evq,evr,fxa0,fxa1,fxa2,fxa3,fxa4,fxu,fxn,fxl,↓fxp,lgc,absL,fitL,flatL,ares,ares1,ofVal,unSc,aload,afill,splice,abound,asI,elems,IntKind.bits,sortT,eqNil,closedL,allByte,patch,pendOK,numA,Value.cells,Value.oneCell',ibin,List.replicate,Option.elim,Nat.reduceAdd,Nat.reduceSub,Nat.reduceMul,Nat.reduceLT,Nat.reduceEqDiff,Nat.reduceLeDiff,Nat.reduceBEq,Int.reduceLE,Int.reduceLT,Int.reduceToNat,Int.reduceBNe,Int.reduceBEq,Int.reduceNeg,Int.reduceEq,Int.reduceNe,Nat.reduceBNe,Int.reduceAdd,Int.reduceSub,Int.reduceMul,Int.reducePow,Nat.reducePow,Int.reduceGT,Int.reduceGE,if_true,if_false,ite_true,ite_false,beq_self_eq_true,BEq.rfl,reduceCtorEq,eq_self,ne_eq,Function.comp_def,beq_iff_eq]
  refine l22_Made (n := n + 3) he hid hEm hEl hm fun s2 ix a b tb u c z iy us os L sv hab huc hd hi rel gd hT hz hy g2 hle => ?_
  have c2 := g2 _ _ c1
  simp only [evf,↓evp,evq,evr,fxa0,fxa1,fxa2,fxa3,fxa4,fxu,fxn,fxl,↓fxp,lgc,absL,fitL,flatL,ares,ares1,ofVal,unSc,aload,afill,splice,abound,asI,elems,IntKind.bits,sortT,eqNil,closedL,allByte,patch,pendOK,numA,Value.cells,Value.oneCell',ibin,List.replicate,Option.elim,Nat.reduceAdd,Nat.reduceSub,Nat.reduceMul,Nat.reduceLT,Nat.reduceEqDiff,Nat.reduceLeDiff,Nat.reduceBEq,Int.reduceLE,Int.reduceLT,Int.reduceToNat,Int.reduceBNe,Int.reduceBEq,Int.reduceNeg,Int.reduceEq,Int.reduceNe,Nat.reduceBNe,Int.reduceAdd,Int.reduceSub,Int.reduceMul,Int.reducePow,Nat.reducePow,Int.reduceGT,Int.reduceGE,if_true,if_false,ite_true,ite_false,beq_self_eq_true,BEq.rfl,reduceCtorEq,eq_self,ne_eq,Function.comp_def,beq_iff_eq]
  generalize hs3 : (s2 ++ [Ob.cells [.ref z 0]]) = s3
  have g3 : Grw s2 s3 := by rw [← hs3]; exact .push _ _
  have d3 : s3[s2.length]? = some (.cells [.ref z 0]) := by rw [← hs3]; exact get_new0 _ _
  have lz2 : z < s2.length := (List.getElem?_eq_some_iff.1 hz).1
  have lx2 : ix < s2.length := (List.getElem?_eq_some_iff.1 hi.ix).1
  have la2 : a < s2.length := (List.getElem?_eq_some_iff.1 hi.us).1
  have lb2 : b < s2.length := (List.getElem?_eq_some_iff.1 hi.os).1
  have lt2 : tb < s2.length := (List.getElem?_eq_some_iff.1 hT.at_).1
  have lu2 : u < s2.length := (List.getElem?_eq_some_iff.1 hT.cl).1
  have lc2 : c < s2.length := (List.getElem?_eq_some_iff.1 hT.cc).1
  have ly2 : iy < s2.length := (List.getElem?_eq_some_iff.1 hy.at_).1
  obtain ⟨t7, ht7⟩ : ∃ t7, t7 = s2.length := ⟨_, rfl⟩
  rw [← ht7] at d3 lz2 lx2 la2 lb2 lt2 lu2 lc2 ly2
  have ntm : ∀ (j : Nat) (cs : List V), s2[j]? = some (.cells cs) → j ≠ a ∧ j ≠ b ∧ j ≠ u ∧ j ≠ c := fun j cs hj =>
    ⟨(fun h => by have := hi.us; rw [← h, hj] at this; cases this), (fun h => by have := hi.os; rw [← h, hj] at this; cases this), (fun h => by have := hT.cl; rw [← h, hj] at this; cases this), (fun h => by have := hT.cc; rw [← h, hj] at this; cases this)⟩
  have nix := ntm _ _ hi.ix
  have nz := ntm _ _ hz
  have niy := ntm _ _ hy.at_
  have ntb := ntm _ _ hT.at_
  have nzy : z ≠ iy := fun h => by have := hy.at_; rw [← h, hz] at this; cases this
  have nzx : z ≠ ix := fun h => by have := hi.ix; rw [← h, hz] at this; cases this
  have nzt : z ≠ tb := fun h => by have := hT.at_; rw [← h, hz] at this; cases this
  have nyx : iy ≠ ix := fun h => by have := hi.ix; rw [← h, hy.at_] at this; cases this
  have nyt : iy ≠ tb := fun h => by have := hT.at_; rw [← h, hy.at_] at this; cases this
  refine aloop_forF (fun k f s => ∃ (i : Nat) (M L : List U) (gs cls us : List (Int × V)) (cc os : List ((Int × Int) × V)) (sv cv' : V), k + i = m ∧ i ≤ C.length ∧ Ix s ix a b us os ∧ Rel us os L ∧ Gd L ∧ Tb s tb ix u c cls cc ∧ Cr L M gs cls cc ∧ Rt s z iy cv' (M.map cOf) ∧ Ri s iy sv L ∧ s[st.length]? = some (.cells [.sc (.bool false)]) ∧ s[t7]? = some (.cells [.ref z 0]) ∧ f 1 = cv ∧ f 4 = .ref st.length 0 ∧ f 5 = .ref ix 0 ∧ f 6 = .ref tb 0 ∧ f 7 = .ref t7 0 ∧ f 8 = .sc (.int .i64 i))
    ⟨0, [], L, [], [], us, [], os, sv, _, by omega, by omega, hi.grw g3, rel, gd, hT.grw g3, Cr.nil L, ⟨g3 _ _ hz, cut_nil _ _⟩, hy.grw g3, g3 _ _ c2, d3, by simp only [evf, ne_eq, Nat.reduceEqDiff, Nat.reduceLT, not_false_eq_true], by simp only [evf, ne_eq, Nat.reduceEqDiff, Nat.reduceLT, not_false_eq_true], by simp only [evf, ne_eq, Nat.reduceEqDiff, Nat.reduceLT, not_false_eq_true], by simp only [evf, ne_eq, Nat.reduceEqDiff, Nat.reduceLT, not_false_eq_true], by simp only [ht7, evf, ne_eq, Nat.reduceEqDiff, Nat.reduceLT, not_false_eq_true], by simp only [evf, ne_eq, Nat.reduceEqDiff, Nat.reduceLT, not_false_eq_true]; rfl⟩ ?_
  clear hs3 d3 g3 hT hi rel gd hy hz
  rintro I' hI' k f s ⟨i, M, L, gs, cls, us, cc, os, sv, cv', hk, hil0, hi, rel, gd, hT, hC, hR, hy, ct, c7, f1, f4, f5, f6, f7, f8⟩
  refine ⟨k - 1, by omega, ?_⟩
  have al := alen_rd (hc s) Try.underlying76
  have e3 : IntKind.i64.wrap ((i : Int) + 1) = ((i + 1 : Nat) : Int) := by rw [IntWalk.i64_in _ (by omega)]; rfl
  have gdM := hC.gd gd
  by_cases hil : i < C.length
  · have d : decide ((i : Int) < C.length) = true := decide_eq_true (by omega)
    obtain ⟨p1, p2⟩ := ix_flat (f := K4.v) (fun a => rfl) (hc s) Try.underlying76 sz82 ag82 (by omega) hil
    obtain ⟨sA, hsA⟩ : ∃ sA, sA = s ++ [Ob.cells (K4.v C[i])] := ⟨_, rfl⟩
    have gA : Grw s sA := by rw [hsA]; exact .push _ _
    have cA : sA[s.length]? = some (.cells (K4.v C[i])) := by rw [hsA]; exact get_new0 _ _
    simp only [K4.v] at p2 hsA cA
    simp only [f1, f4, f5, f6, f7, f8, al, d, p1, p2, evf,↓evp,evq,evr,fxa0,fxa1,fxa2,fxa3,fxa4,fxu,fxn,fxl,↓fxp,lgc,absL,fitL,flatL,ares,ares1,ofVal,unSc,aload,afill,splice,abound,asI,elems,IntKind.bits,sortT,eqNil,closedL,allByte,patch,pendOK,numA,Value.cells,Value.oneCell',ibin,List.replicate,Option.elim,Nat.reduceAdd,Nat.reduceSub,Nat.reduceMul,Nat.reduceLT,Nat.reduceEqDiff,Nat.reduceLeDiff,Nat.reduceBEq,Int.reduceLE,Int.reduceLT,Int.reduceToNat,Int.reduceBNe,Int.reduceBEq,Int.reduceNeg,Int.reduceEq,Int.reduceNe,Nat.reduceBNe,Int.reduceAdd,Int.reduceSub,Int.reduceMul,Int.reducePow,Nat.reducePow,Int.reduceGT,Int.reduceGE,if_true,if_false,ite_true,ite_false,beq_self_eq_true,BEq.rfl,reduceCtorEq,eq_self,ne_eq,Function.comp_def,beq_iff_eq]
    rw [← hsA]
    have c7A := gA _ _ c7
    have ls : s.length < sA.length := (List.getElem?_eq_some_iff.1 cA).1
    have lt7 : t7 < s.length := (List.getElem?_eq_some_iff.1 c7).1
    have hiA := hi.grw gA
    have hTA := hT.grw gA
    have hRA := hR.grw gA
    have hyA := hy.grw gA
    have ctA := gA _ _ ct
    cases hap : C[i].ap
    case true =>
      simp only [f1, f4, f5, f6, f7, f8, cA, hap, evf,↓evp,evq,evr,fxa0,fxa1,fxa2,fxa3,fxa4,fxu,fxn,fxl,↓fxp,lgc,absL,fitL,flatL,ares,ares1,ofVal,unSc,aload,afill,splice,abound,asI,elems,IntKind.bits,sortT,eqNil,closedL,allByte,patch,pendOK,numA,Value.cells,Value.oneCell',ibin,List.replicate,Option.elim,Nat.reduceAdd,Nat.reduceSub,Nat.reduceMul,Nat.reduceLT,Nat.reduceEqDiff,Nat.reduceLeDiff,Nat.reduceBEq,Int.reduceLE,Int.reduceLT,Int.reduceToNat,Int.reduceBNe,Int.reduceBEq,Int.reduceNeg,Int.reduceEq,Int.reduceNe,Nat.reduceBNe,Int.reduceAdd,Int.reduceSub,Int.reduceMul,Int.reducePow,Nat.reducePow,Int.reduceGT,Int.reduceGE,if_true,if_false,ite_true,ite_false,beq_self_eq_true,BEq.rfl,reduceCtorEq,eq_self,ne_eq,Function.comp_def,beq_iff_eq]
      refine t_ApplyC (n := n + 1) rel gd hiA hab hTA huc hd hC hm fun us2 os2 s5 hi5 rel5 gd5 hT5 k5 => ?_
      have km5 := kp4_km k5 hiA.us hiA.os hTA.cl hTA.cc
      have hy5 := hyA.km km5
      have hR5 : Rt s5 z iy cv' (M.map cOf) := ⟨km5 _ _ (fun es he => by cases he) hRA.at_, cut_km hRA.rd km5⟩
      have c75 := km5 _ _ (fun es he => by cases he) c7A
      have ct5 := km5 _ _ (fun es he => by cases he) ctA
      simp only [f1, f4, f5, f6, f7, f8, cA, c7A, c75, evf,↓evp,evq,evr,fxa0,fxa1,fxa2,fxa3,fxa4,fxu,fxn,fxl,↓fxp,lgc,absL,fitL,flatL,ares,ares1,ofVal,unSc,aload,afill,splice,abound,asI,elems,IntKind.bits,sortT,eqNil,closedL,allByte,patch,pendOK,numA,Value.cells,Value.oneCell',ibin,List.replicate,Option.elim,Nat.reduceAdd,Nat.reduceSub,Nat.reduceMul,Nat.reduceLT,Nat.reduceEqDiff,Nat.reduceLeDiff,Nat.reduceBEq,Int.reduceLE,Int.reduceLT,Int.reduceToNat,Int.reduceBNe,Int.reduceBEq,Int.reduceNeg,Int.reduceEq,Int.reduceNe,Nat.reduceBNe,Int.reduceAdd,Int.reduceSub,Int.reduceMul,Int.reducePow,Nat.reducePow,Int.reduceGT,Int.reduceGE,if_true,if_false,ite_true,ite_false,beq_self_eq_true,BEq.rfl,reduceCtorEq,eq_self,ne_eq,Function.comp_def,beq_iff_eq]
      refine r_Apply (n := n + 10) hy5 hR5 hC.rel.ids hm gd.len gdM.len fun sv6 s6 hy6 hR6 k6 => ?_
      have z6 := hR6.at_
      have c76 := k6 _ _ (by omega) (by omega) c75
      have ct6 := k6 _ _ (by omega) (by omega) ct5
      have hi6 : Ix s6 ix a b us2 os2 := ⟨k6 _ _ (Ne.symm nyx) (Ne.symm nzx) hi5.ix, k6 _ _ (Ne.symm niy.1) (Ne.symm nz.1) hi5.us, k6 _ _ (Ne.symm niy.2.1) (Ne.symm nz.2.1) hi5.os⟩
      have hT6 : Tb s6 tb ix u c [] [] := ⟨k6 _ _ (Ne.symm nyt) (Ne.symm nzt) hT5.at_, k6 _ _ (Ne.symm niy.2.2.1) (Ne.symm nz.2.2.1) hT5.cl, k6 _ _ (Ne.symm niy.2.2.2) (Ne.symm nz.2.2.2) hT5.cc⟩
      have ne6 : ((M.length : Int) != (M.length : Int)) = false := by simp
      simp only [f1, f4, f5, f6, f7, f8, cA, c7A, c75, c76, ct6, z6, ne6, evf,↓evp,evq,evr,fxa0,fxa1,fxa2,fxa3,fxa4,fxu,fxn,fxl,↓fxp,lgc,absL,fitL,flatL,ares,ares1,ofVal,unSc,aload,afill,splice,abound,asI,elems,IntKind.bits,sortT,eqNil,closedL,allByte,patch,pendOK,numA,Value.cells,Value.oneCell',ibin,List.replicate,Option.elim,Nat.reduceAdd,Nat.reduceSub,Nat.reduceMul,Nat.reduceLT,Nat.reduceEqDiff,Nat.reduceLeDiff,Nat.reduceBEq,Int.reduceLE,Int.reduceLT,Int.reduceToNat,Int.reduceBNe,Int.reduceBEq,Int.reduceNeg,Int.reduceEq,Int.reduceNe,Nat.reduceBNe,Int.reduceAdd,Int.reduceSub,Int.reduceMul,Int.reducePow,Nat.reducePow,Int.reduceGT,Int.reduceGE,if_true,if_false,ite_true,ite_false,beq_self_eq_true,BEq.rfl,reduceCtorEq,eq_self,ne_eq,Function.comp_def,beq_iff_eq]
      refine l22_same (n := n + 6) rel5 gd5 hi6 hy6 hm fun s7 g7 => ?_
      have c77 := g7 _ _ c76
      have ct7 := g7 _ _ ct6
      simp only [f1, f4, f5, f6, f7, f8, c77, ct7, g7, true_or, e3, evf,↓evp,evq,evr,fxa0,fxa1,fxa2,fxa3,fxa4,fxu,fxn,fxl,↓fxp,lgc,absL,fitL,flatL,ares,ares1,ofVal,unSc,aload,afill,splice,abound,asI,elems,IntKind.bits,sortT,eqNil,closedL,allByte,patch,pendOK,numA,Value.cells,Value.oneCell',ibin,List.replicate,Option.elim,Nat.reduceAdd,Nat.reduceSub,Nat.reduceMul,Nat.reduceLT,Nat.reduceEqDiff,Nat.reduceLeDiff,Nat.reduceBEq,Int.reduceLE,Int.reduceLT,Int.reduceToNat,Int.reduceBNe,Int.reduceBEq,Int.reduceNeg,Int.reduceEq,Int.reduceNe,Nat.reduceBNe,Int.reduceAdd,Int.reduceSub,Int.reduceMul,Int.reducePow,Nat.reducePow,Int.reduceGT,Int.reduceGE,if_true,if_false,ite_true,ite_false,beq_self_eq_true,BEq.rfl,reduceCtorEq,eq_self,ne_eq,Function.comp_def,beq_iff_eq]
      exact hI' _ _ _ ⟨i + 1, [], _, [], [], us2, [], os2, sv6, _, by omega, hil, hi6.grw g7, rel5, gd5, hT6.grw g7, Cr.nil _, hR6.grw g7, hy6.grw g7, ct7, c77, by simp only [f1, evf, ne_eq, Nat.reduceEqDiff, Nat.reduceLT, not_false_eq_true], by simp only [f4, evf, ne_eq, Nat.reduceEqDiff, Nat.reduceLT, not_false_eq_true], by simp only [f5, evf, ne_eq, Nat.reduceEqDiff, Nat.reduceLT, not_false_eq_true], by simp only [f6, evf, ne_eq, Nat.reduceEqDiff, Nat.reduceLT, not_false_eq_true], by simp only [f7, evf, ne_eq, Nat.reduceEqDiff, Nat.reduceLT, not_false_eq_true], by simp only [evf, ne_eq, Nat.reduceEqDiff, Nat.reduceLT, not_false_eq_true]⟩
    case false =>
      simp only [f1, f4, f5, f6, f7, f8, cA, hap, evf,↓evp,evq,evr,fxa0,fxa1,fxa2,fxa3,fxa4,fxu,fxn,fxl,↓fxp,lgc,absL,fitL,flatL,ares,ares1,ofVal,unSc,aload,afill,splice,abound,asI,elems,IntKind.bits,sortT,eqNil,closedL,allByte,patch,pendOK,numA,Value.cells,Value.oneCell',ibin,List.replicate,Option.elim,Nat.reduceAdd,Nat.reduceSub,Nat.reduceMul,Nat.reduceLT,Nat.reduceEqDiff,Nat.reduceLeDiff,Nat.reduceBEq,Int.reduceLE,Int.reduceLT,Int.reduceToNat,Int.reduceBNe,Int.reduceBEq,Int.reduceNeg,Int.reduceEq,Int.reduceNe,Nat.reduceBNe,Int.reduceAdd,Int.reduceSub,Int.reduceMul,Int.reducePow,Nat.reducePow,Int.reduceGT,Int.reduceGE,if_true,if_false,ite_true,ite_false,beq_self_eq_true,BEq.rfl,reduceCtorEq,eq_self,ne_eq,Function.comp_def,beq_iff_eq]
      refine do_MayC (n := n + 4) rel hiA hTA hC hm fun s5 g5 => ?_
      have c75 := g5 _ _ c7A
      have cA5 := g5 _ _ cA
      have lA5 := g5.le
      simp only [f1, f4, f5, f6, f7, f8, cA, cA5, c7A, c75, g5, hap, true_or, evf,↓evp,evq,evr,fxa0,fxa1,fxa2,fxa3,fxa4,fxu,fxn,fxl,↓fxp,lgc,absL,fitL,flatL,ares,ares1,ofVal,unSc,aload,afill,splice,abound,asI,elems,IntKind.bits,sortT,eqNil,closedL,allByte,patch,pendOK,numA,Value.cells,Value.oneCell',ibin,List.replicate,Option.elim,Nat.reduceAdd,Nat.reduceSub,Nat.reduceMul,Nat.reduceLT,Nat.reduceEqDiff,Nat.reduceLeDiff,Nat.reduceBEq,Int.reduceLE,Int.reduceLT,Int.reduceToNat,Int.reduceBNe,Int.reduceBEq,Int.reduceNeg,Int.reduceEq,Int.reduceNe,Nat.reduceBNe,Int.reduceAdd,Int.reduceSub,Int.reduceMul,Int.reducePow,Nat.reducePow,Int.reduceGT,Int.reduceGE,if_true,if_false,ite_true,ite_false,beq_self_eq_true,BEq.rfl,reduceCtorEq,eq_self,ne_eq,Function.comp_def,beq_iff_eq]
      refine r_MayClaim (n := n + 4) (hyA.grw g5) rel (hRA.grw g5) hC hm gd.len gdM.len fun s6 g6 => ?_
      have c76 := g6 _ _ c75
      have cA6 := g6 _ _ cA5
      have hi6 := (hiA.grw g5).grw g6
      have hT6 := (hTA.grw g5).grw g6
      have hR6 := (hRA.grw g5).grw g6
      have hy6 := (hyA.grw g5).grw g6
      have ct6 := (g5.trans g6) _ _ ctA
      have ne6 : (mayC L M C[i].id C[i].x C[i].y != mayC L M C[i].id C[i].x C[i].y) = false := by simp
      simp only [f1, f4, f5, f6, f7, f8, cA, cA5, cA6, c7A, c75, c76, g5, g6, hap, ne6, true_or, evf,↓evp,evq,evr,fxa0,fxa1,fxa2,fxa3,fxa4,fxu,fxn,fxl,↓fxp,lgc,absL,fitL,flatL,ares,ares1,ofVal,unSc,aload,afill,splice,abound,asI,elems,IntKind.bits,sortT,eqNil,closedL,allByte,patch,pendOK,numA,Value.cells,Value.oneCell',ibin,List.replicate,Option.elim,Nat.reduceAdd,Nat.reduceSub,Nat.reduceMul,Nat.reduceLT,Nat.reduceEqDiff,Nat.reduceLeDiff,Nat.reduceBEq,Int.reduceLE,Int.reduceLT,Int.reduceToNat,Int.reduceBNe,Int.reduceBEq,Int.reduceNeg,Int.reduceEq,Int.reduceNe,Nat.reduceBNe,Int.reduceAdd,Int.reduceSub,Int.reduceMul,Int.reducePow,Nat.reducePow,Int.reduceGT,Int.reduceGE,if_true,if_false,ite_true,ite_false,beq_self_eq_true,BEq.rfl,reduceCtorEq,eq_self,ne_eq,Function.comp_def,beq_iff_eq]
      refine do_Claim (n := n + 3) rel hi6 hT6 hC huc hm (fun hne s7 g7 => ?_) fun he0 p gs' cls' cc' s7 hp hpe hT7 hC7 k7 => ?_
      · have c77 := g7 _ _ c76
        have cA7 := g7 _ _ cA6
        simp only [f1, f4, f5, f6, f7, f8, cA, cA5, cA6, cA7, c7A, c75, c76, c77, g5, g6, g7, hap, ne6, true_or, evf,↓evp,evq,evr,fxa0,fxa1,fxa2,fxa3,fxa4,fxu,fxn,fxl,↓fxp,lgc,absL,fitL,flatL,ares,ares1,ofVal,unSc,aload,afill,splice,abound,asI,elems,IntKind.bits,sortT,eqNil,closedL,allByte,patch,pendOK,numA,Value.cells,Value.oneCell',ibin,List.replicate,Option.elim,Nat.reduceAdd,Nat.reduceSub,Nat.reduceMul,Nat.reduceLT,Nat.reduceEqDiff,Nat.reduceLeDiff,Nat.reduceBEq,Int.reduceLE,Int.reduceLT,Int.reduceToNat,Int.reduceBNe,Int.reduceBEq,Int.reduceNeg,Int.reduceEq,Int.reduceNe,Nat.reduceBNe,Int.reduceAdd,Int.reduceSub,Int.reduceMul,Int.reducePow,Nat.reducePow,Int.reduceGT,Int.reduceGE,if_true,if_false,ite_true,ite_false,beq_self_eq_true,BEq.rfl,reduceCtorEq,eq_self,ne_eq,Function.comp_def,beq_iff_eq]
        refine r_DoClaim (n := n + 3) (hy6.grw g7) rel (hR6.grw g7) hC hm gd.len gdM.len (fun _ s8 g8 => ?_) fun he0 => absurd he0 hne
        have g68 := g7.trans g8
        simp only [f1, f4, f5, f6, f7, f8, cA, cA5, cA6, cA7, c7A, c75, c76, c77, g5, g6, g7, g8, hap, ne6, true_or, e3, evf,↓evp,evq,evr,fxa0,fxa1,fxa2,fxa3,fxa4,fxu,fxn,fxl,↓fxp,lgc,absL,fitL,flatL,ares,ares1,ofVal,unSc,aload,afill,splice,abound,asI,elems,IntKind.bits,sortT,eqNil,closedL,allByte,patch,pendOK,numA,Value.cells,Value.oneCell',ibin,List.replicate,Option.elim,Nat.reduceAdd,Nat.reduceSub,Nat.reduceMul,Nat.reduceLT,Nat.reduceEqDiff,Nat.reduceLeDiff,Nat.reduceBEq,Int.reduceLE,Int.reduceLT,Int.reduceToNat,Int.reduceBNe,Int.reduceBEq,Int.reduceNeg,Int.reduceEq,Int.reduceNe,Nat.reduceBNe,Int.reduceAdd,Int.reduceSub,Int.reduceMul,Int.reducePow,Nat.reducePow,Int.reduceGT,Int.reduceGE,if_true,if_false,ite_true,ite_false,beq_self_eq_true,BEq.rfl,reduceCtorEq,eq_self,ne_eq,Function.comp_def,beq_iff_eq]
        exact hI' _ _ _ ⟨i + 1, M, L, gs, cls, us, cc, os, sv, cv', by omega, hil, hi6.grw g68, rel, gd, hT6.grw g68, hC, hR6.grw g68, hy6.grw g68, g68 _ _ ct6, g8 _ _ c77, by simp only [f1, evf, ne_eq, Nat.reduceEqDiff, Nat.reduceLT, not_false_eq_true], by simp only [f4, evf, ne_eq, Nat.reduceEqDiff, Nat.reduceLT, not_false_eq_true], by simp only [f5, evf, ne_eq, Nat.reduceEqDiff, Nat.reduceLT, not_false_eq_true], by simp only [f6, evf, ne_eq, Nat.reduceEqDiff, Nat.reduceLT, not_false_eq_true], by simp only [f7, evf, ne_eq, Nat.reduceEqDiff, Nat.reduceLT, not_false_eq_true], by simp only [evf, ne_eq, Nat.reduceEqDiff, Nat.reduceLT, not_false_eq_true]⟩
      · have km7 := kp_km k7 hT6.cl hT6.cc
        have c77 := km7 _ _ (fun es he => by cases he) c76
        have cA7 := km7 _ _ (fun es he => by cases he) cA6
        have ct7 := km7 _ _ (fun es he => by cases he) ct6
        have hi7 : Ix s7 ix a b us os := ⟨k7 _ _ nix.2.2.1 nix.2.2.2 hi6.ix, k7 _ _ hd.1 hd.2.1 hi6.us, k7 _ _ hd.2.2.1 hd.2.2.2 hi6.os⟩
        have hy7 := hy6.km km7
        have hR7 : Rt s7 z iy cv' (M.map cOf) := ⟨km7 _ _ (fun es he => by cases he) hR6.at_, cut_km hR6.rd km7⟩
        simp only [f1, f4, f5, f6, f7, f8, cA, cA5, cA6, cA7, c7A, c75, c76, c77, g5, g6, hap, ne6, true_or, evf,↓evp,evq,evr,fxa0,fxa1,fxa2,fxa3,fxa4,fxu,fxn,fxl,↓fxp,lgc,absL,fitL,flatL,ares,ares1,ofVal,unSc,aload,afill,splice,abound,asI,elems,IntKind.bits,sortT,eqNil,closedL,allByte,patch,pendOK,numA,Value.cells,Value.oneCell',ibin,List.replicate,Option.elim,Nat.reduceAdd,Nat.reduceSub,Nat.reduceMul,Nat.reduceLT,Nat.reduceEqDiff,Nat.reduceLeDiff,Nat.reduceBEq,Int.reduceLE,Int.reduceLT,Int.reduceToNat,Int.reduceBNe,Int.reduceBEq,Int.reduceNeg,Int.reduceEq,Int.reduceNe,Nat.reduceBNe,Int.reduceAdd,Int.reduceSub,Int.reduceMul,Int.reducePow,Nat.reducePow,Int.reduceGT,Int.reduceGE,if_true,if_false,ite_true,ite_false,beq_self_eq_true,BEq.rfl,reduceCtorEq,eq_self,ne_eq,Function.comp_def,beq_iff_eq]
        refine r_DoClaim (n := n + 3) hy7 rel hR7 hC hm gd.len gdM.len (fun hne => absurd he0 hne) fun _ cv2 s8 hR8 k8 => ?_
        have hR8 := hR8 (mvU p C[i].x C[i].y) hpe rfl rfl
        have c78 := k8 _ _ (by omega) c77
        have cA8 := k8 _ _ (by omega) cA7
        have ct8 := k8 _ _ (by omega) ct7
        have hi8 : Ix s8 ix a b us os := ⟨k8 _ _ (Ne.symm nzx) hi7.ix, k8 _ _ (Ne.symm nz.1) hi7.us, k8 _ _ (Ne.symm nz.2.1) hi7.os⟩
        have hT8 : Tb s8 tb ix u c cls' cc' := ⟨k8 _ _ (Ne.symm nzt) hT7.at_, k8 _ _ (Ne.symm nz.2.2.1) hT7.cl, k8 _ _ (Ne.symm nz.2.2.2) hT7.cc⟩
        have hy8 : Ri s8 iy sv L := ⟨k8 _ _ (Ne.symm nzy) hy7.at_, cut_kr hy7.rd fun j e xs n lo fz hj => k8 _ _ (fun he => by rw [he, hR7.at_] at hj; cases hj) hj⟩
        simp only [f1, f4, f5, f6, f7, f8, cA, cA5, cA6, cA7, cA8, c7A, c75, c76, c77, c78, g5, g6, hap, ne6, true_or, e3, bne_self_eq_false, evf,↓evp,evq,evr,fxa0,fxa1,fxa2,fxa3,fxa4,fxu,fxn,fxl,↓fxp,lgc,absL,fitL,flatL,ares,ares1,ofVal,unSc,aload,afill,splice,abound,asI,elems,IntKind.bits,sortT,eqNil,closedL,allByte,patch,pendOK,numA,Value.cells,Value.oneCell',ibin,List.replicate,Option.elim,Nat.reduceAdd,Nat.reduceSub,Nat.reduceMul,Nat.reduceLT,Nat.reduceEqDiff,Nat.reduceLeDiff,Nat.reduceBEq,Int.reduceLE,Int.reduceLT,Int.reduceToNat,Int.reduceBNe,Int.reduceBEq,Int.reduceNeg,Int.reduceEq,Int.reduceNe,Nat.reduceBNe,Int.reduceAdd,Int.reduceSub,Int.reduceMul,Int.reducePow,Nat.reducePow,Int.reduceGT,Int.reduceGE,if_true,if_false,ite_true,ite_false,beq_self_eq_true,BEq.rfl,reduceCtorEq,eq_self,ne_eq,Function.comp_def,beq_iff_eq]
        exact hI' _ _ _ ⟨i + 1, _, L, gs', cls', us, cc', os, sv, cv2, by omega, hil, hi8, rel, gd, hT8, hC7, hR8, hy8, ct8, c78, by simp only [f1, evf, ne_eq, Nat.reduceEqDiff, Nat.reduceLT, not_false_eq_true], by simp only [f4, evf, ne_eq, Nat.reduceEqDiff, Nat.reduceLT, not_false_eq_true], by simp only [f5, evf, ne_eq, Nat.reduceEqDiff, Nat.reduceLT, not_false_eq_true], by simp only [f6, evf, ne_eq, Nat.reduceEqDiff, Nat.reduceLT, not_false_eq_true], by simp only [f7, evf, ne_eq, Nat.reduceEqDiff, Nat.reduceLT, not_false_eq_true], by simp only [evf, ne_eq, Nat.reduceEqDiff, Nat.reduceLT, not_false_eq_true]⟩
  · have d : decide ((i : Int) < C.length) = false := decide_eq_false (by omega)
    simp only [f1, f4, f5, f6, f7, f8, al, d, evf,↓evp,evq,evr,fxa0,fxa1,fxa2,fxa3,fxa4,fxu,fxn,fxl,↓fxp,lgc,absL,fitL,flatL,ares,ares1,ofVal,unSc,aload,afill,splice,abound,asI,elems,IntKind.bits,sortT,eqNil,closedL,allByte,patch,pendOK,numA,Value.cells,Value.oneCell',ibin,List.replicate,Option.elim,Nat.reduceAdd,Nat.reduceSub,Nat.reduceMul,Nat.reduceLT,Nat.reduceEqDiff,Nat.reduceLeDiff,Nat.reduceBEq,Int.reduceLE,Int.reduceLT,Int.reduceToNat,Int.reduceBNe,Int.reduceBEq,Int.reduceNeg,Int.reduceEq,Int.reduceNe,Nat.reduceBNe,Int.reduceAdd,Int.reduceSub,Int.reduceMul,Int.reducePow,Nat.reducePow,Int.reduceGT,Int.reduceGE,if_true,if_false,ite_true,ite_false,beq_self_eq_true,BEq.rfl,reduceCtorEq,eq_self,ne_eq,Function.comp_def,beq_iff_eq]
    obtain ⟨sq, hsq⟩ : ∃ sq, sq = s ++ [Ob.cells [.sc (.int .i64 0)]] := ⟨_, rfl⟩
    have gq : Grw s sq := by rw [hsq]; exact .push _ _
    have nq : sq[s.length]? = some (.cells [.sc (.int .i64 0)]) := by rw [hsq]; exact get_new0 _ _
    have lq : sq.length = s.length + 1 := by rw [hsq]; simp
    have ls : t7 < s.length := (List.getElem?_eq_some_iff.1 c7).1
    rw [← hsq]
    refine t_All (n := n + 10) rfl rfl ?_
    obtain ⟨sa, hsa⟩ : ∃ sa, sa = sq ++ [Ob.cells [.ref tb 0]] := ⟨_, rfl⟩
    have ga : Grw sq sa := by rw [hsa]; exact .push _ _
    have va : sa[sq.length]? = some (.cells [.ref tb 0]) := by rw [hsa]; exact get_new0 _ _
    have lsa : sa.length = sq.length + 1 := by rw [hsa]; simp
    rw [← hsa]
    simp only [f1, f4, f5, f6, f7, f8, evf,↓evp,evq,evr,fxa0,fxa1,fxa2,fxa3,fxa4,fxu,fxn,fxl,↓fxp,lgc,absL,fitL,flatL,ares,ares1,ofVal,unSc,aload,afill,splice,abound,asI,elems,IntKind.bits,sortT,eqNil,closedL,allByte,patch,pendOK,numA,Value.cells,Value.oneCell',ibin,List.replicate,Option.elim,Nat.reduceAdd,Nat.reduceSub,Nat.reduceMul,Nat.reduceLT,Nat.reduceEqDiff,Nat.reduceLeDiff,Nat.reduceBEq,Int.reduceLE,Int.reduceLT,Int.reduceToNat,Int.reduceBNe,Int.reduceBEq,Int.reduceNeg,Int.reduceEq,Int.reduceNe,Nat.reduceBNe,Int.reduceAdd,Int.reduceSub,Int.reduceMul,Int.reducePow,Nat.reducePow,Int.reduceGT,Int.reduceGE,if_true,if_false,ite_true,ite_false,beq_self_eq_true,BEq.rfl,reduceCtorEq,eq_self,ne_eq,Function.comp_def,beq_iff_eq]
    generalize hZ : (sa ++ [_]) = Z
    have gZ : Grw sa Z := by rw [← hZ]; exact .push _ _
    have lZ : Z.length = sa.length + 1 := by rw [← hZ]; simp
    obtain ⟨F, ps, asg, body, hcc, q7, q10, hl0⟩ : ∃ F ps asg body, frf (Try.f13.body.getD .skip) = some (ps, asg, body) ∧ F 7 = .ref t7 0 ∧ F 10 = .ref s.length 0 ∧ Z[sa.length]? = some (.loop .ready none (pl 13) (ofF 125 F) ps.toList asg body) := by
      refine ⟨_, _, _, _, rfl, ?_, ?_, (by rw [← hZ]; exact get_new0 sa _)⟩
      · simp only [f7, evf, ne_eq, Nat.reduceEqDiff, Nat.reduceLT, not_false_eq_true]
      · simp only [evf, ne_eq, Nat.reduceEqDiff, Nat.reduceLT, not_false_eq_true]
    have gsZ : Grw s Z := (gq.trans ga).trans gZ
    have eL : (M.map U.id).length = M.length := List.length_map _
    have hmem : ∀ i, (getI i cls).isSome = true ↔ i ∈ M.map U.id := fun i => by
      rw [isSome_of, List.mem_map]
      constructor
      · rintro ⟨v, hv⟩
        obtain ⟨q, hq, he, _⟩ := (hC.gu _ _).1 hv
        exact ⟨q, hq, he⟩
      · rintro ⟨q, hq, he⟩
        exact ⟨_, (hC.gu _ _).2 ⟨q, hq, he, rfl⟩⟩
    refine t_Each (n := n + 7) (l := sa.length) (rb := sq.length) (ids := M.map U.id) (J := fun _ => False)
      (I := fun r ro k s' => s'[r]? = some ro ∧ Z.length ≤ r ∧ s'[s.length]? = some (.cells [.sc (.int .i64 k)]) ∧ s'[sa.length]? = some (.loop .ready none (pl 13) (ofF 125 F) ps.toList asg body) ∧ s'[sq.length]? = some (.cells [.ref tb 0]) ∧ Grw s s')
      (hT.grw gsZ) (gZ _ _ va) hC.ni hmem gdM.pw gdM.ir (by rw [eL]; exact gdM.len) (by omega) ?_ ?_ ?_ ?_ (fun _ h => h.elim)
    · rintro r ro k s' ⟨i1, i2, i3, i4, i5, i6⟩
      exact ⟨i5, hT.grw i6, i1⟩
    · intro r ro s' g hr1 hr2
      exact ⟨hr2, hr1, g _ _ (gZ _ _ (ga _ _ nq)), g _ _ hl0, g _ _ (gZ _ _ va), gsZ.trans g⟩
    · rintro r ro k hil v s' K' hv ⟨i1, i2, i3, i4, i5, i6⟩ hK1 _
      have hk : k < M.length := by rw [eL] at hil; exact hil
      simp only [List.getElem_map] at hv ⊢
      obtain ⟨q, hq, hqe, rfl⟩ := (hC.gu _ _).1 hv
      obtain rfl : q = M[k] := nodup_in hC.rel.ids hq (List.getElem_mem hk) hqe
      refine ra_yl (n := n + 9) (t7 := t7) (t10 := s.length) (lid := sa.length) (F := F) (p := none) hcc q7 q10 (i6 _ _ c7) i3 (hR.grw i6) hk gdM.len i4 ?_
      intro s'' k1 k2 k3 k4
      exact hK1 _ ⟨k3 _ _ (by omega) (by omega) i1, i2, k1, k2, k3 _ _ (by omega) (by omega) i5, fun j o ho => by
        have lj : j < s.length := (List.getElem?_eq_some_iff.1 ho).1
        exact k3 _ _ (by omega) (by omega) (i6 _ _ ho)⟩
    · rintro r ro s' ⟨i1, i2, i3, i4, i5, i6⟩
      rw [eL] at i3
      refine rfEnd_normal i4 (by decide) ?_
      generalize hsz : s'.set sa.length _ = sz
      have kz : ∀ j o, j ≠ sa.length → s'[j]? = some o → sz[j]? = some o := fun j o hj ho => by rw [← hsz, List.getElem?_set_ne (Ne.symm hj)]; exact ho
      have gz : Grw s sz := fun j o ho => by
        have lj : j < s.length := (List.getElem?_eq_some_iff.1 ho).1
        exact kz _ _ (by omega) (i6 _ _ ho)
      have n3 := kz _ _ (by omega) i3
      have c7z := gz _ _ c7
      have hRz := hR.grw gz
      have z3 := hRz.at_
      have eM : (M.map cOf).length = M.length := List.length_map _
      have alz := alen_rd hRz.rd.1 Try.underlying83
      rw [eM] at alz
      simp only [f1, f4, f5, f6, f7, f8, n3, c7z, z3, alz, beq_self_eq_true, evf,↓evp,evq,evr,fxa0,fxa1,fxa2,fxa3,fxa4,fxu,fxn,fxl,↓fxp,lgc,absL,fitL,flatL,ares,ares1,ofVal,unSc,aload,afill,splice,abound,asI,elems,IntKind.bits,sortT,eqNil,closedL,allByte,patch,pendOK,numA,Value.cells,Value.oneCell',ibin,List.replicate,Option.elim,Nat.reduceAdd,Nat.reduceSub,Nat.reduceMul,Nat.reduceLT,Nat.reduceEqDiff,Nat.reduceLeDiff,Nat.reduceBEq,Int.reduceLE,Int.reduceLT,Int.reduceToNat,Int.reduceBNe,Int.reduceBEq,Int.reduceNeg,Int.reduceEq,Int.reduceNe,Nat.reduceBNe,Int.reduceAdd,Int.reduceSub,Int.reduceMul,Int.reducePow,Nat.reducePow,Int.reduceGT,Int.reduceGE,if_true,if_false,ite_true,ite_false,beq_self_eq_true,BEq.rfl,reduceCtorEq,eq_self,ne_eq,Function.comp_def,beq_iff_eq]
      refine t_Len (n := n + 9) (hT.grw gz) ?_
      rw [hC.len]
      simp only [f1, f4, f5, f6, f7, f8, n3, c7z, z3, alz, beq_self_eq_true, evf,↓evp,evq,evr,fxa0,fxa1,fxa2,fxa3,fxa4,fxu,fxn,fxl,↓fxp,lgc,absL,fitL,flatL,ares,ares1,ofVal,unSc,aload,afill,splice,abound,asI,elems,IntKind.bits,sortT,eqNil,closedL,allByte,patch,pendOK,numA,Value.cells,Value.oneCell',ibin,List.replicate,Option.elim,Nat.reduceAdd,Nat.reduceSub,Nat.reduceMul,Nat.reduceLT,Nat.reduceEqDiff,Nat.reduceLeDiff,Nat.reduceBEq,Int.reduceLE,Int.reduceLT,Int.reduceToNat,Int.reduceBNe,Int.reduceBEq,Int.reduceNeg,Int.reduceEq,Int.reduceNe,Nat.reduceBNe,Int.reduceAdd,Int.reduceSub,Int.reduceMul,Int.reducePow,Nat.reducePow,Int.reduceGT,Int.reduceGE,if_true,if_false,ite_true,ite_false,beq_self_eq_true,BEq.rfl,reduceCtorEq,eq_self,ne_eq,Function.comp_def,beq_iff_eq]
      refine l22_same (n := n + 6) rel gd (hi.grw gz) (hy.grw gz) hm fun s7 g7 => ?_
      simp only [f1, f4, f5, f6, f7, f8, n3, c7z, z3, alz, beq_self_eq_true, g7, true_or, evf,↓evp,evq,evr,fxa0,fxa1,fxa2,fxa3,fxa4,fxu,fxn,fxl,↓fxp,lgc,absL,fitL,flatL,ares,ares1,ofVal,unSc,aload,afill,splice,abound,asI,elems,IntKind.bits,sortT,eqNil,closedL,allByte,patch,pendOK,numA,Value.cells,Value.oneCell',ibin,List.replicate,Option.elim,Nat.reduceAdd,Nat.reduceSub,Nat.reduceMul,Nat.reduceLT,Nat.reduceEqDiff,Nat.reduceLeDiff,Nat.reduceBEq,Int.reduceLE,Int.reduceLT,Int.reduceToNat,Int.reduceBNe,Int.reduceBEq,Int.reduceNeg,Int.reduceEq,Int.reduceNe,Nat.reduceBNe,Int.reduceAdd,Int.reduceSub,Int.reduceMul,Int.reducePow,Nat.reducePow,Int.reduceGT,Int.reduceGE,if_true,if_false,ite_true,ite_false,beq_self_eq_true,BEq.rfl,reduceCtorEq,eq_self,ne_eq,Function.comp_def,beq_iff_eq]
      refine awake22 (n := n + 2) (by omega) fun s8 g8 => ?_
      have ct8 := g8 _ _ (g7 _ _ (gz _ _ ct))
      have b8 : ∀ o, (s8.set st.length o)[st.length]? = some o := fun o => get_set ct8 o
      simp only [f1, f4, f5, f6, f7, f8, g8, true_or, ct8, b8, evf,↓evp,evq,evr,fxa0,fxa1,fxa2,fxa3,fxa4,fxu,fxn,fxl,↓fxp,lgc,absL,fitL,flatL,ares,ares1,ofVal,unSc,aload,afill,splice,abound,asI,elems,IntKind.bits,sortT,eqNil,closedL,allByte,patch,pendOK,numA,Value.cells,Value.oneCell',ibin,List.replicate,Option.elim,Nat.reduceAdd,Nat.reduceSub,Nat.reduceMul,Nat.reduceLT,Nat.reduceEqDiff,Nat.reduceLeDiff,Nat.reduceBEq,Int.reduceLE,Int.reduceLT,Int.reduceToNat,Int.reduceBNe,Int.reduceBEq,Int.reduceNeg,Int.reduceEq,Int.reduceNe,Nat.reduceBNe,Int.reduceAdd,Int.reduceSub,Int.reduceMul,Int.reducePow,Nat.reducePow,Int.reduceGT,Int.reduceGE,if_true,if_false,ite_true,ite_false,beq_self_eq_true,BEq.rfl,reduceCtorEq,eq_self,ne_eq,Function.comp_def,beq_iff_eq]
      exact hK _
end
end Go.Proofs.Ytgmccnnjpejigaa
