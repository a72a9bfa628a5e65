/- Chapter 5: an index, put into. -/
import Derived.Test.YtgmccnnjpejigaaB23
set_option linter.unusedVariables false
set_option linter.unusedSimpArgs false
set_option maxRecDepth 10000
namespace Go.Proofs.Ytgmccnnjpejigaa
open Go Go.M Go.RowKit
attribute [local congr] acallF_cong aloop_cong bcase_cong resK_cong valK_cong wantK_cong callK_cong xputK_cong qputK_cong resM_cong rfK_cong
attribute [local irreducible] seqK blockK loopK nextK bcase resK valK wantK funK putK dputK xputK qputK callK aops aop acode adraw aloop acallF acall invK resM rfK rfEnd rdEnd rdMid around
section
variable {us : List (Int × V)} {os : List ((Int × Int) × V)} {L : List U}
theorem Rel.int (h : Rel us os L) : ∀ c v, getC c os = some v → ∃ i, v = .sc (.int .i64 i) := fun c v hc => by
  obtain ⟨a, b⟩ := c
  obtain ⟨p, _, _, rfl⟩ := (h.go _ _ _).1 hc
  exact ⟨_, rfl⟩
theorem Rel.rcs (h : Rel us os L) : ∀ i v, getI i us = some v → ∃ u ∈ L, u.id = i ∧ v = .agg (rc u.x u.y u.w u.h) := fun i v hv => (h.gu _ _).1 hv
/-- Whom a rectangle meets. -/
theorem Rel.meets (h : Rel us os L) (sb : Int → Bool) {x y : Int} {W H : Nat} (hm : mayB x y W H = true) (hW : W ≤ 4) (hH : H ≤ 4) : anyB sb os x y W (H * W) = L.any fun p => sb p.id && meetsR x y W H p := by
  obtain ⟨_, _, h3, h4, _⟩ := may_facts hm
  have hv : valB ⟨0, x, y, W, H⟩ = true := by
    simp only [valB, hm, Bool.true_and, Bool.and_eq_true, decide_eq_true_eq]; omega
  rw [Bool.eq_iff_iff, h.hits sb x y W H (by omega), List.any_eq_true]
  constructor
  · rintro ⟨p, hp, hsb, a, b, h1, h2⟩
    refine ⟨p, hp, ?_⟩
    rw [hsb, Bool.true_and]
    exact (meet_in hv (h.val p hp)).2 ⟨a, b, h1, by simpa [inU] using h2⟩
  · rintro ⟨p, hp, hh⟩
    rw [Bool.and_eq_true] at hh
    obtain ⟨a, b, h1, h2⟩ := (meet_in hv (h.val p hp)).1 hh.2
    exact ⟨p, hp, hh.1, a, b, h1, by simpa [inU] using h2⟩
end
/-- What Put tells. -/
def putR (L : List U) (id x y w h : Int) : Int :=
  if mayB x y w h = false ∨ w > 4 ∨ h > 4 then 1 else if placeI id L 0 ≥ 0 then 8 else if 256 ≤ L.length then 2 else if L.any (meetsR x y w h) = true then 6 else 0
section
variable {n m : Nat} {st s : List Ob} {K : V → List Ob → Prop} {ix a b : Nat} {us : List (Int × V)} {os : List ((Int × Int) × V)} {L : List U} {x y w h id : Int}
set_option maxHeartbeats 4000000 in
theorem o_Put (hr : Rel us os L) (hi : Ix st ix a b us os) (hab : a ≠ b) (hm : 4 < m)
    (hK1 : putR L id x y w h ≠ 0 → ∀ s, Grw st s → K (.sc (.int .i64 (putR L id x y w h))) s)
    (hK0 : putR L id x y w h = 0 → valB ⟨id, x, y, w, h⟩ = true → getI id us = none → (¬ ∃ p ∈ L, ∃ a b, inU p a b ∧ inU ⟨id, x, y, w, h⟩ a b) → L.length < 256 → ∀ s, Ix s ix a b (putI id (.agg (rc x y w h)) us) (fillC (.sc (.int .i64 id)) x y w.toNat os (h.toNat * w.toNat)) → Kp a b st s → K (.sc (.int .i64 0)) s) :
    acallF Try.prog pl (n + 6) m 21 [.ref ix 0, .sc (.int .i64 id), .agg (rc x y w h)] st K := by
  refine acallF_inF Try.func21 rfl rfl Try.ntmps21 (by simp) ?_
  have g1 := Grw.push st [Ob.cells (rc x y w h)]
  have c0 : (st ++ [Ob.cells (rc x y w h)])[st.length]? = some (.cells (rc x y w h)) := get_new0 _ _
  have hi1 := hi.grw g1
  have i1 := hi1.ix
  simp only [rc] at c0 g1 i1 hi1
  simp only [rc, evf,↓evp,evq,evr,fxa0,fxa1,fxa2,fxa3,fxa4,fxu,fxn,fxl,↓fxp,lgc,absL,fitL,flatL,ares,ares1,ofVal,unSc,aload,afill,splice,abound,asI,elems,IntKind.bits,sortT,eqNil,closedL,allByte,patch,pendOK,numA,Value.cells,Value.oneCell',ibin,List.replicate,Option.elim,Nat.reduceAdd,Nat.reduceSub,Nat.reduceMul,Nat.reduceLT,Nat.reduceEqDiff,Nat.reduceLeDiff,Nat.reduceBEq,Int.reduceLE,Int.reduceLT,Int.reduceToNat,Int.reduceBNe,Int.reduceBEq,Int.reduceNeg,Int.reduceEq,Int.reduceNe,Nat.reduceBNe,Int.reduceAdd,Int.reduceSub,Int.reduceMul,Int.reducePow,Nat.reducePow,Int.reduceGT,Int.reduceGE,if_true,if_false,ite_true,ite_false,beq_self_eq_true,BEq.rfl,reduceCtorEq,eq_self,ne_eq,Function.comp_def,beq_iff_eq]
  refine o_is1 (n := n + 4) hi1 ?_
  simp only [c0, evf,↓evp,evq,evr,fxa0,fxa1,fxa2,fxa3,fxa4,fxu,fxn,fxl,↓fxp,lgc,absL,fitL,flatL,ares,ares1,ofVal,unSc,aload,afill,splice,abound,asI,elems,IntKind.bits,sortT,eqNil,closedL,allByte,patch,pendOK,numA,Value.cells,Value.oneCell',ibin,List.replicate,Option.elim,Nat.reduceAdd,Nat.reduceSub,Nat.reduceMul,Nat.reduceLT,Nat.reduceEqDiff,Nat.reduceLeDiff,Nat.reduceBEq,Int.reduceLE,Int.reduceLT,Int.reduceToNat,Int.reduceBNe,Int.reduceBEq,Int.reduceNeg,Int.reduceEq,Int.reduceNe,Nat.reduceBNe,Int.reduceAdd,Int.reduceSub,Int.reduceMul,Int.reducePow,Nat.reducePow,Int.reduceGT,Int.reduceGE,if_true,if_false,ite_true,ite_false,beq_self_eq_true,BEq.rfl,reduceCtorEq,eq_self,ne_eq,Function.comp_def,beq_iff_eq]
  refine c_May (n := n + 2) fun s2 g2 => ?_
  have c2 := g2 _ _ c0
  have hi2 := hi1.grw g2
  have i2 := hi2.ix
  have gg2 := g1.trans g2
  unfold putR at hK0 hK1
  cases e1 : mayB x y w h
  case false =>
    rw [if_pos (.inl e1)] at hK1
    simp only [c2, evf,↓evp,evq,evr,fxa0,fxa1,fxa2,fxa3,fxa4,fxu,fxn,fxl,↓fxp,lgc,absL,fitL,flatL,ares,ares1,ofVal,unSc,aload,afill,splice,abound,asI,elems,IntKind.bits,sortT,eqNil,closedL,allByte,patch,pendOK,numA,Value.cells,Value.oneCell',ibin,List.replicate,Option.elim,Nat.reduceAdd,Nat.reduceSub,Nat.reduceMul,Nat.reduceLT,Nat.reduceEqDiff,Nat.reduceLeDiff,Nat.reduceBEq,Int.reduceLE,Int.reduceLT,Int.reduceToNat,Int.reduceBNe,Int.reduceBEq,Int.reduceNeg,Int.reduceEq,Int.reduceNe,Nat.reduceBNe,Int.reduceAdd,Int.reduceSub,Int.reduceMul,Int.reducePow,Nat.reducePow,Int.reduceGT,Int.reduceGE,if_true,if_false,ite_true,ite_false,beq_self_eq_true,BEq.rfl,reduceCtorEq,eq_self,ne_eq,Function.comp_def,beq_iff_eq]
    exact hK1 (by decide) _ gg2
  cases e2 : decide (w > 4)
  case true =>
    rw [if_pos (.inr (.inl (of_decide_eq_true e2)))] at hK1
    simp only [c2, e2, evf,↓evp,evq,evr,fxa0,fxa1,fxa2,fxa3,fxa4,fxu,fxn,fxl,↓fxp,lgc,absL,fitL,flatL,ares,ares1,ofVal,unSc,aload,afill,splice,abound,asI,elems,IntKind.bits,sortT,eqNil,closedL,allByte,patch,pendOK,numA,Value.cells,Value.oneCell',ibin,List.replicate,Option.elim,Nat.reduceAdd,Nat.reduceSub,Nat.reduceMul,Nat.reduceLT,Nat.reduceEqDiff,Nat.reduceLeDiff,Nat.reduceBEq,Int.reduceLE,Int.reduceLT,Int.reduceToNat,Int.reduceBNe,Int.reduceBEq,Int.reduceNeg,Int.reduceEq,Int.reduceNe,Nat.reduceBNe,Int.reduceAdd,Int.reduceSub,Int.reduceMul,Int.reducePow,Nat.reducePow,Int.reduceGT,Int.reduceGE,if_true,if_false,ite_true,ite_false,beq_self_eq_true,BEq.rfl,reduceCtorEq,eq_self,ne_eq,Function.comp_def,beq_iff_eq]
    exact hK1 (by decide) _ gg2
  cases e3 : decide (h > 4)
  case true =>
    rw [if_pos (.inr (.inr (of_decide_eq_true e3)))] at hK1
    simp only [c2, e2, e3, evf,↓evp,evq,evr,fxa0,fxa1,fxa2,fxa3,fxa4,fxu,fxn,fxl,↓fxp,lgc,absL,fitL,flatL,ares,ares1,ofVal,unSc,aload,afill,splice,abound,asI,elems,IntKind.bits,sortT,eqNil,closedL,allByte,patch,pendOK,numA,Value.cells,Value.oneCell',ibin,List.replicate,Option.elim,Nat.reduceAdd,Nat.reduceSub,Nat.reduceMul,Nat.reduceLT,Nat.reduceEqDiff,Nat.reduceLeDiff,Nat.reduceBEq,Int.reduceLE,Int.reduceLT,Int.reduceToNat,Int.reduceBNe,Int.reduceBEq,Int.reduceNeg,Int.reduceEq,Int.reduceNe,Nat.reduceBNe,Int.reduceAdd,Int.reduceSub,Int.reduceMul,Int.reducePow,Nat.reducePow,Int.reduceGT,Int.reduceGE,if_true,if_false,ite_true,ite_false,beq_self_eq_true,BEq.rfl,reduceCtorEq,eq_self,ne_eq,Function.comp_def,beq_iff_eq]
    exact hK1 (by decide) _ gg2
  have w4 := of_decide_eq_false e2
  have h4 := of_decide_eq_false e3
  have hn : ¬ (mayB x y w h = false ∨ w > 4 ∨ h > 4) := by rw [e1]; simp; omega
  rw [if_neg hn] at hK0 hK1
  have l2 := lk_int (e := 34) (z := .agg [.sc (.int .i64 0), .sc (.int .i64 0), .sc (.int .i64 0), .sc (.int .i64 0)]) Try.underlying59 (by kernel_rfl) hi2.us id
  have g3 := fun X => Grw.push s2 X
  have c3 := fun X => g3 X _ _ c2
  have i3 := fun X => (hi2.grw (g3 X)).ix
  have n3 := fun X => mlen_at Try.underlying59 (hi2.grw (g3 X)).us
  simp only [esI, List.length_map] at n3
  rcases hr.find id with ⟨f1, f2⟩ | ⟨i, hil, f1, f2, f3⟩
  case inr =>
    rw [if_pos (by rw [f1]; omega)] at hK1
    simp only [f3, rc] at l2
    simp only [c2, e2, e3, i2, l2, i3, n3, c3, evf,↓evp,evq,evr,fxa0,fxa1,fxa2,fxa3,fxa4,fxu,fxn,fxl,↓fxp,lgc,absL,fitL,flatL,ares,ares1,ofVal,unSc,aload,afill,splice,abound,asI,elems,IntKind.bits,sortT,eqNil,closedL,allByte,patch,pendOK,numA,Value.cells,Value.oneCell',ibin,List.replicate,Option.elim,Nat.reduceAdd,Nat.reduceSub,Nat.reduceMul,Nat.reduceLT,Nat.reduceEqDiff,Nat.reduceLeDiff,Nat.reduceBEq,Int.reduceLE,Int.reduceLT,Int.reduceToNat,Int.reduceBNe,Int.reduceBEq,Int.reduceNeg,Int.reduceEq,Int.reduceNe,Nat.reduceBNe,Int.reduceAdd,Int.reduceSub,Int.reduceMul,Int.reducePow,Nat.reducePow,Int.reduceGT,Int.reduceGE,if_true,if_false,ite_true,ite_false,beq_self_eq_true,BEq.rfl,reduceCtorEq,eq_self,ne_eq,Function.comp_def,beq_iff_eq]
    exact hK1 (by decide) _ (gg2.trans (g3 _))
  rw [if_neg (by rw [f2]; decide)] at hK0 hK1
  simp only [f1] at l2
  rw [← hr.len] at hK0 hK1
  cases e5 : decide ((us.length : Int) ≥ 256)
  case true =>
    have := of_decide_eq_true e5
    rw [if_pos (by omega)] at hK1
    simp only [c2, e2, e3, i2, l2, i3, n3, c3, e5, evf,↓evp,evq,evr,fxa0,fxa1,fxa2,fxa3,fxa4,fxu,fxn,fxl,↓fxp,lgc,absL,fitL,flatL,ares,ares1,ofVal,unSc,aload,afill,splice,abound,asI,elems,IntKind.bits,sortT,eqNil,closedL,allByte,patch,pendOK,numA,Value.cells,Value.oneCell',ibin,List.replicate,Option.elim,Nat.reduceAdd,Nat.reduceSub,Nat.reduceMul,Nat.reduceLT,Nat.reduceEqDiff,Nat.reduceLeDiff,Nat.reduceBEq,Int.reduceLE,Int.reduceLT,Int.reduceToNat,Int.reduceBNe,Int.reduceBEq,Int.reduceNeg,Int.reduceEq,Int.reduceNe,Nat.reduceBNe,Int.reduceAdd,Int.reduceSub,Int.reduceMul,Int.reducePow,Nat.reducePow,Int.reduceGT,Int.reduceGE,if_true,if_false,ite_true,ite_false,beq_self_eq_true,BEq.rfl,reduceCtorEq,eq_self,ne_eq,Function.comp_def,beq_iff_eq]
    exact hK1 (by decide) _ (gg2.trans (g3 _))
  have u5 : ¬ 256 ≤ us.length := by have := of_decide_eq_false e5; omega
  rw [if_neg u5] at hK0 hK1
  simp only [c2, e2, e3, i2, l2, i3, n3, c3, e5, evf,↓evp,evq,evr,fxa0,fxa1,fxa2,fxa3,fxa4,fxu,fxn,fxl,↓fxp,lgc,absL,fitL,flatL,ares,ares1,ofVal,unSc,aload,afill,splice,abound,asI,elems,IntKind.bits,sortT,eqNil,closedL,allByte,patch,pendOK,numA,Value.cells,Value.oneCell',ibin,List.replicate,Option.elim,Nat.reduceAdd,Nat.reduceSub,Nat.reduceMul,Nat.reduceLT,Nat.reduceEqDiff,Nat.reduceLeDiff,Nat.reduceBEq,Int.reduceLE,Int.reduceLT,Int.reduceToNat,Int.reduceBNe,Int.reduceBEq,Int.reduceNeg,Int.reduceEq,Int.reduceNe,Nat.reduceBNe,Int.reduceAdd,Int.reduceSub,Int.reduceMul,Int.reducePow,Nat.reducePow,Int.reduceGT,Int.reduceGE,if_true,if_false,ite_true,ite_false,beq_self_eq_true,BEq.rfl,reduceCtorEq,eq_self,ne_eq,Function.comp_def,beq_iff_eq]
  obtain ⟨_, _, f3, f4, _⟩ := may_facts e1
  obtain ⟨W, rfl⟩ := Int.eq_ofNat_of_zero_le (show 0 ≤ w by omega)
  obtain ⟨H, rfl⟩ := Int.eq_ofNat_of_zero_le (show 0 ≤ h by omega)
  simp only [Int.toNat_natCast] at hK0
  have hWH : W * H ≤ 64 := Nat.le_trans (Nat.mul_le_mul (show W ≤ 4 by omega) (show H ≤ 4 by omega)) (by decide)
  have me := hr.meets (fun _ => true) e1 (show W ≤ 4 by omega) (show H ≤ 4 by omega)
  simp only [Bool.true_and] at me
  refine o_meets (n := n) (sb := fun _ => true) (g := 62) (caps := []) (by rw [fsz]; decide) hr.int (hi2.grw (g3 _)) hWH e1 (by omega) (by omega) ?_ fun s4 g4 => ?_
  · intro i s3 j3 K' hK'
    refine acallF_inF Try.func62 rfl rfl Try.ntmps62 (by simp) ?_
    simp only [evf,↓evp,evq,evr,fxa0,fxa1,fxa2,fxa3,fxa4,fxu,fxn,fxl,↓fxp,lgc,absL,fitL,flatL,ares,ares1,ofVal,unSc,aload,afill,splice,abound,asI,elems,IntKind.bits,sortT,eqNil,closedL,allByte,patch,pendOK,numA,Value.cells,Value.oneCell',ibin,List.replicate,Option.elim,Nat.reduceAdd,Nat.reduceSub,Nat.reduceMul,Nat.reduceLT,Nat.reduceEqDiff,Nat.reduceLeDiff,Nat.reduceBEq,Int.reduceLE,Int.reduceLT,Int.reduceToNat,Int.reduceBNe,Int.reduceBEq,Int.reduceNeg,Int.reduceEq,Int.reduceNe,Nat.reduceBNe,Int.reduceAdd,Int.reduceSub,Int.reduceMul,Int.reducePow,Nat.reducePow,Int.reduceGT,Int.reduceGE,if_true,if_false,ite_true,ite_false,beq_self_eq_true,BEq.rfl,reduceCtorEq,eq_self,ne_eq,Function.comp_def,beq_iff_eq]
    exact hK'
  rw [me]
  cases e6 : L.any (meetsR x y W H)
  case true =>
    rw [e6, if_pos rfl] at hK1
    simp only [evf,↓evp,evq,evr,fxa0,fxa1,fxa2,fxa3,fxa4,fxu,fxn,fxl,↓fxp,lgc,absL,fitL,flatL,ares,ares1,ofVal,unSc,aload,afill,splice,abound,asI,elems,IntKind.bits,sortT,eqNil,closedL,allByte,patch,pendOK,numA,Value.cells,Value.oneCell',ibin,List.replicate,Option.elim,Nat.reduceAdd,Nat.reduceSub,Nat.reduceMul,Nat.reduceLT,Nat.reduceEqDiff,Nat.reduceLeDiff,Nat.reduceBEq,Int.reduceLE,Int.reduceLT,Int.reduceToNat,Int.reduceBNe,Int.reduceBEq,Int.reduceNeg,Int.reduceEq,Int.reduceNe,Nat.reduceBNe,Int.reduceAdd,Int.reduceSub,Int.reduceMul,Int.reducePow,Nat.reducePow,Int.reduceGT,Int.reduceGE,if_true,if_false,ite_true,ite_false,beq_self_eq_true,BEq.rfl,reduceCtorEq,eq_self,ne_eq,Function.comp_def,beq_iff_eq]
    exact hK1 (by decide) _ ((gg2.trans (g3 _)).trans g4)
  have hx : ((L.any fun p => meetsR x y W H p) = true) = False := by rw [e6]; simp
  simp only [hx, if_false] at hK0
  have hv : valB ⟨id, x, y, W, H⟩ = true := by simp only [valB, e1, Bool.true_and, Bool.and_eq_true, decide_eq_true_eq]; omega
  have c4 := g4 _ _ (c3 _)
  simp only [c4, evf,↓evp,evq,evr,fxa0,fxa1,fxa2,fxa3,fxa4,fxu,fxn,fxl,↓fxp,lgc,absL,fitL,flatL,ares,ares1,ofVal,unSc,aload,afill,splice,abound,asI,elems,IntKind.bits,sortT,eqNil,closedL,allByte,patch,pendOK,numA,Value.cells,Value.oneCell',ibin,List.replicate,Option.elim,Nat.reduceAdd,Nat.reduceSub,Nat.reduceMul,Nat.reduceLT,Nat.reduceEqDiff,Nat.reduceLeDiff,Nat.reduceBEq,Int.reduceLE,Int.reduceLT,Int.reduceToNat,Int.reduceBNe,Int.reduceBEq,Int.reduceNeg,Int.reduceEq,Int.reduceNe,Nat.reduceBNe,Int.reduceAdd,Int.reduceSub,Int.reduceMul,Int.reducePow,Nat.reducePow,Int.reduceGT,Int.reduceGE,if_true,if_false,ite_true,ite_false,beq_self_eq_true,BEq.rfl,reduceCtorEq,eq_self,ne_eq,Function.comp_def,beq_iff_eq]
  refine o_set (n := n) ((hi2.grw (g3 _)).grw g4) hab e1 (by omega) (by omega) fun s5 h5 k5 => ?_
  simp only [evf,↓evp,evq,evr,fxa0,fxa1,fxa2,fxa3,fxa4,fxu,fxn,fxl,↓fxp,lgc,absL,fitL,flatL,ares,ares1,ofVal,unSc,aload,afill,splice,abound,asI,elems,IntKind.bits,sortT,eqNil,closedL,allByte,patch,pendOK,numA,Value.cells,Value.oneCell',ibin,List.replicate,Option.elim,Nat.reduceAdd,Nat.reduceSub,Nat.reduceMul,Nat.reduceLT,Nat.reduceEqDiff,Nat.reduceLeDiff,Nat.reduceBEq,Int.reduceLE,Int.reduceLT,Int.reduceToNat,Int.reduceBNe,Int.reduceBEq,Int.reduceNeg,Int.reduceEq,Int.reduceNe,Nat.reduceBNe,Int.reduceAdd,Int.reduceSub,Int.reduceMul,Int.reducePow,Nat.reducePow,Int.reduceGT,Int.reduceGE,if_true,if_false,ite_true,ite_false,beq_self_eq_true,BEq.rfl,reduceCtorEq,eq_self,ne_eq,Function.comp_def,beq_iff_eq]
  refine hK0 trivial hv f1 ?_ (by omega) _ h5 fun j o ja jb h => k5 j o ja jb (g4 _ _ (g3 _ _ _ (gg2 _ _ h)))
  rintro ⟨p, hp, hab'⟩
  have := (meet_in hv (hr.val p hp)).2 hab'
  rw [Bool.eq_false_iff] at e6
  exact e6 (List.any_eq_true.2 ⟨p, hp, this⟩)
end
end Go.Proofs.Ytgmccnnjpejigaa
