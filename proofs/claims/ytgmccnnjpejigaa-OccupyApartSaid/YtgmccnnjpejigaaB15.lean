/- Chapter 22: a table of claims: the fixed question. -/
import Derived.Test.YtgmccnnjpejigaaB14
set_option linter.unusedVariables false
set_option linter.unusedSimpArgs false
set_option maxRecDepth 10000
namespace Go.Proofs.Ytgmccnnjpejigaa
open Go Go.M Go.RowKit
attribute [local congr] acallF_cong aloop_cong bcase_cong resK_cong valK_cong wantK_cong callK_cong xputK_cong qputK_cong resM_cong rfK_cong
attribute [local irreducible] seqK blockK loopK nextK bcase resK valK wantK funK putK dputK xputK qputK callK aops aop acode adraw aloop acallF acall invK resM rfK rfEnd rdEnd rdMid around
/-- What is no map stays. -/
def Km (s s' : List Ob) : Prop := ∀ (j : Nat) (o : Ob), (∀ es, o ≠ Ob.map es) → s[j]? = some o → s'[j]? = some o
theorem grw_km {s s' : List Ob} (h : Grw s s') : Km s s' := fun j o _ k => h j o k
theorem km_trans {s s' s'' : List Ob} (h : Km s s') (k : Km s' s'') : Km s s'' := fun j o hn hj => k j o hn (h j o hn hj)
theorem kp_km {a b : Nat} {s s' : List Ob} {x y : List (Value × V)} (h : Kp a b s s') (ha : s[a]? = some (.map x)) (hb : s[b]? = some (.map y)) : Km s s' := fun j o hn hj =>
  h j o (fun he => by subst he; rw [ha] at hj; cases hj; exact hn _ rfl) (fun he => by subst he; rw [hb] at hj; cases hj; exact hn _ rfl) hj
theorem rd_km {P : Program} {st s : List Ob} {e : TypeId} {v : V} {xs : List V} {n : Nat} (h : Rd P st e v xs n) (k : Km st s) : Rd P s e v xs n := by
  rcases h.cases with ⟨nil, full, rfl⟩ | ⟨id, off, full, gg, ys, m, lo, fz, sz, rfl, k1, k2, k3, hxs⟩
  · exact h
  · refine ⟨?_, h.2⟩
    have := h.1
    simp only [elems, k1, k2] at this
    simp only [elems, k _ _ (fun es he => by cases he) k1, k2]
    exact this
theorem cut_km {P : Program} {st s : List Ob} {e : TypeId} {v : V} {xs : List V} {n : Nat} (h : Cut P st e v xs n) (k : Km st s) : Cut P s e v xs n := by
  refine ⟨rd_km h.1 k, ?_, h.2.2⟩
  rcases h.2.1 with ⟨xs, n, nil, f, rfl⟩ | ⟨id, off, n, gg, rfl⟩
  · exact .inl ⟨_, _, _, _, rfl⟩
  · exact .inr ⟨_, _, _, _, rfl⟩
section
variable {n m : Nat} {st s : List Ob} {K : V → List Ob → Prop} {ix a b : Nat} {us : List (Int × V)} {os : List ((Int × Int) × V)} {x y w h id : Int} {W H : Nat} {sv : V} {L : List U} {iy : Nat}
theorem Ri.km (h : Ri st iy sv L) (k : Km st s) : Ri s iy sv L := ⟨k _ _ (fun es he => by cases he) h.at_, cut_km h.rd k⟩
theorem Ix.fr (h : Ix st ix a b us os) (hy : st[iy]? = some (.cells [sv])) (k : ∀ j o, j ≠ iy → st[j]? = some o → s[j]? = some o) : Ix s ix a b us os :=
  ⟨k _ _ (fun he => by have h1 := h.ix; rw [he, hy] at h1; cases h1) h.ix, k _ _ (fun he => by have h1 := h.us; rw [he, hy] at h1; cases h1) h.us, k _ _ (fun he => by have h1 := h.os; rw [he, hy] at h1; cases h1) h.os⟩
/-- Find, where the unit is. -/
theorem o_Find1 (hi : Ix st ix a b us os) (hg : getI id us = some (.agg (rc x y w h))) (hK : ∀ s, Grw st s → K (.tup [.agg (rc x y w h), .sc (.bool true)]) s) : acallF Try.prog pl (n + 2) m 26 [.ref ix 0, .sc (.int .i64 id)] st K := by
  refine acallF_inF Try.func26 rfl rfl Try.ntmps26 (by simp) ?_
  have g1 := fun X => hi.grw (Grw.push st X)
  have i1 := fun X => (g1 X).ix
  have l1 := fun X => lk_int (e := 34) (z := .agg (rc 0 0 0 0)) Try.underlying59 (by kernel_rfl) (g1 X).us id
  simp only [hg, rc] at i1 l1
  simp only [rc, evf,↓evp,evq,evr,fxa0,fxa1,fxa2,fxa3,fxa4,fxu,fxn,fxl,↓fxp,lgc,absL,fitL,flatL,ares,ares1,ofVal,unSc,aload,afill,splice,abound,asI,elems,IntKind.bits,sortT,eqNil,closedL,allByte,patch,pendOK,numA,Value.cells,Value.oneCell',ibin,List.replicate,Option.elim,Nat.reduceAdd,Nat.reduceSub,Nat.reduceMul,Nat.reduceLT,Nat.reduceEqDiff,Nat.reduceLeDiff,Nat.reduceBEq,Int.reduceLE,Int.reduceLT,Int.reduceToNat,Int.reduceBNe,Int.reduceBEq,Int.reduceNeg,Int.reduceEq,Int.reduceNe,Nat.reduceBNe,Int.reduceAdd,Int.reduceSub,Int.reduceMul,Int.reducePow,Nat.reducePow,Int.reduceGT,Int.reduceGE,if_true,if_false,ite_true,ite_false,beq_self_eq_true,BEq.rfl,reduceCtorEq,eq_self,ne_eq,Function.comp_def,beq_iff_eq]
  refine o_is1 (g1 _) ?_
  simp only [i1, l1, get_new, get_new0, M.set_new0, evf,↓evp,evq,evr,fxa0,fxa1,fxa2,fxa3,fxa4,fxu,fxn,fxl,↓fxp,lgc,absL,fitL,flatL,ares,ares1,ofVal,unSc,aload,afill,splice,abound,asI,elems,IntKind.bits,sortT,eqNil,closedL,allByte,patch,pendOK,numA,Value.cells,Value.oneCell',ibin,List.replicate,Option.elim,Nat.reduceAdd,Nat.reduceSub,Nat.reduceMul,Nat.reduceLT,Nat.reduceEqDiff,Nat.reduceLeDiff,Nat.reduceBEq,Int.reduceLE,Int.reduceLT,Int.reduceToNat,Int.reduceBNe,Int.reduceBEq,Int.reduceNeg,Int.reduceEq,Int.reduceNe,Nat.reduceBNe,Int.reduceAdd,Int.reduceSub,Int.reduceMul,Int.reducePow,Nat.reducePow,Int.reduceGT,Int.reduceGE,if_true,if_false,ite_true,ite_false,beq_self_eq_true,BEq.rfl,reduceCtorEq,eq_self,ne_eq,Function.comp_def,beq_iff_eq]
  exact hK _ (Grw.push _ _)
/-- Free, of a small rectangle. -/
theorem o_Free1 (hint : ∀ c v, getC c os = some v → ∃ i, v = .sc (.int .i64 i)) (hi : Ix st ix a b us os) (hsm : W * H ≤ 64) (hm : W < m) (hm2 : H < m)
    (hK : ∀ s, Grw st s → K (.sc (.bool (mayB x y W H && !anyB (fun i => i != id) os x y W (H * W)))) s) : acallF Try.prog pl (n + 6) m 30 [.ref ix 0, .agg (rc x y W H), .sc (.int .i64 id)] st K := by
  refine acallF_inF Try.func30 rfl rfl Try.ntmps30 (by simp) ?_
  have g1 := fun X => hi.grw (Grw.push st X)
  simp only [rc, evf,↓evp,evq,evr,fxa0,fxa1,fxa2,fxa3,fxa4,fxu,fxn,fxl,↓fxp,lgc,absL,fitL,flatL,ares,ares1,ofVal,unSc,aload,afill,splice,abound,asI,elems,IntKind.bits,sortT,eqNil,closedL,allByte,patch,pendOK,numA,Value.cells,Value.oneCell',ibin,List.replicate,Option.elim,Nat.reduceAdd,Nat.reduceSub,Nat.reduceMul,Nat.reduceLT,Nat.reduceEqDiff,Nat.reduceLeDiff,Nat.reduceBEq,Int.reduceLE,Int.reduceLT,Int.reduceToNat,Int.reduceBNe,Int.reduceBEq,Int.reduceNeg,Int.reduceEq,Int.reduceNe,Nat.reduceBNe,Int.reduceAdd,Int.reduceSub,Int.reduceMul,Int.reducePow,Nat.reducePow,Int.reduceGT,Int.reduceGE,if_true,if_false,ite_true,ite_false,beq_self_eq_true,BEq.rfl,reduceCtorEq,eq_self,ne_eq,Function.comp_def,beq_iff_eq]
  refine o_is1 (n := n + 4) (g1 _) ?_
  simp only [get_new, get_new0, evf,↓evp,evq,evr,fxa0,fxa1,fxa2,fxa3,fxa4,fxu,fxn,fxl,↓fxp,lgc,absL,fitL,flatL,ares,ares1,ofVal,unSc,aload,afill,splice,abound,asI,elems,IntKind.bits,sortT,eqNil,closedL,allByte,patch,pendOK,numA,Value.cells,Value.oneCell',ibin,List.replicate,Option.elim,Nat.reduceAdd,Nat.reduceSub,Nat.reduceMul,Nat.reduceLT,Nat.reduceEqDiff,Nat.reduceLeDiff,Nat.reduceBEq,Int.reduceLE,Int.reduceLT,Int.reduceToNat,Int.reduceBNe,Int.reduceBEq,Int.reduceNeg,Int.reduceEq,Int.reduceNe,Nat.reduceBNe,Int.reduceAdd,Int.reduceSub,Int.reduceMul,Int.reducePow,Nat.reducePow,Int.reduceGT,Int.reduceGE,if_true,if_false,ite_true,ite_false,beq_self_eq_true,BEq.rfl,reduceCtorEq,eq_self,ne_eq,Function.comp_def,beq_iff_eq]
  refine c_May (n := n + 2) fun s1 j1 => ?_
  have j1' := j1
  have k0 := j1 _ _ (get_new0 _ _)
  have k1 := j1 _ _ (get_new _ _ 1)
  cases hmay : mayB x y W H
  · simp only [hmay, Bool.false_and] at hK
    simp only [evf,↓evp,evq,evr,fxa0,fxa1,fxa2,fxa3,fxa4,fxu,fxn,fxl,↓fxp,lgc,absL,fitL,flatL,ares,ares1,ofVal,unSc,aload,afill,splice,abound,asI,elems,IntKind.bits,sortT,eqNil,closedL,allByte,patch,pendOK,numA,Value.cells,Value.oneCell',ibin,List.replicate,Option.elim,Nat.reduceAdd,Nat.reduceSub,Nat.reduceMul,Nat.reduceLT,Nat.reduceEqDiff,Nat.reduceLeDiff,Nat.reduceBEq,Int.reduceLE,Int.reduceLT,Int.reduceToNat,Int.reduceBNe,Int.reduceBEq,Int.reduceNeg,Int.reduceEq,Int.reduceNe,Nat.reduceBNe,Int.reduceAdd,Int.reduceSub,Int.reduceMul,Int.reducePow,Nat.reducePow,Int.reduceGT,Int.reduceGE,if_true,if_false,ite_true,ite_false,beq_self_eq_true,BEq.rfl,reduceCtorEq,eq_self,ne_eq,Function.comp_def,beq_iff_eq]
    exact hK _ ((Grw.push _ _).trans j1)
  simp only [k0, k1, evf,↓evp,evq,evr,fxa0,fxa1,fxa2,fxa3,fxa4,fxu,fxn,fxl,↓fxp,lgc,absL,fitL,flatL,ares,ares1,ofVal,unSc,aload,afill,splice,abound,asI,elems,IntKind.bits,sortT,eqNil,closedL,allByte,patch,pendOK,numA,Value.cells,Value.oneCell',ibin,List.replicate,Option.elim,Nat.reduceAdd,Nat.reduceSub,Nat.reduceMul,Nat.reduceLT,Nat.reduceEqDiff,Nat.reduceLeDiff,Nat.reduceBEq,Int.reduceLE,Int.reduceLT,Int.reduceToNat,Int.reduceBNe,Int.reduceBEq,Int.reduceNeg,Int.reduceEq,Int.reduceNe,Nat.reduceBNe,Int.reduceAdd,Int.reduceSub,Int.reduceMul,Int.reducePow,Nat.reducePow,Int.reduceGT,Int.reduceGE,if_true,if_false,ite_true,ite_false,beq_self_eq_true,BEq.rfl,reduceCtorEq,eq_self,ne_eq,Function.comp_def,beq_iff_eq]
  refine o_meets (n := n) (sb := fun i => i != id) (by rw [fsz]; decide) hint ((g1 _).grw j1) hsm hmay hm hm2 ?_ fun s2 j2 => ?_
  · intro i s3 j3 K' hK'
    have k2 := j3 _ _ k1
    refine acallF_inF Try.func71 rfl rfl Try.ntmps71 (by simp) ?_
    simp only [k2, evf,↓evp,evq,evr,fxa0,fxa1,fxa2,fxa3,fxa4,fxu,fxn,fxl,↓fxp,lgc,absL,fitL,flatL,ares,ares1,ofVal,unSc,aload,afill,splice,abound,asI,elems,IntKind.bits,sortT,eqNil,closedL,allByte,patch,pendOK,numA,Value.cells,Value.oneCell',ibin,List.replicate,Option.elim,Nat.reduceAdd,Nat.reduceSub,Nat.reduceMul,Nat.reduceLT,Nat.reduceEqDiff,Nat.reduceLeDiff,Nat.reduceBEq,Int.reduceLE,Int.reduceLT,Int.reduceToNat,Int.reduceBNe,Int.reduceBEq,Int.reduceNeg,Int.reduceEq,Int.reduceNe,Nat.reduceBNe,Int.reduceAdd,Int.reduceSub,Int.reduceMul,Int.reducePow,Nat.reducePow,Int.reduceGT,Int.reduceGE,if_true,if_false,ite_true,ite_false,beq_self_eq_true,BEq.rfl,reduceCtorEq,eq_self,ne_eq,Function.comp_def,beq_iff_eq]
    exact hK'
  · simp only [hmay, Bool.true_and] at hK
    simp only [evf,↓evp,evq,evr,fxa0,fxa1,fxa2,fxa3,fxa4,fxu,fxn,fxl,↓fxp,lgc,absL,fitL,flatL,ares,ares1,ofVal,unSc,aload,afill,splice,abound,asI,elems,IntKind.bits,sortT,eqNil,closedL,allByte,patch,pendOK,numA,Value.cells,Value.oneCell',ibin,List.replicate,Option.elim,Nat.reduceAdd,Nat.reduceSub,Nat.reduceMul,Nat.reduceLT,Nat.reduceEqDiff,Nat.reduceLeDiff,Nat.reduceBEq,Int.reduceLE,Int.reduceLT,Int.reduceToNat,Int.reduceBNe,Int.reduceBEq,Int.reduceNeg,Int.reduceEq,Int.reduceNe,Nat.reduceBNe,Int.reduceAdd,Int.reduceSub,Int.reduceMul,Int.reducePow,Nat.reducePow,Int.reduceGT,Int.reduceGE,if_true,if_false,ite_true,ite_false,beq_self_eq_true,BEq.rfl,reduceCtorEq,eq_self,ne_eq,Function.comp_def,beq_iff_eq]
    exact hK _ (((Grw.push _ _).trans j1).trans j2)
end
end Go.Proofs.Ytgmccnnjpejigaa
