/- The fixed question of chapter 2. -/
import Derived.Test.YtfndpnmdjblokaaW1
set_option linter.unusedVariables false
set_option linter.unusedSimpArgs false
set_option maxRecDepth 10000
namespace Go.Proofs.Ytfndpnmdjblokaa
open Go Go.M Go.RowKit
attribute [local congr] acallF_cong aloop_cong bcase_cong resK_cong valK_cong wantK_cong callK_cong xputK_cong qputK_cong

theorem ix_bs {s : List Ob} {v : V} {l : List Int} (hv : Rd Try.prog s 5 v (bs l) l.length) {i : Nat} (hi : i < l.length) : aix Try.prog s 22 v (.sc (.int .i64 i)) = some (ixp 1 v i 0, s) ∧ ald Try.prog s 5 (ixp 1 v i 0) = some (.sc (.int .u8 l[i]), s) := by
  refine ⟨?_, ?_⟩
  · rw [aix_rd hv Try.underlying22 sz5 .i64 (by omega) (by omega), Int.toNat_natCast]
  · rw [ald_ix hv sz5 sz5 (by omega) hi (by omega)]
    simp only [aload, ag5, bs, Nat.mul_one, Nat.add_zero, List.getElem?_drop, List.getElem?_map, List.getElem?_eq_getElem hi, Option.map_some]

theorem f16 {n m : Nat} {st : List Ob} {K : V → List Ob → Prop} (hm : 12 < m) (h : ∀ s, K (.sc (.bool true)) s) : acallF Try.prog pl (n + 3) m 16 [] st K := by
  rw [acallF_eq Try.func16 rfl]
  simp only [↓evp,evq,evr,fxa0,fxa1,fxa2,fxa3,fxu,fxn,fxl,↓fxp,lgc,absL,fitL,flatL,aput,ares,ares1,ofVal,unSc,aload,afill,splice,abound,asI,elems,IntKind.bits,sortT,eqNil,closedL,allByte,patch,pendOK,numA,Value.cells,Value.oneCell',ibin,List.replicate,Option.elim,Nat.reduceAdd,Nat.reduceSub,Nat.reduceMul,Nat.reduceLT,Nat.reduceEqDiff,Nat.reduceLeDiff,Nat.reduceBEq,Int.reduceLE,Int.reduceLT,Int.reduceToNat,Int.reduceBNe,Int.reduceBEq,Int.reduceNeg,Int.reduceEq,Int.reduceNe,Nat.reduceBNe,Int.reduceAdd,Int.reduceSub,Int.reduceMul,Int.reducePow,Nat.reducePow,Int.reduceGT,Int.reduceGE,if_true,if_false,ite_true,ite_false,beq_self_eq_true,BEq.rfl,reduceCtorEq,eq_self,ne_eq,Function.comp_def,beq_iff_eq]
  refine f21 (xs := [7]) (x := 300) ?_ (by omega) (by simp) hm fun w s hb => ?_
  · refine ⟨?_, ⟨fun b hb => (by cases hb), fun hh => by cases hh⟩, fun k hk => ?_⟩
    · simp only [elems, get_new0, List.getElem?_cons_zero, sz5, bs]
      rfl
    · rw [sz5] at hk; cases hk; rfl
  have e : uvb 300 = [172, 2] := by
    rw [uvb_ge (by omega), uvb_lt (by omega)]; rfl
  rw [e] at hb
  have hr : Rd Try.prog s 5 w (bs [7, 172, 2]) [7, 172, 2].length := hb.rd
  have hl : alen Try.prog s 22 w = some (.sc (.int .i64 3), s) := alen_rd hr Try.underlying22
  have p0 := ix_bs hr (i := 0) (by decide)
  have p1 := ix_bs hr (i := 1) (by decide)
  have p2 := ix_bs hr (i := 2) (by decide)
  simp only [Int.cast_ofNat_Int, List.getElem_cons_zero, List.getElem_cons_succ, Int.natCast_zero, Int.natCast_one] at p0 p1 p2
  simp only [hl, p0, p1, p2, ↓evp,evq,evr,fxa0,fxa1,fxa2,fxa3,fxu,fxn,fxl,↓fxp,lgc,absL,fitL,flatL,aput,ares,ares1,ofVal,unSc,aload,afill,splice,abound,asI,elems,IntKind.bits,sortT,eqNil,closedL,allByte,patch,pendOK,numA,Value.cells,Value.oneCell',ibin,List.replicate,Option.elim,Nat.reduceAdd,Nat.reduceSub,Nat.reduceMul,Nat.reduceLT,Nat.reduceEqDiff,Nat.reduceLeDiff,Nat.reduceBEq,Int.reduceLE,Int.reduceLT,Int.reduceToNat,Int.reduceBNe,Int.reduceBEq,Int.reduceNeg,Int.reduceEq,Int.reduceNe,Nat.reduceBNe,Int.reduceAdd,Int.reduceSub,Int.reduceMul,Int.reducePow,Nat.reducePow,Int.reduceGT,Int.reduceGE,if_true,if_false,ite_true,ite_false,beq_self_eq_true,BEq.rfl,reduceCtorEq,eq_self,ne_eq,Function.comp_def,beq_iff_eq]
  exact h s
end Go.Proofs.Ytfndpnmdjblokaa
