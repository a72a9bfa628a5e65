/- WireWrites: things are written, by the program and by the document. -/
import Derived.Test.YtfndpnmdjblokaaW4
set_option linter.unusedVariables false
set_option linter.unusedSimpArgs false
set_option maxRecDepth 10000
namespace Go.Proofs.Ytfndpnmdjblokaa
open Go Go.M Go.RowKit
attribute [local congr] acallF_cong aloop_cong bcase_cong resK_cong valK_cong wantK_cong callK_cong xputK_cong qputK_cong
attribute [local irreducible] seqK blockK loopK nextK bcase resK valK wantK funK putK dputK xputK qputK callK aops aop acode adraw aloop acallF acall invK
/-- A thing that is written. -/
structure Itm where
  d : Int
  x : Nat
  b : List Int
  nil : Bool
  full : Bool
  most : Int
def Itm.v (a : Itm) : List V := [.sc (.int .i64 a.d), .sc (.int .u64 a.x), .tsl (bs a.b) a.b.length a.nil a.full, .sc (.int .i64 a.most)]
structure Itm.ok (a : Itm) : Prop where
  d : -9223372036854775808 ≤ a.d ∧ a.d < 9223372036854775808
  x : a.x < 18446744073709551616
  b : ∀ c ∈ a.b, 0 ≤ c ∧ c < 256
  len : a.b.length ≤ reachBytes
  most : -9223372036854775808 ≤ a.most ∧ a.most < 9223372036854775808
  nil : a.nil = true → a.b.length = 0
def sgn (x : Nat) : Int := if x < 9223372036854775808 then (x : Int) else (x : Int) - 18446744073709551616
/-- Its bytes. -/
def Itm.wr (a : Itm) : List Int := if a.d = 0 then uvb a.x else if a.d = 1 then uvb (zz (sgn a.x)) else if a.d = 2 then fxb a.x 4 else if a.d = 3 then fxb a.x 8 else if a.d = 6 then uvb a.b.length ++ a.b else []
theorem sgn_wrap {x : Nat} (h : x < 18446744073709551616) : IntKind.i64.wrap (x : Int) = sgn x := by
  unfold sgn; rw [IntKind.wrap_i64]; split <;> omega
theorem sgn_in {x : Nat} (h : x < 18446744073709551616) : -9223372036854775808 ≤ sgn x ∧ sgn x < 9223372036854775808 := by
  unfold sgn; split <;> omega
theorem mask32 {x : Nat} (h : x < 18446744073709551616) : bits .and .u64 (x : Int) 4294967295 = ((x % 4294967296 : Nat) : Int) := by
  have := u64_and_nat x 4294967295 h (by omega)
  rw [show ((4294967295 : Nat) : Int) = 4294967295 from rfl] at this
  rw [this, show 4294967295 = 2 ^ 32 - 1 from rfl, Nat.and_two_pow_sub_one_eq_mod]
set_option maxHeartbeats 4000000 in
theorem l02_written {n m : Nat} {v : V} {xs : List Int} {a : Itm} (ha : a.ok) {st : List Ob} {K : V → List Ob → Prop} (hv : Rd Try.prog st 5 v (bs xs) xs.length) (hl : xs.length + a.b.length < 140737488340000) (hm : 12 < m)
    (h : ∀ w w' s, Grw st s → Rd Try.prog s 5 w (bs (xs ++ a.wr)) (xs ++ a.wr).length → Rd Try.prog s 5 w' (bs a.wr) a.wr.length → K (.tup [w, w']) s) : acallF Try.prog pl (n + 4) m 14 [v, .agg a.v] st K := by
  obtain ⟨d, x, b, nil, full, most⟩ := a
  obtain ⟨h1, h2, h3, h4, h5, h6⟩ := ha
  simp only at h1 h2 h3 h4 h5 h6 hl
  simp only [Itm.v]
  rw [acallF_eq Try.func14 rfl]
  have hcell : (st ++ [Ob.cells [V.sc (.int .i64 d), V.sc (.int .u64 x), V.tsl (bs b) b.length nil full, V.sc (.int .i64 most)]])[st.length]? = some (Ob.cells [V.sc (.int .i64 d), V.sc (.int .u64 x), V.tsl (bs b) b.length nil full, V.sc (.int .i64 most)]) := get_new0 _ _
  have hg0 : Grw st (st ++ [Ob.cells [V.sc (.int .i64 d), V.sc (.int .u64 x), V.tsl (bs b) b.length nil full, V.sc (.int .i64 most)]]) := .push _ _
  by_cases h0 : d = 0
  · subst h0
    simp only [↓evp,evq,evr,fxa0,fxa1,fxa2,fxa3,fxu,fxn,fxl,↓fxp,lgc,absL,fitL,flatL,aput,ares,ares1,ofVal,unSc,aload,afill,splice,abound,asI,elems,IntKind.bits,sortT,eqNil,closedL,allByte,patch,pendOK,numA,Value.cells,Value.oneCell',ibin,List.replicate,Option.elim,Nat.reduceAdd,Nat.reduceSub,Nat.reduceMul,Nat.reduceLT,Nat.reduceEqDiff,Nat.reduceLeDiff,Nat.reduceBEq,Int.reduceLE,Int.reduceLT,Int.reduceToNat,Int.reduceBNe,Int.reduceBEq,Int.reduceNeg,Int.reduceEq,Int.reduceNe,Nat.reduceBNe,Int.reduceAdd,Int.reduceSub,Int.reduceMul,Int.reducePow,Nat.reducePow,Int.reduceGT,Int.reduceGE,if_true,if_false,ite_true,ite_false,beq_self_eq_true,BEq.rfl,reduceCtorEq,eq_self,ne_eq,Function.comp_def,beq_iff_eq]
    refine f21 (hv.grw hg0) h2 (by omega) hm fun w s hb => ?_
    have hc1 := hb.1 _ _ hcell
    have hg1 := hb.1
    simp only [hc1, hg1, ↓evp,evq,evr,fxa0,fxa1,fxa2,fxa3,fxu,fxn,fxl,↓fxp,lgc,absL,fitL,flatL,aput,ares,ares1,ofVal,unSc,aload,afill,splice,abound,asI,elems,IntKind.bits,sortT,eqNil,closedL,allByte,patch,pendOK,numA,Value.cells,Value.oneCell',ibin,List.replicate,Option.elim,Nat.reduceAdd,Nat.reduceSub,Nat.reduceMul,Nat.reduceLT,Nat.reduceEqDiff,Nat.reduceLeDiff,Nat.reduceBEq,Int.reduceLE,Int.reduceLT,Int.reduceToNat,Int.reduceBNe,Int.reduceBEq,Int.reduceNeg,Int.reduceEq,Int.reduceNe,Nat.reduceBNe,Int.reduceAdd,Int.reduceSub,Int.reduceMul,Int.reducePow,Nat.reducePow,Int.reduceGT,Int.reduceGE,if_true,if_false,ite_true,ite_false,beq_self_eq_true,BEq.rfl,reduceCtorEq,eq_self,ne_eq,Function.comp_def,beq_iff_eq]
    refine r_Uvarint h2 hm fun w' s' hb' => ?_
    have hg2 := hb'.1
    simp only [hg2, ↓evp,evq,evr,fxa0,fxa1,fxa2,fxa3,fxu,fxn,fxl,↓fxp,lgc,absL,fitL,flatL,aput,ares,ares1,ofVal,unSc,aload,afill,splice,abound,asI,elems,IntKind.bits,sortT,eqNil,closedL,allByte,patch,pendOK,numA,Value.cells,Value.oneCell',ibin,List.replicate,Option.elim,Nat.reduceAdd,Nat.reduceSub,Nat.reduceMul,Nat.reduceLT,Nat.reduceEqDiff,Nat.reduceLeDiff,Nat.reduceBEq,Int.reduceLE,Int.reduceLT,Int.reduceToNat,Int.reduceBNe,Int.reduceBEq,Int.reduceNeg,Int.reduceEq,Int.reduceNe,Nat.reduceBNe,Int.reduceAdd,Int.reduceSub,Int.reduceMul,Int.reducePow,Nat.reducePow,Int.reduceGT,Int.reduceGE,if_true,if_false,ite_true,ite_false,beq_self_eq_true,BEq.rfl,reduceCtorEq,eq_self,ne_eq,Function.comp_def,beq_iff_eq]
    exact h w w' s' (hg0.trans (hg1.trans hg2)) (hb.rd.grw hg2) hb'.rd
  have e0 : (d == 0) = false := by simpa using h0
  by_cases hd1 : d = 1
  · subst hd1
    simp only [sgn_wrap h2, ↓evp,evq,evr,fxa0,fxa1,fxa2,fxa3,fxu,fxn,fxl,↓fxp,lgc,absL,fitL,flatL,aput,ares,ares1,ofVal,unSc,aload,afill,splice,abound,asI,elems,IntKind.bits,sortT,eqNil,closedL,allByte,patch,pendOK,numA,Value.cells,Value.oneCell',ibin,List.replicate,Option.elim,Nat.reduceAdd,Nat.reduceSub,Nat.reduceMul,Nat.reduceLT,Nat.reduceEqDiff,Nat.reduceLeDiff,Nat.reduceBEq,Int.reduceLE,Int.reduceLT,Int.reduceToNat,Int.reduceBNe,Int.reduceBEq,Int.reduceNeg,Int.reduceEq,Int.reduceNe,Nat.reduceBNe,Int.reduceAdd,Int.reduceSub,Int.reduceMul,Int.reducePow,Nat.reducePow,Int.reduceGT,Int.reduceGE,if_true,if_false,ite_true,ite_false,beq_self_eq_true,BEq.rfl,reduceCtorEq,eq_self,ne_eq,Function.comp_def,beq_iff_eq]
    refine w_Varint (hv.grw hg0) (sgn_in h2).1 (sgn_in h2).2 (by omega) hm fun w s hb => ?_
    have hc1 := hb.1 _ _ hcell
    have hg1 := hb.1
    simp only [hc1, hg1, sgn_wrap h2, ↓evp,evq,evr,fxa0,fxa1,fxa2,fxa3,fxu,fxn,fxl,↓fxp,lgc,absL,fitL,flatL,aput,ares,ares1,ofVal,unSc,aload,afill,splice,abound,asI,elems,IntKind.bits,sortT,eqNil,closedL,allByte,patch,pendOK,numA,Value.cells,Value.oneCell',ibin,List.replicate,Option.elim,Nat.reduceAdd,Nat.reduceSub,Nat.reduceMul,Nat.reduceLT,Nat.reduceEqDiff,Nat.reduceLeDiff,Nat.reduceBEq,Int.reduceLE,Int.reduceLT,Int.reduceToNat,Int.reduceBNe,Int.reduceBEq,Int.reduceNeg,Int.reduceEq,Int.reduceNe,Nat.reduceBNe,Int.reduceAdd,Int.reduceSub,Int.reduceMul,Int.reducePow,Nat.reducePow,Int.reduceGT,Int.reduceGE,if_true,if_false,ite_true,ite_false,beq_self_eq_true,BEq.rfl,reduceCtorEq,eq_self,ne_eq,Function.comp_def,beq_iff_eq]
    refine r_Varint (sgn_in h2).1 (sgn_in h2).2 hm fun w' s' hb' => ?_
    have hg2 := hb'.1
    simp only [hg2, ↓evp,evq,evr,fxa0,fxa1,fxa2,fxa3,fxu,fxn,fxl,↓fxp,lgc,absL,fitL,flatL,aput,ares,ares1,ofVal,unSc,aload,afill,splice,abound,asI,elems,IntKind.bits,sortT,eqNil,closedL,allByte,patch,pendOK,numA,Value.cells,Value.oneCell',ibin,List.replicate,Option.elim,Nat.reduceAdd,Nat.reduceSub,Nat.reduceMul,Nat.reduceLT,Nat.reduceEqDiff,Nat.reduceLeDiff,Nat.reduceBEq,Int.reduceLE,Int.reduceLT,Int.reduceToNat,Int.reduceBNe,Int.reduceBEq,Int.reduceNeg,Int.reduceEq,Int.reduceNe,Nat.reduceBNe,Int.reduceAdd,Int.reduceSub,Int.reduceMul,Int.reducePow,Nat.reducePow,Int.reduceGT,Int.reduceGE,if_true,if_false,ite_true,ite_false,beq_self_eq_true,BEq.rfl,reduceCtorEq,eq_self,ne_eq,Function.comp_def,beq_iff_eq]
    exact h w w' s' (hg0.trans (hg1.trans hg2)) (hb.rd.grw hg2) hb'.rd
  have e1 : (d == 1) = false := by simpa using hd1
  by_cases hd2 : d = 2
  · subst hd2
    have ew : IntKind.u32.wrap (x : Int) = ((x % 4294967296 : Nat) : Int) := by rw [IntKind.wrap_u32]; omega
    have ef : fxb (x % 4294967296) 4 = fxb x 4 := fxb_mod x 4
    simp only [ew, ↓evp,evq,evr,fxa0,fxa1,fxa2,fxa3,fxu,fxn,fxl,↓fxp,lgc,absL,fitL,flatL,aput,ares,ares1,ofVal,unSc,aload,afill,splice,abound,asI,elems,IntKind.bits,sortT,eqNil,closedL,allByte,patch,pendOK,numA,Value.cells,Value.oneCell',ibin,List.replicate,Option.elim,Nat.reduceAdd,Nat.reduceSub,Nat.reduceMul,Nat.reduceLT,Nat.reduceEqDiff,Nat.reduceLeDiff,Nat.reduceBEq,Int.reduceLE,Int.reduceLT,Int.reduceToNat,Int.reduceBNe,Int.reduceBEq,Int.reduceNeg,Int.reduceEq,Int.reduceNe,Nat.reduceBNe,Int.reduceAdd,Int.reduceSub,Int.reduceMul,Int.reducePow,Nat.reducePow,Int.reduceGT,Int.reduceGE,if_true,if_false,ite_true,ite_false,beq_self_eq_true,BEq.rfl,reduceCtorEq,eq_self,ne_eq,Function.comp_def,beq_iff_eq]
    refine w_Fixed4 (x := x % 4294967296) (hv.grw hg0) (by omega) (by omega) fun w s hb => ?_
    have hc1 := hb.1 _ _ hcell
    have hg1 := hb.1
    simp only [hc1, hg1, mask32 h2, ↓evp,evq,evr,fxa0,fxa1,fxa2,fxa3,fxu,fxn,fxl,↓fxp,lgc,absL,fitL,flatL,aput,ares,ares1,ofVal,unSc,aload,afill,splice,abound,asI,elems,IntKind.bits,sortT,eqNil,closedL,allByte,patch,pendOK,numA,Value.cells,Value.oneCell',ibin,List.replicate,Option.elim,Nat.reduceAdd,Nat.reduceSub,Nat.reduceMul,Nat.reduceLT,Nat.reduceEqDiff,Nat.reduceLeDiff,Nat.reduceBEq,Int.reduceLE,Int.reduceLT,Int.reduceToNat,Int.reduceBNe,Int.reduceBEq,Int.reduceNeg,Int.reduceEq,Int.reduceNe,Nat.reduceBNe,Int.reduceAdd,Int.reduceSub,Int.reduceMul,Int.reducePow,Nat.reducePow,Int.reduceGT,Int.reduceGE,if_true,if_false,ite_true,ite_false,beq_self_eq_true,BEq.rfl,reduceCtorEq,eq_self,ne_eq,Function.comp_def,beq_iff_eq]
    refine r_Fixed (x := x % 4294967296) (many := 4) (by omega) (by omega) hm fun w' s' hb' => ?_
    have hg2 := hb'.1
    simp only [hg2, ↓evp,evq,evr,fxa0,fxa1,fxa2,fxa3,fxu,fxn,fxl,↓fxp,lgc,absL,fitL,flatL,aput,ares,ares1,ofVal,unSc,aload,afill,splice,abound,asI,elems,IntKind.bits,sortT,eqNil,closedL,allByte,patch,pendOK,numA,Value.cells,Value.oneCell',ibin,List.replicate,Option.elim,Nat.reduceAdd,Nat.reduceSub,Nat.reduceMul,Nat.reduceLT,Nat.reduceEqDiff,Nat.reduceLeDiff,Nat.reduceBEq,Int.reduceLE,Int.reduceLT,Int.reduceToNat,Int.reduceBNe,Int.reduceBEq,Int.reduceNeg,Int.reduceEq,Int.reduceNe,Nat.reduceBNe,Int.reduceAdd,Int.reduceSub,Int.reduceMul,Int.reducePow,Nat.reducePow,Int.reduceGT,Int.reduceGE,if_true,if_false,ite_true,ite_false,beq_self_eq_true,BEq.rfl,reduceCtorEq,eq_self,ne_eq,Function.comp_def,beq_iff_eq]
    rw [ef] at hb hb'
    exact h w w' s' (hg0.trans (hg1.trans hg2)) (hb.rd.grw hg2) hb'.rd
  have e2 : (d == 2) = false := by simpa using hd2
  by_cases hd3 : d = 3
  · subst hd3
    simp only [↓evp,evq,evr,fxa0,fxa1,fxa2,fxa3,fxu,fxn,fxl,↓fxp,lgc,absL,fitL,flatL,aput,ares,ares1,ofVal,unSc,aload,afill,splice,abound,asI,elems,IntKind.bits,sortT,eqNil,closedL,allByte,patch,pendOK,numA,Value.cells,Value.oneCell',ibin,List.replicate,Option.elim,Nat.reduceAdd,Nat.reduceSub,Nat.reduceMul,Nat.reduceLT,Nat.reduceEqDiff,Nat.reduceLeDiff,Nat.reduceBEq,Int.reduceLE,Int.reduceLT,Int.reduceToNat,Int.reduceBNe,Int.reduceBEq,Int.reduceNeg,Int.reduceEq,Int.reduceNe,Nat.reduceBNe,Int.reduceAdd,Int.reduceSub,Int.reduceMul,Int.reducePow,Nat.reducePow,Int.reduceGT,Int.reduceGE,if_true,if_false,ite_true,ite_false,beq_self_eq_true,BEq.rfl,reduceCtorEq,eq_self,ne_eq,Function.comp_def,beq_iff_eq]
    refine w_Fixed8 (hv.grw hg0) h2 (by omega) fun w s hb => ?_
    have hc1 := hb.1 _ _ hcell
    have hg1 := hb.1
    simp only [hc1, hg1, ↓evp,evq,evr,fxa0,fxa1,fxa2,fxa3,fxu,fxn,fxl,↓fxp,lgc,absL,fitL,flatL,aput,ares,ares1,ofVal,unSc,aload,afill,splice,abound,asI,elems,IntKind.bits,sortT,eqNil,closedL,allByte,patch,pendOK,numA,Value.cells,Value.oneCell',ibin,List.replicate,Option.elim,Nat.reduceAdd,Nat.reduceSub,Nat.reduceMul,Nat.reduceLT,Nat.reduceEqDiff,Nat.reduceLeDiff,Nat.reduceBEq,Int.reduceLE,Int.reduceLT,Int.reduceToNat,Int.reduceBNe,Int.reduceBEq,Int.reduceNeg,Int.reduceEq,Int.reduceNe,Nat.reduceBNe,Int.reduceAdd,Int.reduceSub,Int.reduceMul,Int.reducePow,Nat.reducePow,Int.reduceGT,Int.reduceGE,if_true,if_false,ite_true,ite_false,beq_self_eq_true,BEq.rfl,reduceCtorEq,eq_self,ne_eq,Function.comp_def,beq_iff_eq]
    refine r_Fixed (many := 8) h2 (by omega) hm fun w' s' hb' => ?_
    have hg2 := hb'.1
    simp only [hg2, ↓evp,evq,evr,fxa0,fxa1,fxa2,fxa3,fxu,fxn,fxl,↓fxp,lgc,absL,fitL,flatL,aput,ares,ares1,ofVal,unSc,aload,afill,splice,abound,asI,elems,IntKind.bits,sortT,eqNil,closedL,allByte,patch,pendOK,numA,Value.cells,Value.oneCell',ibin,List.replicate,Option.elim,Nat.reduceAdd,Nat.reduceSub,Nat.reduceMul,Nat.reduceLT,Nat.reduceEqDiff,Nat.reduceLeDiff,Nat.reduceBEq,Int.reduceLE,Int.reduceLT,Int.reduceToNat,Int.reduceBNe,Int.reduceBEq,Int.reduceNeg,Int.reduceEq,Int.reduceNe,Nat.reduceBNe,Int.reduceAdd,Int.reduceSub,Int.reduceMul,Int.reducePow,Nat.reducePow,Int.reduceGT,Int.reduceGE,if_true,if_false,ite_true,ite_false,beq_self_eq_true,BEq.rfl,reduceCtorEq,eq_self,ne_eq,Function.comp_def,beq_iff_eq]
    exact h w w' s' (hg0.trans (hg1.trans hg2)) (hb.rd.grw hg2) hb'.rd
  have e3 : (d == 3) = false := by simpa using hd3
  by_cases hd6 : d = 6
  · subst hd6
    have hx : Rd Try.prog (st ++ [Ob.cells [V.sc (.int .i64 6), V.sc (.int .u64 x), V.tsl (bs b) b.length nil full, V.sc (.int .i64 most)]]) 5 (V.tsl (bs b) b.length nil full) (bs b) b.length := tsl_rd sz5 (by simp [bs]) h6
    obtain ⟨q, sq, hq, hbq, hqg⟩ := app_rd (l := []) (Buf.start nil_rd rfl) hx (by simp; omega)
    simp only [List.nil_append] at hbq
    simp only [hq, ↓evp,evq,evr,fxa0,fxa1,fxa2,fxa3,fxu,fxn,fxl,↓fxp,lgc,absL,fitL,flatL,aput,ares,ares1,ofVal,unSc,aload,afill,splice,abound,asI,elems,IntKind.bits,sortT,eqNil,closedL,allByte,patch,pendOK,numA,Value.cells,Value.oneCell',ibin,List.replicate,Option.elim,Nat.reduceAdd,Nat.reduceSub,Nat.reduceMul,Nat.reduceLT,Nat.reduceEqDiff,Nat.reduceLeDiff,Nat.reduceBEq,Int.reduceLE,Int.reduceLT,Int.reduceToNat,Int.reduceBNe,Int.reduceBEq,Int.reduceNeg,Int.reduceEq,Int.reduceNe,Nat.reduceBNe,Int.reduceAdd,Int.reduceSub,Int.reduceMul,Int.reducePow,Nat.reducePow,Int.reduceGT,Int.reduceGE,if_true,if_false,ite_true,ite_false,beq_self_eq_true,BEq.rfl,reduceCtorEq,eq_self,ne_eq,Function.comp_def,beq_iff_eq]
    have hgq := hbq.1
    refine w_Bytes (hv.grw (hg0.trans hgq)) hbq.rd (by omega) hm fun w s hb => ?_
    have hc1 := hb.1 _ _ (hgq _ _ hcell)
    have hcq := hgq _ _ hcell
    have hg1 := hb.1
    simp only [hc1, hcq, hg1, hgq, ↓evp,evq,evr,fxa0,fxa1,fxa2,fxa3,fxu,fxn,fxl,↓fxp,lgc,absL,fitL,flatL,aput,ares,ares1,ofVal,unSc,aload,afill,splice,abound,asI,elems,IntKind.bits,sortT,eqNil,closedL,allByte,patch,pendOK,numA,Value.cells,Value.oneCell',ibin,List.replicate,Option.elim,Nat.reduceAdd,Nat.reduceSub,Nat.reduceMul,Nat.reduceLT,Nat.reduceEqDiff,Nat.reduceLeDiff,Nat.reduceBEq,Int.reduceLE,Int.reduceLT,Int.reduceToNat,Int.reduceBNe,Int.reduceBEq,Int.reduceNeg,Int.reduceEq,Int.reduceNe,Nat.reduceBNe,Int.reduceAdd,Int.reduceSub,Int.reduceMul,Int.reducePow,Nat.reducePow,Int.reduceGT,Int.reduceGE,if_true,if_false,ite_true,ite_false,beq_self_eq_true,BEq.rfl,reduceCtorEq,eq_self,ne_eq,Function.comp_def,beq_iff_eq]
    refine r_Bytes (tsl_rd sz5 (by simp [bs]) h6) (by omega) hm fun w' s' hb' => ?_
    have hg2 := hb'.1
    simp only [hg2, ↓evp,evq,evr,fxa0,fxa1,fxa2,fxa3,fxu,fxn,fxl,↓fxp,lgc,absL,fitL,flatL,aput,ares,ares1,ofVal,unSc,aload,afill,splice,abound,asI,elems,IntKind.bits,sortT,eqNil,closedL,allByte,patch,pendOK,numA,Value.cells,Value.oneCell',ibin,List.replicate,Option.elim,Nat.reduceAdd,Nat.reduceSub,Nat.reduceMul,Nat.reduceLT,Nat.reduceEqDiff,Nat.reduceLeDiff,Nat.reduceBEq,Int.reduceLE,Int.reduceLT,Int.reduceToNat,Int.reduceBNe,Int.reduceBEq,Int.reduceNeg,Int.reduceEq,Int.reduceNe,Nat.reduceBNe,Int.reduceAdd,Int.reduceSub,Int.reduceMul,Int.reducePow,Nat.reducePow,Int.reduceGT,Int.reduceGE,if_true,if_false,ite_true,ite_false,beq_self_eq_true,BEq.rfl,reduceCtorEq,eq_self,ne_eq,Function.comp_def,beq_iff_eq]
    exact h w w' s' (hg0.trans (hgq.trans (hg1.trans hg2))) (hb.rd.grw hg2) hb'.rd
  have e6 : (d == 6) = false := by simpa using hd6
  have ew : Itm.wr { d := d, x := x, b := b, nil := nil, full := full, most := most } = [] := by simp only [Itm.wr, if_neg h0, if_neg hd1, if_neg hd2, if_neg hd3, if_neg hd6]
  simp only [e0, e1, e2, e3, e6, ↓evp,evq,evr,fxa0,fxa1,fxa2,fxa3,fxu,fxn,fxl,↓fxp,lgc,absL,fitL,flatL,aput,ares,ares1,ofVal,unSc,aload,afill,splice,abound,asI,elems,IntKind.bits,sortT,eqNil,closedL,allByte,patch,pendOK,numA,Value.cells,Value.oneCell',ibin,List.replicate,Option.elim,Nat.reduceAdd,Nat.reduceSub,Nat.reduceMul,Nat.reduceLT,Nat.reduceEqDiff,Nat.reduceLeDiff,Nat.reduceBEq,Int.reduceLE,Int.reduceLT,Int.reduceToNat,Int.reduceBNe,Int.reduceBEq,Int.reduceNeg,Int.reduceEq,Int.reduceNe,Nat.reduceBNe,Int.reduceAdd,Int.reduceSub,Int.reduceMul,Int.reducePow,Nat.reducePow,Int.reduceGT,Int.reduceGE,if_true,if_false,ite_true,ite_false,beq_self_eq_true,BEq.rfl,reduceCtorEq,eq_self,ne_eq,Function.comp_def,beq_iff_eq]
  rw [ew] at h
  simp only [List.append_nil] at h
  exact h v _ _ hg0 (hv.grw hg0) nil_rd

theorem uvb_len0 (x : Nat) (h : x < 18446744073709551616) : (uvb x).length ≤ 10 := uvb_len x h
theorem Itm.wr_len {a : Itm} (h : a.ok) : a.wr.length ≤ 10 + a.b.length := by
  have h1 := uvb_len a.x h.x
  have h2 := uvb_len (zz (sgn a.x)) (zz_lt (sgn_in h.x).1 (sgn_in h.x).2)
  have h3 := uvb_len a.b.length (Nat.lt_of_le_of_lt h.len (by simp [reachBytes]))
  have f4 := fxb_length a.x 4
  have f8 := fxb_length a.x 8
  unfold Itm.wr
  repeat' split
  all_goals (try rw [List.length_append])
  all_goals (try simp only [List.length_nil])
  all_goals omega
theorem Itm.bulk (a : Itm) : bulkVl a.v = 4 + a.b.length := by
  simp only [Itm.v, bulkVl, bulkV, bulk_bs]; omega
/-- Things, as they are handed in. -/
theorem item1 {k : Nat} {ys : List V} (h : TV Try.prog (k + 2) 28 ys) : ∃ a : Itm, ys = a.v ∧ a.ok := by
  have h := tv_struct h Try.underlying28
  obtain ⟨y0, z0, rfl, h0, h⟩ := h
  obtain ⟨y1, z1, rfl, h1, h⟩ := h
  obtain ⟨y2, z2, rfl, h2, h⟩ := h
  obtain ⟨y3, z3, rfl, h3, h⟩ := h
  obtain rfl : z3 = [] := h
  obtain ⟨d, rfl, hd⟩ := tv_int h0 Try.underlying3
  obtain ⟨x, rfl, hx⟩ := tv_int h1 Try.underlying26
  obtain ⟨x, rfl, hx'⟩ := wf_u64 hx
  obtain ⟨l, n, nil, full, rfl, hl, hn, hnil⟩ := tv_slice h2 Try.underlying22
  obtain ⟨b, rfl, rfl, hb⟩ := tv_bytes Try.underlying5 hl
  obtain ⟨c, rfl, hc⟩ := tv_int h3 Try.underlying3
  refine ⟨⟨d, x, b, nil, full, c⟩, rfl, wf_i64 hd, hx', hb, ?_, wf_i64 hc, fun h => (hnil h).1⟩
  have : Try.prog.bytesOf 5 = 1 := by kernel_rfl
  rw [this] at hn
  simpa using hn
theorem items {k n : Nat} {ys : List V} (h : TVn (TV Try.prog (k + 2) 28) n ys) : ∃ l : List Itm, l.length = n ∧ ys = l.flatMap Itm.v ∧ ∀ a ∈ l, a.ok :=
  TVn.list (fun ys h => item1 h) h
end Go.Proofs.Ytfndpnmdjblokaa
