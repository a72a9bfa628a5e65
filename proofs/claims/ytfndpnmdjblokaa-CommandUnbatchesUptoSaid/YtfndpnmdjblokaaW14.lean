/- The reader: the document's bytes; both readers side by side. -/
import Derived.Test.YtfndpnmdjblokaaWR
import Derived.Test.YtfndpnmdjblokaaW5
set_option linter.unusedVariables false
set_option linter.unusedSimpArgs false
set_option maxRecDepth 10000
namespace Go.Proofs.Ytfndpnmdjblokaa
open Go Go.M Go.RowKit
attribute [local congr] acallF_cong aloop_cong bcase_cong resK_cong valK_cong wantK_cong callK_cong xputK_cong qputK_cong
attribute [local irreducible] seqK blockK loopK nextK bcase resK valK wantK funK putK dputK xputK qputK callK aops aop acode adraw aloop acallF acall invK
section
variable {n m id : Nat} {bv : V} {r : RS} {st : List Ob} {K : V → List Ob → Prop}
/-- A copy, by an append to nothing. -/
theorem app_nil {x : V} {zs : List Int} (hx : Rd Try.prog st 5 x (bs zs) zs.length) (hb : zs.length ≤ 140737488355328) :
    ∃ w s, aappend Try.prog st 22 (.tsl [] 0 true true) x = some (w, s) ∧ Grw st s ∧ Cut Try.prog s 5 w (bs zs) zs.length := by
  rcases Nat.eq_zero_or_pos zs.length with h0 | h0
  · have : zs = [] := List.eq_nil_of_length_eq_zero h0
    subst this
    exact ⟨_, _, append_full0 (nil_rd (st := st)) rfl Try.underlying22 sz5 by5 ze5 (by omega) rfl hx.1 (by omega) (by omega), .refl _, nil_rd, .inl ⟨_, _, _, _, rfl⟩, fun _ => rfl⟩
  · refine ⟨_, _, append_full (nil_rd (st := st)) rfl Try.underlying22 sz5 by5 ze5 (by omega) rfl hx.1 (closed_bs zs) (by rw [bs_length]; omega) (by omega) (by omega) h0, .push _ _, ⟨?_, ⟨fun b hb => (by cases hb), fun hh => by cases hh⟩, fun s hs => by rw [sz5] at hs; cases hs; simp [bs]⟩, .inr ⟨_, _, _, _, _, _, _, rfl, get_new0 _ _⟩, fun h => by cases h⟩
    simp only [elems, get_new0, List.getElem?_cons_zero, sz5, bs_nil, List.nil_append, Nat.zero_add]
    simp [bs]
    rw [List.take_of_length_le (by simp)]
theorem r_ReadBytes {most : Int} (ho : r.ok) (hr : st[id]? = some (.cells (r.c bv))) (hb : Cut Try.prog st 5 bv (bs r.b) r.b.length) (hbl : r.b.length < 140737488350000) (hm : 12 < m) (hm1 : -9223372036854775808 ≤ most) (hm2 : most < 9223372036854775808)
    (h : ∀ v s, Trn st id (RS.c bv (r.by most).2) s → Cut Try.prog s 5 v (bs (r.by most).1) (r.by most).1.length → K v s) : acallF Try.prog pl (n + 4) m 68 [.ref id 0, .sc (.int .i64 most)] st K := by
  rw [acallF_eq Try.func68 rfl]
  have hr' := hr
  simp only [RS.c] at hr'
  simp only [hr', ↓evp,evq,evr,fxa0,fxa1,fxa2,fxa3,fxu,fxn,fxl,↓fxp,lgc,absL,fitL,flatL,aput,ares,ares1,ofVal,unSc,aload,afill,splice,abound,asI,elems,IntKind.bits,sortT,eqNil,closedL,allByte,patch,pendOK,numA,Value.cells,Value.oneCell',ibin,List.replicate,Option.elim,Nat.reduceAdd,Nat.reduceSub,Nat.reduceMul,Nat.reduceLT,Nat.reduceEqDiff,Nat.reduceLeDiff,Nat.reduceBEq,Int.reduceLE,Int.reduceLT,Int.reduceToNat,Int.reduceBNe,Int.reduceBEq,Int.reduceNeg,Int.reduceEq,Int.reduceNe,Nat.reduceBNe,Int.reduceAdd,Int.reduceSub,Int.reduceMul,Int.reducePow,Nat.reducePow,Int.reduceGT,Int.reduceGE,if_true,if_false,ite_true,ite_false,beq_self_eq_true,BEq.rfl,reduceCtorEq,eq_self,ne_eq,Function.comp_def,beq_iff_eq]
  refine r_ReadNumber ho hr hb hm hm1 hm2 fun s hs => ?_
  have hs' := hs.1
  simp only [RS.c] at hs'
  have hu64 := pk_u64 ho
  have hat := pk_at ho
  have hat0 := ho.at_
  have hlen := ho.len
  have hcn : ∀ s : List Ob, Cut Try.prog s 5 (.tsl [] 0 true true) (bs []) ([] : List Int).length := fun s => ⟨nil_rd, .inl ⟨_, _, _, _, rfl⟩, fun _ => rfl⟩
  by_cases he : r.e = 0
  · by_cases hk : (pk (r.b.drop r.at_) 0 0).2 = 0
    · have hn : r.nb most = (0, { r with e := 5 }) := by simp only [RS.nb, if_pos he, if_pos hk]
      have hy : r.by most = ([], { r with e := 5 }) := by simp only [RS.by, if_pos he, if_pos hk]
      rw [hn] at hs hs'
      rw [hy] at h
      simp only at hs hs'
      simp only [hn, hs', ↓evp,evq,evr,fxa0,fxa1,fxa2,fxa3,fxu,fxn,fxl,↓fxp,lgc,absL,fitL,flatL,aput,ares,ares1,ofVal,unSc,aload,afill,splice,abound,asI,elems,IntKind.bits,sortT,eqNil,closedL,allByte,patch,pendOK,numA,Value.cells,Value.oneCell',ibin,List.replicate,Option.elim,Nat.reduceAdd,Nat.reduceSub,Nat.reduceMul,Nat.reduceLT,Nat.reduceEqDiff,Nat.reduceLeDiff,Nat.reduceBEq,Int.reduceLE,Int.reduceLT,Int.reduceToNat,Int.reduceBNe,Int.reduceBEq,Int.reduceNeg,Int.reduceEq,Int.reduceNe,Nat.reduceBNe,Int.reduceAdd,Int.reduceSub,Int.reduceMul,Int.reducePow,Nat.reducePow,Int.reduceGT,Int.reduceGE,if_true,if_false,ite_true,ite_false,beq_self_eq_true,BEq.rfl,reduceCtorEq,eq_self,ne_eq,Function.comp_def,beq_iff_eq]
      exact h _ _ hs (hcn _)
    · by_cases hg : ((pk (r.b.drop r.at_) 0 0).1 : Int) > most ∨ most < 0
      · have hn : r.nb most = (0, { r with e := 3 }) := by simp only [RS.nb, if_pos he, if_neg hk, if_pos hg]
        have hy : r.by most = ([], { r with e := 3 }) := by simp only [RS.by, if_pos he, if_neg hk, if_pos hg]
        rw [hn] at hs hs'
        rw [hy] at h
        simp only at hs hs'
        simp only [hn, hs', ↓evp,evq,evr,fxa0,fxa1,fxa2,fxa3,fxu,fxn,fxl,↓fxp,lgc,absL,fitL,flatL,aput,ares,ares1,ofVal,unSc,aload,afill,splice,abound,asI,elems,IntKind.bits,sortT,eqNil,closedL,allByte,patch,pendOK,numA,Value.cells,Value.oneCell',ibin,List.replicate,Option.elim,Nat.reduceAdd,Nat.reduceSub,Nat.reduceMul,Nat.reduceLT,Nat.reduceEqDiff,Nat.reduceLeDiff,Nat.reduceBEq,Int.reduceLE,Int.reduceLT,Int.reduceToNat,Int.reduceBNe,Int.reduceBEq,Int.reduceNeg,Int.reduceEq,Int.reduceNe,Nat.reduceBNe,Int.reduceAdd,Int.reduceSub,Int.reduceMul,Int.reducePow,Nat.reducePow,Int.reduceGT,Int.reduceGE,if_true,if_false,ite_true,ite_false,beq_self_eq_true,BEq.rfl,reduceCtorEq,eq_self,ne_eq,Function.comp_def,beq_iff_eq]
        exact h _ _ hs (hcn _)
      · have hn : r.nb most = (((pk (r.b.drop r.at_) 0 0).1 : Int), { r with at_ := r.at_ + (pk (r.b.drop r.at_) 0 0).2 }) := by simp only [RS.nb, if_pos he, if_neg hk, if_neg hg]
        rw [hn] at hs hs'
        simp only [he] at hs'
        have hbs := hb.trn hr hs
        have hal := alen_rd hbs.1 Try.underlying22
        have a1 : IntKind.i64.wrap ((r.b.length : Int) - ((r.at_ + (pk (r.b.drop r.at_) 0 0).2 : Nat) : Int)) = ((r.b.length - (r.at_ + (pk (r.b.drop r.at_) 0 0).2) : Nat) : Int) := by rw [IntWalk.i64_in _ (by omega)]; omega
        by_cases hl : (pk (r.b.drop r.at_) 0 0).1 + r.at_ + (pk (r.b.drop r.at_) 0 0).2 > r.b.length
        · have d : decide (((pk (r.b.drop r.at_) 0 0).1 : Int) > ((r.b.length - (r.at_ + (pk (r.b.drop r.at_) 0 0).2) : Nat) : Int)) = true := decide_eq_true (by omega)
          have hy : r.by most = ([], { r with e := 5 }) := by simp only [RS.by, if_pos he, if_neg hk, if_neg hg, if_pos hl]
          rw [hy] at h
          simp only [hn, hs', hal, a1, d, ↓evp,evq,evr,fxa0,fxa1,fxa2,fxa3,fxu,fxn,fxl,↓fxp,lgc,absL,fitL,flatL,aput,ares,ares1,ofVal,unSc,aload,afill,splice,abound,asI,elems,IntKind.bits,sortT,eqNil,closedL,allByte,patch,pendOK,numA,Value.cells,Value.oneCell',ibin,List.replicate,Option.elim,Nat.reduceAdd,Nat.reduceSub,Nat.reduceMul,Nat.reduceLT,Nat.reduceEqDiff,Nat.reduceLeDiff,Nat.reduceBEq,Int.reduceLE,Int.reduceLT,Int.reduceToNat,Int.reduceBNe,Int.reduceBEq,Int.reduceNeg,Int.reduceEq,Int.reduceNe,Nat.reduceBNe,Int.reduceAdd,Int.reduceSub,Int.reduceMul,Int.reducePow,Nat.reducePow,Int.reduceGT,Int.reduceGE,if_true,if_false,ite_true,ite_false,beq_self_eq_true,BEq.rfl,reduceCtorEq,eq_self,ne_eq,Function.comp_def,beq_iff_eq]
          refine r_wrong hs.1 fun s2 hs2 => ?_
          simp only [if_pos he] at hs2
          simp only [↓evp,evq,evr,fxa0,fxa1,fxa2,fxa3,fxu,fxn,fxl,↓fxp,lgc,absL,fitL,flatL,aput,ares,ares1,ofVal,unSc,aload,afill,splice,abound,asI,elems,IntKind.bits,sortT,eqNil,closedL,allByte,patch,pendOK,numA,Value.cells,Value.oneCell',ibin,List.replicate,Option.elim,Nat.reduceAdd,Nat.reduceSub,Nat.reduceMul,Nat.reduceLT,Nat.reduceEqDiff,Nat.reduceLeDiff,Nat.reduceBEq,Int.reduceLE,Int.reduceLT,Int.reduceToNat,Int.reduceBNe,Int.reduceBEq,Int.reduceNeg,Int.reduceEq,Int.reduceNe,Nat.reduceBNe,Int.reduceAdd,Int.reduceSub,Int.reduceMul,Int.reducePow,Nat.reducePow,Int.reduceGT,Int.reduceGE,if_true,if_false,ite_true,ite_false,beq_self_eq_true,BEq.rfl,reduceCtorEq,eq_self,ne_eq,Function.comp_def,beq_iff_eq]
          exact h _ _ (hs.trans hs2) (hcn _)
        · have d : decide (((pk (r.b.drop r.at_) 0 0).1 : Int) > ((r.b.length - (r.at_ + (pk (r.b.drop r.at_) 0 0).2) : Nat) : Int)) = false := decide_eq_false (by omega)
          have hy : r.by most = ((r.b.drop (r.at_ + (pk (r.b.drop r.at_) 0 0).2)).take (pk (r.b.drop r.at_) 0 0).1, { r with at_ := r.at_ + (pk (r.b.drop r.at_) 0 0).2 + (pk (r.b.drop r.at_) 0 0).1 }) := by simp only [RS.by, if_pos he, if_neg hk, if_neg hg, if_neg hl]
          rw [hy] at h
          have a2 : IntKind.i64.wrap (((r.at_ + (pk (r.b.drop r.at_) 0 0).2 : Nat) : Int) + ((pk (r.b.drop r.at_) 0 0).1 : Int)) = ((r.at_ + (pk (r.b.drop r.at_) 0 0).2 + (pk (r.b.drop r.at_) 0 0).1 : Nat) : Int) := by rw [IntWalk.i64_in _ (by omega)]; rfl
          obtain ⟨v', hc, hv⟩ := cut_mid hbs (lo := r.at_ + (pk (r.b.drop r.at_) 0 0).2) (hi := r.at_ + (pk (r.b.drop r.at_) 0 0).2 + (pk (r.b.drop r.at_) 0 0).1) (by omega) (by omega)
          rw [Nat.add_sub_cancel_left] at hv
          obtain ⟨w, s2, ha, hG, hC⟩ := app_nil hv.1 (by rw [List.length_take, List.length_drop]; omega)
          have hs2 := hG _ _ hs'
          have hs2c : s2[id]? = some (.cells (RS.c bv { r with at_ := r.at_ + (pk (r.b.drop r.at_) 0 0).2 })) := hG _ _ hs.1
          have hfin : Trn st id (RS.c bv { r with at_ := r.at_ + (pk (r.b.drop r.at_) 0 0).2 + (pk (r.b.drop r.at_) 0 0).1 }) (s2.set id (.cells (RS.c bv { r with at_ := r.at_ + (pk (r.b.drop r.at_) 0 0).2 + (pk (r.b.drop r.at_) 0 0).1 }))) := (hs.grw hG).trans (.set hs2c)
          have hcf := hC.trn (c := RS.c bv { r with at_ := r.at_ + (pk (r.b.drop r.at_) 0 0).2 + (pk (r.b.drop r.at_) 0 0).1 }) hs2c (.set hs2c)
          simp only [RS.c, he] at hfin hcf
          simp only [hn, hs', hal, a1, a2, d, hc, ha, hs2, ↓evp,evq,evr,fxa0,fxa1,fxa2,fxa3,fxu,fxn,fxl,↓fxp,lgc,absL,fitL,flatL,aput,ares,ares1,ofVal,unSc,aload,afill,splice,abound,asI,elems,IntKind.bits,sortT,eqNil,closedL,allByte,patch,pendOK,numA,Value.cells,Value.oneCell',ibin,List.replicate,Option.elim,Nat.reduceAdd,Nat.reduceSub,Nat.reduceMul,Nat.reduceLT,Nat.reduceEqDiff,Nat.reduceLeDiff,Nat.reduceBEq,Int.reduceLE,Int.reduceLT,Int.reduceToNat,Int.reduceBNe,Int.reduceBEq,Int.reduceNeg,Int.reduceEq,Int.reduceNe,Nat.reduceBNe,Int.reduceAdd,Int.reduceSub,Int.reduceMul,Int.reducePow,Nat.reducePow,Int.reduceGT,Int.reduceGE,if_true,if_false,ite_true,ite_false,beq_self_eq_true,BEq.rfl,reduceCtorEq,eq_self,ne_eq,Function.comp_def,beq_iff_eq]
          simp only [RS.c, he] at h
          exact h _ _ hfin hcf
  · have hn : r.nb most = (0, r) := by simp only [RS.nb, if_neg he]
    have hy : r.by most = ([], r) := by simp only [RS.by, if_neg he]
    have e0 : (r.e != 0) = true := by simpa using he
    rw [hn] at hs hs'
    rw [hy] at h
    simp only [hn, hs', e0, ↓evp,evq,evr,fxa0,fxa1,fxa2,fxa3,fxu,fxn,fxl,↓fxp,lgc,absL,fitL,flatL,aput,ares,ares1,ofVal,unSc,aload,afill,splice,abound,asI,elems,IntKind.bits,sortT,eqNil,closedL,allByte,patch,pendOK,numA,Value.cells,Value.oneCell',ibin,List.replicate,Option.elim,Nat.reduceAdd,Nat.reduceSub,Nat.reduceMul,Nat.reduceLT,Nat.reduceEqDiff,Nat.reduceLeDiff,Nat.reduceBEq,Int.reduceLE,Int.reduceLT,Int.reduceToNat,Int.reduceBNe,Int.reduceBEq,Int.reduceNeg,Int.reduceEq,Int.reduceNe,Nat.reduceBNe,Int.reduceAdd,Int.reduceSub,Int.reduceMul,Int.reducePow,Nat.reducePow,Int.reduceGT,Int.reduceGE,if_true,if_false,ite_true,ite_false,beq_self_eq_true,BEq.rfl,reduceCtorEq,eq_self,ne_eq,Function.comp_def,beq_iff_eq]
    exact h _ _ hs (hcn _)
end
end Go.Proofs.Ytfndpnmdjblokaa
