/- Chapter 4: a copy; the law GridApart. -/
import Derived.Test.YtndjhaeeldegfaaY5
import Derived.Test.YtndjhaeeldegfaaY3
import Derived.Test.YtndjhaeeldegfaaY4
set_option linter.unusedVariables false
set_option linter.unusedSimpArgs false
set_option maxRecDepth 10000
namespace Go.Proofs.Ytndjhaeeldegfaa
open Go Go.M Go.RowKit
attribute [local congr] acallF_cong aloop_cong bcase_cong resK_cong valK_cong wantK_cong callK_cong xputK_cong qputK_cong resM_cong rfK_cong
attribute [local irreducible] seqK blockK loopK nextK bcase resK valK wantK funK putK dputK xputK qputK callK aops aop acode adraw aloop acallF acall invK resM rfK rfEnd rdEnd rdMid around
section
variable {n m : Nat} {st s : List Ob} {K : V → List Ob → Prop} {wd a b : Nat} {WW HH : Int} {tv dv : V} {T : List Int} {us : List (Int × V)} {os : List ((Int × Int) × V)} {ds : List R4}
theorem m_CloneU (ha : st[a]? = some (.map (esI us))) (hK : K (.map st.length) (st ++ [.map (esI us)])) : acallF Try.prog pl (n + 1) m 72 [.map a] st K := by
  refine acallF_prim (g := []) (e := 3) (v := .map st.length) (st' := st ++ [.map (esI us)]) Try.func72 rfl ?_ hK
  simp only [sortedK, ha, if_true]
theorem m_CloneO (ha : st[a]? = some (.map (esC os))) (hK : K (.map st.length) (st ++ [.map (esC os)])) : acallF Try.prog pl (n + 1) m 73 [.map a] st K := by
  refine acallF_prim (g := []) (e := 3) (v := .map st.length) (st' := st ++ [.map (esC os)]) Try.func73 rfl ?_ hK
  simp only [sortedK, ha, if_true]
set_option maxHeartbeats 4000000 in
theorem w_Copy (hi : Wg st wd a b WW HH tv dv (bs T) us os ds) (hT : T.length ≤ 4000000000000) (hdl : ds.length ≤ 4000000000000)
    (hK : ∀ wc ac bc tv' dv' s, Wg s wc ac bc WW HH tv' dv' (bs T) us os ds → st.length ≤ wc → st.length ≤ ac → st.length ≤ bc → (∀ j, rowOf tv' = some j → st.length ≤ j) → (∀ j, rowOf dv' = some j → st.length ≤ j) → Grw st s → K (.ref wc 0) s) :
    acallF Try.prog pl (n + 3) m 46 [.ref wd 0] st K := by
  refine acallF_inF Try.func46 rfl rfl Try.ntmps46 (by simp) ?_
  simp only [evf,↓evp,evq,evr,fxa0,fxa1,fxa2,fxa3,fxa4,fxu,fxn,fxl,↓fxp,lgc,absL,fitL,flatL,ares,ares1,ofVal,unSc,aload,afill,splice,abound,asI,elems,IntKind.bits,sortT,eqNil,closedL,allByte,patch,pendOK,numA,Value.cells,Value.oneCell',ibin,List.replicate,Option.elim,Nat.reduceAdd,Nat.reduceSub,Nat.reduceMul,Nat.reduceLT,Nat.reduceEqDiff,Nat.reduceLeDiff,Nat.reduceBEq,Int.reduceLE,Int.reduceLT,Int.reduceToNat,Int.reduceBNe,Int.reduceBEq,Int.reduceNeg,Int.reduceEq,Int.reduceNe,Nat.reduceBNe,Int.reduceAdd,Int.reduceSub,Int.reduceMul,Int.reducePow,Nat.reducePow,Int.reduceGT,Int.reduceGE,if_true,if_false,ite_true,ite_false,beq_self_eq_true,BEq.rfl,reduceCtorEq,eq_self,ne_eq,Function.comp_def,beq_iff_eq]
  refine w_is1 (n := n + 1) hi.wd ?_
  have w0 := hi.wd.w
  have g1 := Grw.push st [Ob.gone]
  have hi1 := hi.grw g1
  have w1 := hi1.wd.w
  have tl1 := hi1.tl
  rw [bs_len] at tl1
  simp only [w0, w1, evf,↓evp,evq,evr,fxa0,fxa1,fxa2,fxa3,fxa4,fxu,fxn,fxl,↓fxp,lgc,absL,fitL,flatL,ares,ares1,ofVal,unSc,aload,afill,splice,abound,asI,elems,IntKind.bits,sortT,eqNil,closedL,allByte,patch,pendOK,numA,Value.cells,Value.oneCell',ibin,List.replicate,Option.elim,Nat.reduceAdd,Nat.reduceSub,Nat.reduceMul,Nat.reduceLT,Nat.reduceEqDiff,Nat.reduceLeDiff,Nat.reduceBEq,Int.reduceLE,Int.reduceLT,Int.reduceToNat,Int.reduceBNe,Int.reduceBEq,Int.reduceNeg,Int.reduceEq,Int.reduceNe,Nat.reduceBNe,Int.reduceAdd,Int.reduceSub,Int.reduceMul,Int.reducePow,Nat.reducePow,Int.reduceGT,Int.reduceGE,if_true,if_false,ite_true,ite_false,beq_self_eq_true,BEq.rfl,reduceCtorEq,eq_self,ne_eq,Function.comp_def,beq_iff_eq]
  refine c_cloneB (n := n + 1) (tl1.rd sz5 (by rw [bs_len]; omega)) (closed_bs _) hT fun tv' s2 gt2 g2 nt2 => ?_
  have hi2 := hi1.grw g2
  have w2 := hi2.wd.w
  simp only [w0, w1, w2, g2, true_or, evf,↓evp,evq,evr,fxa0,fxa1,fxa2,fxa3,fxa4,fxu,fxn,fxl,↓fxp,lgc,absL,fitL,flatL,ares,ares1,ofVal,unSc,aload,afill,splice,abound,asI,elems,IntKind.bits,sortT,eqNil,closedL,allByte,patch,pendOK,numA,Value.cells,Value.oneCell',ibin,List.replicate,Option.elim,Nat.reduceAdd,Nat.reduceSub,Nat.reduceMul,Nat.reduceLT,Nat.reduceEqDiff,Nat.reduceLeDiff,Nat.reduceBEq,Int.reduceLE,Int.reduceLT,Int.reduceToNat,Int.reduceBNe,Int.reduceBEq,Int.reduceNeg,Int.reduceEq,Int.reduceNe,Nat.reduceBNe,Int.reduceAdd,Int.reduceSub,Int.reduceMul,Int.reducePow,Nat.reducePow,Int.reduceGT,Int.reduceGE,if_true,if_false,ite_true,ite_false,beq_self_eq_true,BEq.rfl,reduceCtorEq,eq_self,ne_eq,Function.comp_def,beq_iff_eq]
  refine m_CloneU (n := n + 1) hi2.wd.us ?_
  obtain ⟨s3, hs3⟩ : ∃ s3, s3 = s2 ++ [Ob.map (esI us)] := ⟨_, rfl⟩
  have g3 : Grw s2 s3 := by rw [hs3]; exact .push _ _
  have m3 : s3[s2.length]? = some (.map (esI us)) := by rw [hs3]; exact get_new0 _ _
  have l3 : s3.length = s2.length + 1 := by rw [hs3]; simp
  have hi3 := hi2.grw g3
  have w3 := hi3.wd.w
  rw [← hs3]
  simp only [w0, w1, w2, w3, g2, g3, true_or, evf,↓evp,evq,evr,fxa0,fxa1,fxa2,fxa3,fxa4,fxu,fxn,fxl,↓fxp,lgc,absL,fitL,flatL,ares,ares1,ofVal,unSc,aload,afill,splice,abound,asI,elems,IntKind.bits,sortT,eqNil,closedL,allByte,patch,pendOK,numA,Value.cells,Value.oneCell',ibin,List.replicate,Option.elim,Nat.reduceAdd,Nat.reduceSub,Nat.reduceMul,Nat.reduceLT,Nat.reduceEqDiff,Nat.reduceLeDiff,Nat.reduceBEq,Int.reduceLE,Int.reduceLT,Int.reduceToNat,Int.reduceBNe,Int.reduceBEq,Int.reduceNeg,Int.reduceEq,Int.reduceNe,Nat.reduceBNe,Int.reduceAdd,Int.reduceSub,Int.reduceMul,Int.reducePow,Nat.reducePow,Int.reduceGT,Int.reduceGE,if_true,if_false,ite_true,ite_false,beq_self_eq_true,BEq.rfl,reduceCtorEq,eq_self,ne_eq,Function.comp_def,beq_iff_eq]
  refine m_CloneO (n := n + 1) hi3.wd.os ?_
  obtain ⟨s4, hs4⟩ : ∃ s4, s4 = s3 ++ [Ob.map (esC os)] := ⟨_, rfl⟩
  have g4 : Grw s3 s4 := by rw [hs4]; exact .push _ _
  have m4 : s4[s3.length]? = some (.map (esC os)) := by rw [hs4]; exact get_new0 _ _
  have l4 : s4.length = s3.length + 1 := by rw [hs4]; simp
  have hi4 := hi3.grw g4
  have w4 := hi4.wd.w
  rw [← hs4]
  simp only [w0, w1, w2, w3, w4, g2, g3, g4, true_or, evf,↓evp,evq,evr,fxa0,fxa1,fxa2,fxa3,fxa4,fxu,fxn,fxl,↓fxp,lgc,absL,fitL,flatL,ares,ares1,ofVal,unSc,aload,afill,splice,abound,asI,elems,IntKind.bits,sortT,eqNil,closedL,allByte,patch,pendOK,numA,Value.cells,Value.oneCell',ibin,List.replicate,Option.elim,Nat.reduceAdd,Nat.reduceSub,Nat.reduceMul,Nat.reduceLT,Nat.reduceEqDiff,Nat.reduceLeDiff,Nat.reduceBEq,Int.reduceLE,Int.reduceLT,Int.reduceToNat,Int.reduceBNe,Int.reduceBEq,Int.reduceNeg,Int.reduceEq,Int.reduceNe,Nat.reduceBNe,Int.reduceAdd,Int.reduceSub,Int.reduceMul,Int.reducePow,Nat.reducePow,Int.reduceGT,Int.reduceGE,if_true,if_false,ite_true,ite_false,beq_self_eq_true,BEq.rfl,reduceCtorEq,eq_self,ne_eq,Function.comp_def,beq_iff_eq]
  refine c_cloneR (n := n + 1) (hi4.dl.rd sz78 (flatMap_len (f := R4.v) (s := 4) (fun _ => rfl) _)) (closed_rs _) hdl fun dv' s5 gd5 g5 nd5 => ?_
  have hi5 := hi4.grw g5
  have w5 := hi5.wd.w
  obtain ⟨o1, o2⟩ := gt2.one
  obtain ⟨o3, o4⟩ := gd5.one
  have gg := ((g2.trans g3).trans g4).trans g5
  have x5 : s5[st.length]? = some .gone := gg _ _ (get_new0 _ _)
  have b5 : ∀ o, (s5.set st.length o)[st.length]? = some o := fun o => get_set x5 o
  simp only [w0, w1, w2, w3, w4, w5, g2, g3, g4, g5, o1, o2, o3, o4, x5, b5, true_or, evf,↓evp,evq,evr,fxa0,fxa1,fxa2,fxa3,fxa4,fxu,fxn,fxl,↓fxp,lgc,absL,fitL,flatL,ares,ares1,ofVal,unSc,aload,afill,splice,abound,asI,elems,IntKind.bits,sortT,eqNil,closedL,allByte,patch,pendOK,numA,Value.cells,Value.oneCell',ibin,List.replicate,Option.elim,Nat.reduceAdd,Nat.reduceSub,Nat.reduceMul,Nat.reduceLT,Nat.reduceEqDiff,Nat.reduceLeDiff,Nat.reduceBEq,Int.reduceLE,Int.reduceLT,Int.reduceToNat,Int.reduceBNe,Int.reduceBEq,Int.reduceNeg,Int.reduceEq,Int.reduceNe,Nat.reduceBNe,Int.reduceAdd,Int.reduceSub,Int.reduceMul,Int.reducePow,Nat.reducePow,Int.reduceGT,Int.reduceGE,if_true,if_false,ite_true,ite_false,beq_self_eq_true,BEq.rfl,reduceCtorEq,eq_self,ne_eq,Function.comp_def,beq_iff_eq]
  have l1 : (st ++ [Ob.gone]).length = st.length + 1 := by simp
  have l2 := g2.le
  have l5 := g5.le
  have sn : ∀ (o : Ob) (j : Nat), j ≠ st.length → (s5.set st.length o)[j]? = s5[j]? := fun o j hj => List.getElem?_set_ne (Ne.symm hj)
  have rt : ∀ j, rowOf tv' = some j → st.length < j := fun j hj => by have := nt2 j hj; omega
  have rd : ∀ j, rowOf dv' = some j → s4.length ≤ j := nd5
  refine hK st.length s2.length s3.length tv' dv' _ ⟨⟨b5 _, ?_, ?_⟩, ?_, ?_, ?_, by omega, hi.rcs⟩ (Nat.le_refl _) (by omega) (by omega) (fun j hj => Nat.le_of_lt (rt j hj)) (fun j hj => by have := rd j hj; omega) ?_
  · rw [sn _ _ (by omega)]; exact g5 _ _ (g4 _ _ m3)
  · rw [sn _ _ (by omega)]; exact g5 _ _ m4
  · rw [bs_len]
    exact (((gt2.grw g3).grw g4).grw g5).of fun j o hj ho => by rw [sn _ _ (by have := rt j hj; omega)]; exact ho
  · exact gd5.of fun j o hj ho => by rw [sn _ _ (by have := rd j hj; omega)]; exact ho
  · intro j h1 h2
    have h3 := rd j h2
    have := gt2.lt j h1
    omega
  · intro j o ho
    have lj : j < st.length := (List.getElem?_eq_some_iff.1 ho).1
    rw [sn _ _ (by omega)]
    exact gg _ _ (Grw.push st _ _ _ ho)
end
theorem gl_sto {P : Program} {s : List Ob} {e t te : TypeId} {v x : V} {xs : List V} {n k i : Nat} (h : Gl s e v xs n) (ht : P.underlying t = some (.slice e)) (hk : szOf P e = some k) (hl : xs.length = n * k) (hi : i < n)
    (hx : szOf P te = some (cellsV x).length) (hxk : (cellsV x).length ≤ k) (ho : (cellsV x).all M.one = true) (hc : closedL (cellsV x) = true) :
    ∃ A s', aix P s t v (.sc (.int .i64 i)) = some (A, s) ∧ (∀ t f, fieldOf P t 0 = some (0, f + 1, te) → afa P s t 0 A = some (A, s)) ∧ asto P s te A x = some (.sc undef, s') ∧ Gl s' e v (splice xs (cellsV x) (i * k)) n ∧ (splice xs (cellsV x) (i * k)).length = n * k ∧
      (∀ j o, rowOf v ≠ some j → s[j]? = some o → s'[j]? = some o) := by
  rcases h with ⟨_, _, rfl⟩ | ⟨id, lo, rfl, h1, h2⟩
  · omega
  have hb : i * k + k ≤ n * k := by
    have := Nat.mul_le_mul_right k (show i + 1 ≤ n by omega)
    rw [Nat.succ_mul] at this
    exact this
  have hlen : (splice xs (cellsV x) (i * k)).length = n * k := by
    unfold splice
    rw [List.length_append, List.length_append, List.length_take, List.length_drop]
    omega
  have hlt : id < s.length := (List.getElem?_eq_some_iff.1 h1).1
  refine ⟨.rref id (i * k) n, s.set id (.row e (splice xs (cellsV x) (i * k)) n n false), ?_, fun t f hf => ?_, ?_, .inr ⟨id, n, rfl, List.getElem?_set_self hlt, Nat.le_refl _⟩, hlen, fun j o hj ho => ?_⟩
  · rw [aix_sl, ht]
    simp only [h1, hk]
    rw [if_pos ⟨trivial, by omega, by omega, h2⟩, Int.toNat_natCast, Nat.zero_add]
  · rw [afa_rref, hf]
    simp only [Nat.add_zero]
    rw [if_neg (by omega)]
  · rw [asto_rref, h1]
    simp only
    rw [if_pos ⟨hx.symm, by rw [hl]; omega, trivial, trivial, ho, hc⟩]
  · rw [List.getElem?_set_ne (fun he => hj (by rw [← he]; rfl))]
    exact ho
section
variable {n m : Nat} {st s : List Ob} {K : V → List Ob → Prop} {WW HH : Int} {T : List Int} {L : List B4} {E : List E4} {tv bv lv : V}
theorem e_rz {s : List Ob} (hv : Rd Try.prog s 101 lv (E.flatMap E4.v) E.length) {i : Nat} (hi : i < E.length) : afa Try.prog s 101 0 (ixp 6 lv i 0) = some (ixp 6 lv i 0, s) ∧ ald Try.prog s 4 (ixp 6 lv i 0) = some (.sc (.bool E[i].rz), s) := by
  refine ⟨afa_ix hv (i := 0) (off := 0) (k := 1) (ft := 4) (by kernel_rfl) (by omega) i 0, ?_⟩
  rw [ald_ix hv sz101 sz4 (by omega) hi (by omega)]
  simp only [aload, ag4, Nat.add_zero]
  rw [flatMap_at (f := E4.v) (s := 6) (fun a => rfl) E i hi]
  rfl
theorem e_u {s : List Ob} (hv : Rd Try.prog s 101 lv (E.flatMap E4.v) E.length) {i : Nat} (hi : i < E.length) : afa Try.prog s 101 1 (ixp 6 lv i 0) = some (ixp 6 lv i 1, s) ∧ ald Try.prog s 90 (ixp 6 lv i 1) = some (.agg (B4.v E[i].u), s) ∧
    afa Try.prog s 90 0 (ixp 6 lv i 1) = some (ixp 6 lv i 1, s) ∧ ald Try.prog s 3 (ixp 6 lv i 1) = some (.sc (.int .i64 E[i].u.id), s) := by
  have e : (E.flatMap E4.v).drop (i * 6 + 1) = B4.v E[i].u ++ (E.drop (i + 1)).flatMap E4.v := by
    rw [← List.drop_drop, flatMap_at (f := E4.v) (s := 6) (fun a => rfl) E i hi]
    rfl
  refine ⟨afa_ix hv (i := 1) (off := 1) (k := 5) (ft := 90) (by kernel_rfl) (by omega) i 0, ?_, afa_ix hv (i := 0) (off := 0) (k := 1) (ft := 3) (by kernel_rfl) (by omega) i 1, ?_⟩
  · rw [ald_ix hv sz101 sz90 (by omega) hi (by omega), e]
    simp only [aload, ag90, sz90]
    rw [if_pos (by simp [B4.v, bd, rc])]
    rfl
  · rw [ald_ix hv sz101 sz3 (by omega) hi (by omega), e]
    simp only [aload, ag3]
    rfl
theorem len_bump {k n : Nat} {i : Nat} (h : k ≤ n + 1) (h2 : n + 1 ≤ i + 1) : k ≤ i + 1 := by omega
set_option maxHeartbeats 8000000 in
theorem l_Apart {lv2 : V} {E2 : List E4} (ht : ∀ s, Rd Try.prog s 5 tv (bs T) T.length) (hb : ∀ s, Rd Try.prog s 90 bv (L.flatMap B4.v) L.length) (he : ∀ s, Rd Try.prog s 101 lv (E.flatMap E4.v) E.length) (he2 : ∀ s, Rd Try.prog s 101 lv2 (E2.flatMap E4.v) E2.length) (ot : M.one tv = true ∧ cellsV tv = [tv]) (ob : M.one bv = true ∧ cellsV bv = [bv])
    (hm : 16384 < m) (hTm : T.length < m) (hEm : E.length < m) (hE2m : E2.length < m) (hTb : ∀ t ∈ T, 0 ≤ t ∧ t < 256) (hT : T.length ≤ 140737488355328) (hL : L.length ≤ 3518437208883) (hEl : E.length ≤ 1932031007402) (hE2l : E2.length ≤ 1932031007402) (hK : ∀ s, K (.sc (.bool true)) s) :
    acallF Try.prog pl (n + 12) m 11 [.agg (mp WW HH tv bv), lv, lv2] st K := by
  refine acallF_inF Try.func11 rfl rfl Try.ntmps11 (by simp) ?_
  obtain ⟨s1, hs1⟩ : ∃ s1, s1 = st ++ [Ob.cells (mp WW HH tv bv)] := ⟨_, rfl⟩
  have c1 : s1[st.length]? = some (.cells (mp WW HH tv bv)) := by rw [hs1]; exact get_new _ _ 0
  simp only [mp] at hs1 c1
  simp only [mp, ot.1, ot.2, ob.1, ob.2, evf,↓evp,evq,evr,fxa0,fxa1,fxa2,fxa3,fxa4,fxu,fxn,fxl,↓fxp,lgc,absL,fitL,flatL,ares,ares1,ofVal,unSc,aload,afill,splice,abound,asI,elems,IntKind.bits,sortT,eqNil,closedL,allByte,patch,pendOK,numA,Value.cells,Value.oneCell',ibin,List.replicate,Option.elim,Nat.reduceAdd,Nat.reduceSub,Nat.reduceMul,Nat.reduceLT,Nat.reduceEqDiff,Nat.reduceLeDiff,Nat.reduceBEq,Int.reduceLE,Int.reduceLT,Int.reduceToNat,Int.reduceBNe,Int.reduceBEq,Int.reduceNeg,Int.reduceEq,Int.reduceNe,Nat.reduceBNe,Int.reduceAdd,Int.reduceSub,Int.reduceMul,Int.reducePow,Nat.reducePow,Int.reduceGT,Int.reduceGE,if_true,if_false,ite_true,ite_false,beq_self_eq_true,BEq.rfl,reduceCtorEq,eq_self,ne_eq,Function.comp_def,beq_iff_eq]
  rw [← hs1]
  refine l_Made (n := n) ht hb he ot ob (by omega) hTm hEm hTb hT hL (by omega) (fun _ s2 g2 => ?_) fun eOK wd a b rd tv1 tv2 dv bv' ev us os L' ds s2 bo hL' hds fs => ?_
  · simp only [get_new, get_new0, M.set_new, M.set_new0, evf,↓evp,evq,evr,fxa0,fxa1,fxa2,fxa3,fxa4,fxu,fxn,fxl,↓fxp,lgc,absL,fitL,flatL,ares,ares1,ofVal,unSc,aload,afill,splice,abound,asI,elems,IntKind.bits,sortT,eqNil,closedL,allByte,patch,pendOK,numA,Value.cells,Value.oneCell',ibin,List.replicate,Option.elim,Nat.reduceAdd,Nat.reduceSub,Nat.reduceMul,Nat.reduceLT,Nat.reduceEqDiff,Nat.reduceLeDiff,Nat.reduceBEq,Int.reduceLE,Int.reduceLT,Int.reduceToNat,Int.reduceBNe,Int.reduceBEq,Int.reduceNeg,Int.reduceEq,Int.reduceNe,Nat.reduceBNe,Int.reduceAdd,Int.reduceSub,Int.reduceMul,Int.reducePow,Nat.reducePow,Int.reduceGT,Int.reduceGE,if_true,if_false,ite_true,ite_false,beq_self_eq_true,BEq.rfl,reduceCtorEq,eq_self,ne_eq,Function.comp_def,beq_iff_eq]
    refine awake4 (n := n + 1) (by omega) fun s3 g3 => ?_
    simp only [evf,↓evp,evq,evr,fxa0,fxa1,fxa2,fxa3,fxa4,fxu,fxn,fxl,↓fxp,lgc,absL,fitL,flatL,ares,ares1,ofVal,unSc,aload,afill,splice,abound,asI,elems,IntKind.bits,sortT,eqNil,closedL,allByte,patch,pendOK,numA,Value.cells,Value.oneCell',ibin,List.replicate,Option.elim,Nat.reduceAdd,Nat.reduceSub,Nat.reduceMul,Nat.reduceLT,Nat.reduceEqDiff,Nat.reduceLeDiff,Nat.reduceBEq,Int.reduceLE,Int.reduceLT,Int.reduceToNat,Int.reduceBNe,Int.reduceBEq,Int.reduceNeg,Int.reduceEq,Int.reduceNe,Nat.reduceBNe,Int.reduceAdd,Int.reduceSub,Int.reduceMul,Int.reducePow,Nat.reducePow,Int.reduceGT,Int.reduceGE,if_true,if_false,ite_true,ite_false,beq_self_eq_true,BEq.rfl,reduceCtorEq,eq_self,ne_eq,Function.comp_def,beq_iff_eq]
    exact hK _
  have hTl := refOK_T eOK
  have hle : ds.length ≤ 1932031007402 := by omega
  obtain ⟨s3, hs3⟩ : ∃ s3, s3 = s2 ++ [Ob.cells [.ref wd 0, .ref rd 0]] := ⟨_, rfl⟩
  have g3 : Grw s2 s3 := by rw [hs3]; exact .push _ _
  have c3 : s3[s2.length]? = some (.cells [.ref wd 0, .ref rd 0]) := by rw [hs3]; exact get_new0 _ _
  have l3 : s3.length = s2.length + 1 := by rw [hs3]; simp
  have bo3 := bo.grw g3
  simp only [get_new, get_new0, M.set_new, M.set_new0, evf,↓evp,evq,evr,fxa0,fxa1,fxa2,fxa3,fxa4,fxu,fxn,fxl,↓fxp,lgc,absL,fitL,flatL,ares,ares1,ofVal,unSc,aload,afill,splice,abound,asI,elems,IntKind.bits,sortT,eqNil,closedL,allByte,patch,pendOK,numA,Value.cells,Value.oneCell',ibin,List.replicate,Option.elim,Nat.reduceAdd,Nat.reduceSub,Nat.reduceMul,Nat.reduceLT,Nat.reduceEqDiff,Nat.reduceLeDiff,Nat.reduceBEq,Int.reduceLE,Int.reduceLT,Int.reduceToNat,Int.reduceBNe,Int.reduceBEq,Int.reduceNeg,Int.reduceEq,Int.reduceNe,Nat.reduceBNe,Int.reduceAdd,Int.reduceSub,Int.reduceMul,Int.reducePow,Nat.reducePow,Int.reduceGT,Int.reduceGE,if_true,if_false,ite_true,ite_false,beq_self_eq_true,BEq.rfl,reduceCtorEq,eq_self,ne_eq,Function.comp_def,beq_iff_eq]
  rw [← hs3]
  refine w_Copy (n := n + 8) bo3.p (by omega) (by omega) fun wc ac bc tvc dvc s4 hc4 lwc lac lbc ltc ldc g4 => ?_
  have bo4 := bo3.grw g4
  have c4 := g4 _ _ c3
  simp only [c3, c4, evf,↓evp,evq,evr,fxa0,fxa1,fxa2,fxa3,fxa4,fxu,fxn,fxl,↓fxp,lgc,absL,fitL,flatL,ares,ares1,ofVal,unSc,aload,afill,splice,abound,asI,elems,IntKind.bits,sortT,eqNil,closedL,allByte,patch,pendOK,numA,Value.cells,Value.oneCell',ibin,List.replicate,Option.elim,Nat.reduceAdd,Nat.reduceSub,Nat.reduceMul,Nat.reduceLT,Nat.reduceEqDiff,Nat.reduceLeDiff,Nat.reduceBEq,Int.reduceLE,Int.reduceLT,Int.reduceToNat,Int.reduceBNe,Int.reduceBEq,Int.reduceNeg,Int.reduceEq,Int.reduceNe,Nat.reduceBNe,Int.reduceAdd,Int.reduceSub,Int.reduceMul,Int.reducePow,Nat.reducePow,Int.reduceGT,Int.reduceGE,if_true,if_false,ite_true,ite_false,beq_self_eq_true,BEq.rfl,reduceCtorEq,eq_self,ne_eq,Function.comp_def,beq_iff_eq]
  refine w_Map1 (n := n + 4) bo4.p bo4.rel bo4.srt hL' (by omega) (by omega) fun tvS bvS s5 gt5 gb5 nt5 nb5 g5 => ?_
  obtain ⟨s6, hs6⟩ : ∃ s6, s6 = s5 ++ [Ob.cells (mp WW HH tvS bvS)] := ⟨_, rfl⟩
  have g6 : Grw s5 s6 := by rw [hs6]; exact .push _ _
  have c6 : s6[s5.length]? = some (.cells (mp WW HH tvS bvS)) := by rw [hs6]; exact get_new0 _ _
  obtain ⟨o1, o2⟩ := gt5.one
  obtain ⟨o3, o4⟩ := gb5.one
  simp only [mp] at hs6 c6
  simp only [mp, o1, o2, o3, o4, get_new, get_new0, M.set_new, M.set_new0, evf,↓evp,evq,evr,fxa0,fxa1,fxa2,fxa3,fxa4,fxu,fxn,fxl,↓fxp,lgc,absL,fitL,flatL,ares,ares1,ofVal,unSc,aload,afill,splice,abound,asI,elems,IntKind.bits,sortT,eqNil,closedL,allByte,patch,pendOK,numA,Value.cells,Value.oneCell',ibin,List.replicate,Option.elim,Nat.reduceAdd,Nat.reduceSub,Nat.reduceMul,Nat.reduceLT,Nat.reduceEqDiff,Nat.reduceLeDiff,Nat.reduceBEq,Int.reduceLE,Int.reduceLT,Int.reduceToNat,Int.reduceBNe,Int.reduceBEq,Int.reduceNeg,Int.reduceEq,Int.reduceNe,Nat.reduceBNe,Int.reduceAdd,Int.reduceSub,Int.reduceMul,Int.reducePow,Nat.reducePow,Int.reduceGT,Int.reduceGE,if_true,if_false,ite_true,ite_false,beq_self_eq_true,BEq.rfl,reduceCtorEq,eq_self,ne_eq,Function.comp_def,beq_iff_eq]
  rw [← hs6]
  have g46 : Grw s4 s6 := g5.trans g6
  have l46 := g5.le
  have l6 : s6.length = s5.length + 1 := by rw [hs6]; simp
  have len8 : ∀ {v : V} {xs : List V} {s : List Ob}, Gl s 5 v xs T.length → xs.length = T.length * 1 → Rd Try.prog s 5 v xs T.length := fun h hl => h.rd sz5 hl
  have elT : IntKind.i64.wrap (0 + 1) = 1 := rfl
  refine aloop_forF (fun k f s => ∃ (i : Nat) (ys : List V), k + i = m ∧ i ≤ T.length ∧ Grw s4 s ∧ s[s5.length]? = some (.cells [.sc (.int .i64 WW), .sc (.int .i64 HH), tvS, bvS]) ∧ Gl s 5 tvS ys T.length ∧ ys.length = T.length * 1 ∧ Gl s 90 bvS (L'.flatMap B4.v) L'.length ∧ f 2 = lv2 ∧ f 7 = .ref s2.length 0 ∧ f 10 = .ref wc 0 ∧ f 11 = .ref s5.length 0 ∧ f 12 = .sc (.int .i64 i))
    ⟨0, bs T, by omega, by omega, g46, c6, gt5.grw g6, by rw [bs_len, Nat.mul_one], gb5.grw g6, by simp only [evf, ne_eq, Nat.reduceEqDiff, Nat.reduceLT, not_false_eq_true], by simp only [evf, ne_eq, Nat.reduceEqDiff, Nat.reduceLT, not_false_eq_true], by simp only [evf, ne_eq, Nat.reduceEqDiff, Nat.reduceLT, not_false_eq_true], by simp only [evf, ne_eq, Nat.reduceEqDiff, Nat.reduceLT, not_false_eq_true], by simp only [evf, ne_eq, Nat.reduceEqDiff, Nat.reduceLT, not_false_eq_true]; rfl⟩ ?_
  rintro I1 hI1 k f s ⟨i, ys, hk, hi, gs, cS, gtS, hyl, gbS, f2, f7, f10, f11, f12⟩
  refine ⟨k - 1, by omega, ?_⟩
  have al := alen_rd (gtS.rd (P := Try.prog) sz5 hyl) Try.underlying62
  have e3 : IntKind.i64.wrap ((i : Int) + 1) = ((i + 1 : Nat) : Int) := by rw [IntWalk.i64_in _ (by omega)]; rfl
  by_cases hil : i < T.length
  · have d : decide ((i : Int) < T.length) = true := decide_eq_true (by omega)
    obtain ⟨A, s', q1, _, q3, q4, q5, q6⟩ := gl_sto (P := Try.prog) (te := 5) (x := .sc (.int .u8 9)) gtS Try.underlying62 sz5 hyl hil (by rw [sz5]; rfl) (by decide) rfl rfl
    simp only [f2, f7, f10, f11, f12, cS, al, d, q1, q3, e3, evf,↓evp,evq,evr,fxa0,fxa1,fxa2,fxa3,fxa4,fxu,fxn,fxl,↓fxp,lgc,absL,fitL,flatL,ares,ares1,ofVal,unSc,aload,afill,splice,abound,asI,elems,IntKind.bits,sortT,eqNil,closedL,allByte,patch,pendOK,numA,Value.cells,Value.oneCell',ibin,List.replicate,Option.elim,Nat.reduceAdd,Nat.reduceSub,Nat.reduceMul,Nat.reduceLT,Nat.reduceEqDiff,Nat.reduceLeDiff,Nat.reduceBEq,Int.reduceLE,Int.reduceLT,Int.reduceToNat,Int.reduceBNe,Int.reduceBEq,Int.reduceNeg,Int.reduceEq,Int.reduceNe,Nat.reduceBNe,Int.reduceAdd,Int.reduceSub,Int.reduceMul,Int.reducePow,Nat.reducePow,Int.reduceGT,Int.reduceGE,if_true,if_false,ite_true,ite_false,beq_self_eq_true,BEq.rfl,reduceCtorEq,eq_self,ne_eq,Function.comp_def,beq_iff_eq]
    refine hI1 _ _ _ ⟨i + 1, _, by omega, hil, fun j o ho => q6 _ _ (fun hh => ?_) (gs _ _ ho), q6 _ _ (gtS.ncells cS) cS, q4, q5, gbS.of fun j o hj ho => q6 _ _ (fun hh => gbS.nrow gtS (by decide) j hj hh) ho, by simp only [f2, evf, ne_eq, Nat.reduceEqDiff, Nat.reduceLT, not_false_eq_true], by simp only [f7, evf, ne_eq, Nat.reduceEqDiff, Nat.reduceLT, not_false_eq_true], by simp only [f10, evf, ne_eq, Nat.reduceEqDiff, Nat.reduceLT, not_false_eq_true], by simp only [f11, evf, ne_eq, Nat.reduceEqDiff, Nat.reduceLT, not_false_eq_true], by simp only [evf, ne_eq, Nat.reduceEqDiff, Nat.reduceLT, not_false_eq_true]⟩
    have := nt5 j hh
    have lj : j < s4.length := (List.getElem?_eq_some_iff.1 ho).1
    omega
  have d : decide ((i : Int) < T.length) = false := decide_eq_false (by omega)
  simp only [f2, f7, f10, f11, f12, cS, al, d, evf,↓evp,evq,evr,fxa0,fxa1,fxa2,fxa3,fxa4,fxu,fxn,fxl,↓fxp,lgc,absL,fitL,flatL,ares,ares1,ofVal,unSc,aload,afill,splice,abound,asI,elems,IntKind.bits,sortT,eqNil,closedL,allByte,patch,pendOK,numA,Value.cells,Value.oneCell',ibin,List.replicate,Option.elim,Nat.reduceAdd,Nat.reduceSub,Nat.reduceMul,Nat.reduceLT,Nat.reduceEqDiff,Nat.reduceLeDiff,Nat.reduceBEq,Int.reduceLE,Int.reduceLT,Int.reduceToNat,Int.reduceBNe,Int.reduceBEq,Int.reduceNeg,Int.reduceEq,Int.reduceNe,Nat.reduceBNe,Int.reduceAdd,Int.reduceSub,Int.reduceMul,Int.reducePow,Nat.reducePow,Int.reduceGT,Int.reduceGE,if_true,if_false,ite_true,ite_false,beq_self_eq_true,BEq.rfl,reduceCtorEq,eq_self,ne_eq,Function.comp_def,beq_iff_eq]
  refine aloop_forF (fun k f s => ∃ (i : Nat) (zs : List V), k + i = m ∧ i ≤ L'.length ∧ Grw s4 s ∧ s[s5.length]? = some (.cells [.sc (.int .i64 WW), .sc (.int .i64 HH), tvS, bvS]) ∧ Gl s 90 bvS zs L'.length ∧ zs.length = L'.length * 5 ∧ f 2 = lv2 ∧ f 7 = .ref s2.length 0 ∧ f 10 = .ref wc 0 ∧ f 11 = .ref s5.length 0 ∧ f 13 = .sc (.int .i64 i))
    ⟨0, _, by omega, by omega, gs, cS, gbS, flatMap_len (f := B4.v) (s := 5) (fun _ => rfl) _, by simp only [f2, evf, ne_eq, Nat.reduceEqDiff, Nat.reduceLT, not_false_eq_true], by simp only [f7, evf, ne_eq, Nat.reduceEqDiff, Nat.reduceLT, not_false_eq_true], by simp only [f10, evf, ne_eq, Nat.reduceEqDiff, Nat.reduceLT, not_false_eq_true], by simp only [f11, evf, ne_eq, Nat.reduceEqDiff, Nat.reduceLT, not_false_eq_true], by simp only [evf, ne_eq, Nat.reduceEqDiff, Nat.reduceLT, not_false_eq_true]; rfl⟩ ?_
  clear al d e3 hil gs cS gtS hyl gbS f2 f7 f10 f11 f12 hk hi
  rintro I2 hI2 k f s ⟨i, zs, hk, hi, gs, cS, gbS, hzl, f2, f7, f10, f11, f13⟩
  refine ⟨k - 1, by omega, ?_⟩
  have al := alen_rd (gbS.rd (P := Try.prog) sz90 hzl) Try.underlying63
  have e3 : IntKind.i64.wrap ((i : Int) + 1) = ((i + 1 : Nat) : Int) := by rw [IntWalk.i64_in _ (by omega)]; rfl
  by_cases hil : i < L'.length
  · have d : decide ((i : Int) < L'.length) = true := decide_eq_true (by omega)
    obtain ⟨A, s', q1, q2, q3, q4, q5, q6⟩ := gl_sto (P := Try.prog) (te := 3) (x := .sc (.int .i64 0)) gbS Try.underlying63 sz90 hzl hil (by rw [sz3]; rfl) (by decide) rfl rfl
    have q2 := q2 90 0 (by kernel_rfl)
    simp only [f2, f7, f10, f11, f13, cS, al, d, q1, q2, q3, e3, evf,↓evp,evq,evr,fxa0,fxa1,fxa2,fxa3,fxa4,fxu,fxn,fxl,↓fxp,lgc,absL,fitL,flatL,ares,ares1,ofVal,unSc,aload,afill,splice,abound,asI,elems,IntKind.bits,sortT,eqNil,closedL,allByte,patch,pendOK,numA,Value.cells,Value.oneCell',ibin,List.replicate,Option.elim,Nat.reduceAdd,Nat.reduceSub,Nat.reduceMul,Nat.reduceLT,Nat.reduceEqDiff,Nat.reduceLeDiff,Nat.reduceBEq,Int.reduceLE,Int.reduceLT,Int.reduceToNat,Int.reduceBNe,Int.reduceBEq,Int.reduceNeg,Int.reduceEq,Int.reduceNe,Nat.reduceBNe,Int.reduceAdd,Int.reduceSub,Int.reduceMul,Int.reducePow,Nat.reducePow,Int.reduceGT,Int.reduceGE,if_true,if_false,ite_true,ite_false,beq_self_eq_true,BEq.rfl,reduceCtorEq,eq_self,ne_eq,Function.comp_def,beq_iff_eq]
    refine hI2 _ _ _ ⟨i + 1, _, by omega, hil, fun j o ho => q6 _ _ (fun hh => ?_) (gs _ _ ho), q6 _ _ (gbS.ncells cS) cS, q4, q5, by simp only [f2, evf, ne_eq, Nat.reduceEqDiff, Nat.reduceLT, not_false_eq_true], by simp only [f7, evf, ne_eq, Nat.reduceEqDiff, Nat.reduceLT, not_false_eq_true], by simp only [f10, evf, ne_eq, Nat.reduceEqDiff, Nat.reduceLT, not_false_eq_true], by simp only [f11, evf, ne_eq, Nat.reduceEqDiff, Nat.reduceLT, not_false_eq_true], by simp only [evf, ne_eq, Nat.reduceEqDiff, Nat.reduceLT, not_false_eq_true]⟩
    have := nb5 j hh
    have lj : j < s4.length := (List.getElem?_eq_some_iff.1 ho).1
    omega
  have d : decide ((i : Int) < L'.length) = false := decide_eq_false (by omega)
  simp only [f2, f7, f10, f11, f13, cS, al, d, evf,↓evp,evq,evr,fxa0,fxa1,fxa2,fxa3,fxa4,fxu,fxn,fxl,↓fxp,lgc,absL,fitL,flatL,ares,ares1,ofVal,unSc,aload,afill,splice,abound,asI,elems,IntKind.bits,sortT,eqNil,closedL,allByte,patch,pendOK,numA,Value.cells,Value.oneCell',ibin,List.replicate,Option.elim,Nat.reduceAdd,Nat.reduceSub,Nat.reduceMul,Nat.reduceLT,Nat.reduceEqDiff,Nat.reduceLeDiff,Nat.reduceBEq,Int.reduceLE,Int.reduceLT,Int.reduceToNat,Int.reduceBNe,Int.reduceBEq,Int.reduceNeg,Int.reduceEq,Int.reduceNe,Nat.reduceBNe,Int.reduceAdd,Int.reduceSub,Int.reduceMul,Int.reducePow,Nat.reducePow,Int.reduceGT,Int.reduceGE,if_true,if_false,ite_true,ite_false,beq_self_eq_true,BEq.rfl,reduceCtorEq,eq_self,ne_eq,Function.comp_def,beq_iff_eq]
  have g34 : Grw s3 s := g4.trans gs
  refine aloop_forF (fun k f s => ∃ (i : Nat) (dvc : V) (us' : List (Int × V)) (os' : List ((Int × Int) × V)) (ds' : List R4) (M : List B4), k + i = m ∧ i ≤ E2.length ∧ Grw s3 s ∧ Wg s wc ac bc WW HH tvc dvc (bs T) us' os' ds' ∧ (∀ j, rowOf dvc = some j → s3.length ≤ j) ∧ Rel WW HH us' os' M ∧ M.length ≤ 256 ∧ ds'.length ≤ ds.length + i ∧ (us', os', ds') = (E2.take i).foldl (fun a e => edW WW HH a.1 a.2.1 a.2.2 e) (us, os, ds) ∧ f 2 = lv2 ∧ f 7 = .ref s2.length 0 ∧ f 10 = .ref wc 0 ∧ f 14 = .sc (.int .i64 i))
    ⟨0, dvc, us, os, ds, L', by omega, by omega, g34, hc4.grw gs, ldc, bo.rel, hL', by omega, rfl, by simp only [f2, evf, ne_eq, Nat.reduceEqDiff, Nat.reduceLT, not_false_eq_true], by simp only [f7, evf, ne_eq, Nat.reduceEqDiff, Nat.reduceLT, not_false_eq_true], by simp only [f10, evf, ne_eq, Nat.reduceEqDiff, Nat.reduceLT, not_false_eq_true], by simp only [evf, ne_eq, Nat.reduceEqDiff, Nat.reduceLT, not_false_eq_true]; rfl⟩ ?_
  clear al d e3 hil gs cS gbS hzl f2 f7 f10 f11 f13 hk hi g34
  rintro I3 hI3 k f s ⟨i, dvc', us', os', ds', M, hk, hi, gs, hc, hdr, rel, hMl, hdl, hfo, f2, f7, f10, f14⟩
  refine ⟨k - 1, by omega, ?_⟩
  have al := alen_rd (he2 s) Try.underlying66
  have e3 : IntKind.i64.wrap ((i : Int) + 1) = ((i + 1 : Nat) : Int) := by rw [IntWalk.i64_in _ (by omega)]; rfl
  by_cases hil : i < E2.length
  · have d : decide ((i : Int) < E2.length) = true := decide_eq_true (by omega)
    obtain ⟨p1, p2⟩ := ix_flat (f := E4.v) (fun a => rfl) (he2 s) Try.underlying66 sz101 ag101 (by omega) hil
    obtain ⟨p3, p4⟩ := e_rz (he2 s) hil
    obtain ⟨p5, p6, p7, p8⟩ := e_u (he2 s) hil
    have tk : ∀ r, edW WW HH us' os' ds' E2[i] = r → r = (E2.take (i + 1)).foldl (fun a e => edW WW HH a.1 a.2.1 a.2.2 e) (us, os, ds) := fun r hr => by
      rw [← List.take_append_getElem (h := hil), List.foldl_append, ← hfo, ← hr]; rfl
    have ls := gs.le
    have keep : ∀ {dvq : V} {s' : List Ob}, (∀ j, rowOf dvq = some j → s3.length ≤ j) → PK wc ac bc dvq s s' → Grw s3 s' := fun hd h j o ho => by
      have lj : j < s3.length := (List.getElem?_eq_some_iff.1 ho).1
      exact h.2 _ _ (by omega) (by omega) (by omega) (fun hh => by have := hd j hh; omega) (gs _ _ ho)
    have hul : us'.length < 1000000 := by rw [rel.len]; omega
    cases hrz : E2[i].rz
    · simp only [B4.v, bd, rc] at p6
      simp only [f2, f7, f10, f14, al, d, p1, p3, p4, p5, p6, p7, p8, hrz, evf,↓evp,evq,evr,fxa0,fxa1,fxa2,fxa3,fxa4,fxu,fxn,fxl,↓fxp,lgc,absL,fitL,flatL,ares,ares1,ofVal,unSc,aload,afill,splice,abound,asI,elems,IntKind.bits,sortT,eqNil,closedL,allByte,patch,pendOK,numA,Value.cells,Value.oneCell',ibin,List.replicate,Option.elim,Nat.reduceAdd,Nat.reduceSub,Nat.reduceMul,Nat.reduceLT,Nat.reduceEqDiff,Nat.reduceLeDiff,Nat.reduceBEq,Int.reduceLE,Int.reduceLT,Int.reduceToNat,Int.reduceBNe,Int.reduceBEq,Int.reduceNeg,Int.reduceEq,Int.reduceNe,Nat.reduceBNe,Int.reduceAdd,Int.reduceSub,Int.reduceMul,Int.reducePow,Nat.reducePow,Int.reduceGT,Int.reduceGE,if_true,if_false,ite_true,ite_false,beq_self_eq_true,BEq.rfl,reduceCtorEq,eq_self,ne_eq,Function.comp_def,beq_iff_eq]
      refine w_Place1 (n := n + 3) (id := E2[i].u.id) (x := E2[i].u.x) (y := E2[i].u.y) (w := E2[i].u.w) (h := E2[i].u.h) hc hul (by omega) (by omega) (fun hne s' g' => ?_) fun h0 dvq s' hc' k' nd' => ?_
      · simp only [f2, f7, f10, f14, e3, evf,↓evp,evq,evr,fxa0,fxa1,fxa2,fxa3,fxa4,fxu,fxn,fxl,↓fxp,lgc,absL,fitL,flatL,ares,ares1,ofVal,unSc,aload,afill,splice,abound,asI,elems,IntKind.bits,sortT,eqNil,closedL,allByte,patch,pendOK,numA,Value.cells,Value.oneCell',ibin,List.replicate,Option.elim,Nat.reduceAdd,Nat.reduceSub,Nat.reduceMul,Nat.reduceLT,Nat.reduceEqDiff,Nat.reduceLeDiff,Nat.reduceBEq,Int.reduceLE,Int.reduceLT,Int.reduceToNat,Int.reduceBNe,Int.reduceBEq,Int.reduceNeg,Int.reduceEq,Int.reduceNe,Nat.reduceBNe,Int.reduceAdd,Int.reduceSub,Int.reduceMul,Int.reducePow,Nat.reducePow,Int.reduceGT,Int.reduceGE,if_true,if_false,ite_true,ite_false,beq_self_eq_true,BEq.rfl,reduceCtorEq,eq_self,ne_eq,Function.comp_def,beq_iff_eq]
        exact hI3 _ _ _ ⟨i + 1, dvc', us', os', ds', M, by omega, hil, gs.trans g', hc.grw g', hdr, rel, hMl, by omega, tk _ (by simp only [edW, hrz, Bool.false_eq_true, if_false, if_neg hne]), by simp only [f2, evf, ne_eq, Nat.reduceEqDiff, Nat.reduceLT, not_false_eq_true], by simp only [f7, evf, ne_eq, Nat.reduceEqDiff, Nat.reduceLT, not_false_eq_true], by simp only [f10, evf, ne_eq, Nat.reduceEqDiff, Nat.reduceLT, not_false_eq_true], by simp only [evf, ne_eq, Nat.reduceEqDiff, Nat.reduceLT, not_false_eq_true]⟩
      · simp only [f2, f7, f10, f14, e3, evf,↓evp,evq,evr,fxa0,fxa1,fxa2,fxa3,fxa4,fxu,fxn,fxl,↓fxp,lgc,absL,fitL,flatL,ares,ares1,ofVal,unSc,aload,afill,splice,abound,asI,elems,IntKind.bits,sortT,eqNil,closedL,allByte,patch,pendOK,numA,Value.cells,Value.oneCell',ibin,List.replicate,Option.elim,Nat.reduceAdd,Nat.reduceSub,Nat.reduceMul,Nat.reduceLT,Nat.reduceEqDiff,Nat.reduceLeDiff,Nat.reduceBEq,Int.reduceLE,Int.reduceLT,Int.reduceToNat,Int.reduceBNe,Int.reduceBEq,Int.reduceNeg,Int.reduceEq,Int.reduceNe,Nat.reduceBNe,Int.reduceAdd,Int.reduceSub,Int.reduceMul,Int.reducePow,Nat.reducePow,Int.reduceGT,Int.reduceGE,if_true,if_false,ite_true,ite_false,beq_self_eq_true,BEq.rfl,reduceCtorEq,eq_self,ne_eq,Function.comp_def,beq_iff_eq]
        exact hI3 _ _ _ ⟨i + 1, dvq, _, _, _, insAt 0 E2[i].u M, by omega, hil, keep hdr k', hc', (fun j hj => by
          rcases nd' j hj with h | h
          · exact hdr j h
          · omega), rel.place E2[i].u 0 h0, by rw [insAt_len]; have := (mayR_zero.1 (rel.may E2[i].u ▸ h0)).2.2.1; omega, by simp only [List.length_append, List.length_cons, List.length_nil]; omega, tk _ (by simp only [edW, hrz, Bool.false_eq_true, if_false, if_pos h0]), by simp only [f2, evf, ne_eq, Nat.reduceEqDiff, Nat.reduceLT, not_false_eq_true], by simp only [f7, evf, ne_eq, Nat.reduceEqDiff, Nat.reduceLT, not_false_eq_true], by simp only [f10, evf, ne_eq, Nat.reduceEqDiff, Nat.reduceLT, not_false_eq_true], by simp only [evf, ne_eq, Nat.reduceEqDiff, Nat.reduceLT, not_false_eq_true]⟩
    · simp only [f2, f7, f10, f14, al, d, p1, p3, p4, p5, p6, p7, p8, hrz, evf,↓evp,evq,evr,fxa0,fxa1,fxa2,fxa3,fxa4,fxu,fxn,fxl,↓fxp,lgc,absL,fitL,flatL,ares,ares1,ofVal,unSc,aload,afill,splice,abound,asI,elems,IntKind.bits,sortT,eqNil,closedL,allByte,patch,pendOK,numA,Value.cells,Value.oneCell',ibin,List.replicate,Option.elim,Nat.reduceAdd,Nat.reduceSub,Nat.reduceMul,Nat.reduceLT,Nat.reduceEqDiff,Nat.reduceLeDiff,Nat.reduceBEq,Int.reduceLE,Int.reduceLT,Int.reduceToNat,Int.reduceBNe,Int.reduceBEq,Int.reduceNeg,Int.reduceEq,Int.reduceNe,Nat.reduceBNe,Int.reduceAdd,Int.reduceSub,Int.reduceMul,Int.reducePow,Nat.reducePow,Int.reduceGT,Int.reduceGE,if_true,if_false,ite_true,ite_false,beq_self_eq_true,BEq.rfl,reduceCtorEq,eq_self,ne_eq,Function.comp_def,beq_iff_eq]
      refine w_Raze1 (n := n + 3) hc rel.ni rel.rcs (by omega) (by omega) (fun hg s' g' => ?_) fun x' y' w' h' hg dvq s' hc' k' nd' => ?_
      · simp only [f2, f7, f10, f14, e3, evf,↓evp,evq,evr,fxa0,fxa1,fxa2,fxa3,fxa4,fxu,fxn,fxl,↓fxp,lgc,absL,fitL,flatL,ares,ares1,ofVal,unSc,aload,afill,splice,abound,asI,elems,IntKind.bits,sortT,eqNil,closedL,allByte,patch,pendOK,numA,Value.cells,Value.oneCell',ibin,List.replicate,Option.elim,Nat.reduceAdd,Nat.reduceSub,Nat.reduceMul,Nat.reduceLT,Nat.reduceEqDiff,Nat.reduceLeDiff,Nat.reduceBEq,Int.reduceLE,Int.reduceLT,Int.reduceToNat,Int.reduceBNe,Int.reduceBEq,Int.reduceNeg,Int.reduceEq,Int.reduceNe,Nat.reduceBNe,Int.reduceAdd,Int.reduceSub,Int.reduceMul,Int.reducePow,Nat.reducePow,Int.reduceGT,Int.reduceGE,if_true,if_false,ite_true,ite_false,beq_self_eq_true,BEq.rfl,reduceCtorEq,eq_self,ne_eq,Function.comp_def,beq_iff_eq]
        exact hI3 _ _ _ ⟨i + 1, dvc', us', os', ds', M, by omega, hil, gs.trans g', hc.grw g', hdr, rel, hMl, by omega, tk _ (by simp only [edW, hrz, if_true, hg]), by simp only [f2, evf, ne_eq, Nat.reduceEqDiff, Nat.reduceLT, not_false_eq_true], by simp only [f7, evf, ne_eq, Nat.reduceEqDiff, Nat.reduceLT, not_false_eq_true], by simp only [f10, evf, ne_eq, Nat.reduceEqDiff, Nat.reduceLT, not_false_eq_true], by simp only [evf, ne_eq, Nat.reduceEqDiff, Nat.reduceLT, not_false_eq_true]⟩
      · rcases rel.find E2[i].u.id with ⟨q1, _⟩ | ⟨q, hq, q1, q2, q3⟩
        · rw [q1] at hg; cases hg
        · have hg0 := hg
          rw [q3] at hg
          simp only [rc, Option.some.injEq, V.agg.injEq, List.cons.injEq, V.sc.injEq, Value.int.injEq, true_and, and_true] at hg
          obtain ⟨rfl, rfl, rfl, rfl⟩ := hg
          have relq := rel.take q hq
          rw [q2] at relq
          simp only [f2, f7, f10, f14, e3, evf,↓evp,evq,evr,fxa0,fxa1,fxa2,fxa3,fxa4,fxu,fxn,fxl,↓fxp,lgc,absL,fitL,flatL,ares,ares1,ofVal,unSc,aload,afill,splice,abound,asI,elems,IntKind.bits,sortT,eqNil,closedL,allByte,patch,pendOK,numA,Value.cells,Value.oneCell',ibin,List.replicate,Option.elim,Nat.reduceAdd,Nat.reduceSub,Nat.reduceMul,Nat.reduceLT,Nat.reduceEqDiff,Nat.reduceLeDiff,Nat.reduceBEq,Int.reduceLE,Int.reduceLT,Int.reduceToNat,Int.reduceBNe,Int.reduceBEq,Int.reduceNeg,Int.reduceEq,Int.reduceNe,Nat.reduceBNe,Int.reduceAdd,Int.reduceSub,Int.reduceMul,Int.reducePow,Nat.reducePow,Int.reduceGT,Int.reduceGE,if_true,if_false,ite_true,ite_false,beq_self_eq_true,BEq.rfl,reduceCtorEq,eq_self,ne_eq,Function.comp_def,beq_iff_eq]
          exact hI3 _ _ _ ⟨i + 1, dvq, _, _, _, _, by omega, hil, keep hdr k', hc', (fun j hj => by
            rcases nd' j hj with h | h
            · exact hdr j h
            · omega), relq, by rw [List.length_append, List.length_take, List.length_drop]; omega, by simp only [List.length_append, List.length_cons, List.length_nil]; omega, tk _ (by simp only [edW, hrz, if_true, hg0, rc]), by simp only [f2, evf, ne_eq, Nat.reduceEqDiff, Nat.reduceLT, not_false_eq_true], by simp only [f7, evf, ne_eq, Nat.reduceEqDiff, Nat.reduceLT, not_false_eq_true], by simp only [f10, evf, ne_eq, Nat.reduceEqDiff, Nat.reduceLT, not_false_eq_true], by simp only [evf, ne_eq, Nat.reduceEqDiff, Nat.reduceLT, not_false_eq_true]⟩
  have d : decide ((i : Int) < E2.length) = false := decide_eq_false (by omega)
  obtain rfl : i = E2.length := by omega
  rw [List.take_length] at hfo
  have c7 := gs _ _ c3
  simp only [f2, f7, f10, f14, al, d, c7, evf,↓evp,evq,evr,fxa0,fxa1,fxa2,fxa3,fxa4,fxu,fxn,fxl,↓fxp,lgc,absL,fitL,flatL,ares,ares1,ofVal,unSc,aload,afill,splice,abound,asI,elems,IntKind.bits,sortT,eqNil,closedL,allByte,patch,pendOK,numA,Value.cells,Value.oneCell',ibin,List.replicate,Option.elim,Nat.reduceAdd,Nat.reduceSub,Nat.reduceMul,Nat.reduceLT,Nat.reduceEqDiff,Nat.reduceLeDiff,Nat.reduceBEq,Int.reduceLE,Int.reduceLT,Int.reduceToNat,Int.reduceBNe,Int.reduceBEq,Int.reduceNeg,Int.reduceEq,Int.reduceNe,Nat.reduceBNe,Int.reduceAdd,Int.reduceSub,Int.reduceMul,Int.reducePow,Nat.reducePow,Int.reduceGT,Int.reduceGE,if_true,if_false,ite_true,ite_false,beq_self_eq_true,BEq.rfl,reduceCtorEq,eq_self,ne_eq,Function.comp_def,beq_iff_eq]
  refine l_Is (n := n + 3) (bo3.grw gs) hL' (by omega) (by omega) fun s7 g7 => ?_
  have bo7 := (bo3.grw gs).grw g7
  have hc7 := hc.grw g7
  have c7' := g7 _ _ c7
  simp only [f2, f7, f10, f14, c7', evf,↓evp,evq,evr,fxa0,fxa1,fxa2,fxa3,fxa4,fxu,fxn,fxl,↓fxp,lgc,absL,fitL,flatL,ares,ares1,ofVal,unSc,aload,afill,splice,abound,asI,elems,IntKind.bits,sortT,eqNil,closedL,allByte,patch,pendOK,numA,Value.cells,Value.oneCell',ibin,List.replicate,Option.elim,Nat.reduceAdd,Nat.reduceSub,Nat.reduceMul,Nat.reduceLT,Nat.reduceEqDiff,Nat.reduceLeDiff,Nat.reduceBEq,Int.reduceLE,Int.reduceLT,Int.reduceToNat,Int.reduceBNe,Int.reduceBEq,Int.reduceNeg,Int.reduceEq,Int.reduceNe,Nat.reduceBNe,Int.reduceAdd,Int.reduceSub,Int.reduceMul,Int.reducePow,Nat.reducePow,Int.reduceGT,Int.reduceGE,if_true,if_false,ite_true,ite_false,beq_self_eq_true,BEq.rfl,reduceCtorEq,eq_self,ne_eq,Function.comp_def,beq_iff_eq]
  have lwd2 : wd < s2.length := (List.getElem?_eq_some_iff.1 bo.p.wd.w).1
  have lrd2 : rd < s2.length := (List.getElem?_eq_some_iff.1 bo.r.w).1
  have lwd : wd < s3.length := (List.getElem?_eq_some_iff.1 bo3.p.wd.w).1
  have la : a < s3.length := (List.getElem?_eq_some_iff.1 bo3.p.wd.us).1
  have lb : b < s3.length := (List.getElem?_eq_some_iff.1 bo3.p.wd.os).1
  have lrd : rd < s3.length := (List.getElem?_eq_some_iff.1 bo3.r.w).1
  have lwc7 : wc < s7.length := (List.getElem?_eq_some_iff.1 hc7.wd.w).1
  have lac7 : ac < s7.length := (List.getElem?_eq_some_iff.1 hc7.wd.us).1
  have lbc7 : bc < s7.length := (List.getElem?_eq_some_iff.1 hc7.wd.os).1
  have ltc7 : ∀ j, rowOf tvc = some j → j < s7.length := hc7.tl.lt
  have ldc7 : ∀ j, rowOf dvc' = some j → j < s7.length := hc7.dl.lt
  refine aloop_forF (fun k f s => ∃ (i : Nat) (dv4 bv4 ev4 : V) (us4 : List (Int × V)) (os4 : List ((Int × Int) × V)) (ds4 : List R4) (L4 : List B4), k + i = m ∧ i ≤ E2.length ∧ Bo s wd a b rd WW HH tv1 tv2 dv4 bv4 ev4 T us4 os4 L4 ds4 ∧ L4.length ≤ 256 ∧ ds4.length ≤ ds.length + i ∧ Wg s wc ac bc WW HH tvc dvc' (bs T) us' os' ds' ∧ s7.length ≤ s.length ∧ (∀ j, (rowOf dv4 = some j ∨ rowOf bv4 = some j ∨ rowOf ev4 = some j) → j < s3.length ∨ s7.length ≤ j) ∧ s[s2.length]? = some (.cells [.ref wd 0, .ref rd 0]) ∧ (us4, os4, ds4) = (E2.take i).foldl (fun a e => edW WW HH a.1 a.2.1 a.2.2 e) (us, os, ds) ∧ f 2 = lv2 ∧ f 7 = .ref s2.length 0 ∧ f 10 = .ref wc 0 ∧ f 15 = .sc (.int .i64 i))
    ⟨0, dv, bv', ev, us, os, ds, L', by omega, by omega, bo7, hL', by omega, hc7, Nat.le_refl _, (fun j hj => by
      left
      rcases hj with h | h | h
      · exact bo3.p.dl.lt j h
      · exact bo3.r.bl.lt j h
      · exact bo3.r.el.lt j h), c7', rfl, by simp only [f2, evf, ne_eq, Nat.reduceEqDiff, Nat.reduceLT, not_false_eq_true], by simp only [f7, evf, ne_eq, Nat.reduceEqDiff, Nat.reduceLT, not_false_eq_true], by simp only [f10, evf, ne_eq, Nat.reduceEqDiff, Nat.reduceLT, not_false_eq_true], by simp only [evf, ne_eq, Nat.reduceEqDiff, Nat.reduceLT, not_false_eq_true]; rfl⟩ ?_
  clear al d e3 hil f2 f7 f10 f14 hk hi
  rintro I4 hI4 k f s ⟨i, dv4, bv4, ev4, us4, os4, ds4, L4, hk, hi, bo4', hL4, hd4, hc', hls, hrow, ct, hfo4, f2, f7, f10, f15⟩
  refine ⟨k - 1, by omega, ?_⟩
  have al := alen_rd (he2 s) Try.underlying66
  have e3 : IntKind.i64.wrap ((i : Int) + 1) = ((i + 1 : Nat) : Int) := by rw [IntWalk.i64_in _ (by omega)]; rfl
  by_cases hil : i < E2.length
  · have d : decide ((i : Int) < E2.length) = true := decide_eq_true (by omega)
    obtain ⟨p1, p2⟩ := ix_flat (f := E4.v) (fun a => rfl) (he2 s) Try.underlying66 sz101 ag101 (by omega) hil
    simp only [f2, f7, f10, f15, al, d, ct, p1, p2, evf,↓evp,evq,evr,fxa0,fxa1,fxa2,fxa3,fxa4,fxu,fxn,fxl,↓fxp,lgc,absL,fitL,flatL,ares,ares1,ofVal,unSc,aload,afill,splice,abound,asI,elems,IntKind.bits,sortT,eqNil,closedL,allByte,patch,pendOK,numA,Value.cells,Value.oneCell',ibin,List.replicate,Option.elim,Nat.reduceAdd,Nat.reduceSub,Nat.reduceMul,Nat.reduceLT,Nat.reduceEqDiff,Nat.reduceLeDiff,Nat.reduceBEq,Int.reduceLE,Int.reduceLT,Int.reduceToNat,Int.reduceBNe,Int.reduceBEq,Int.reduceNeg,Int.reduceEq,Int.reduceNe,Nat.reduceBNe,Int.reduceAdd,Int.reduceSub,Int.reduceMul,Int.reducePow,Nat.reducePow,Int.reduceGT,Int.reduceGE,if_true,if_false,ite_true,ite_false,beq_self_eq_true,BEq.rfl,reduceCtorEq,eq_self,ne_eq,Function.comp_def,beq_iff_eq]
    refine l_PlayE (n := n + 2) E2[i] bo4' hL4 (by omega) (by omega) fun dv5 bv5 ev5 us5 os5 L5 ds5 s' hed bo5 hL5 hd5 fc5 hle5 fx5 nw5 => ?_
    have l3s : s3.length ≤ s7.length := Nat.le_trans gs.le g7.le
    have cfx : ∀ j o, s3.length ≤ j → j < s7.length → s[j]? = some o → s'[j]? = some o := fun j o h1 h2 ho => by
      refine fx5 _ _ (by omega) (by omega) (by omega) (by omega) (fun h => ?_) (fun h => ?_) (fun h => ?_) ho
      · rcases hrow j (.inl h) with h | h <;> omega
      · rcases hrow j (.inr (.inl h)) with h | h <;> omega
      · rcases hrow j (.inr (.inr h)) with h | h <;> omega
    have hc5 : Wg s' wc ac bc WW HH tvc dvc' (bs T) us' os' ds' := ⟨⟨cfx _ _ (by omega) lwc7 hc'.wd.w, cfx _ _ (by omega) lac7 hc'.wd.us, cfx _ _ (by omega) lbc7 hc'.wd.os⟩, hc'.tl.of fun j o hj ho => cfx _ _ (ltc j hj) (ltc7 j hj) ho, hc'.dl.of fun j o hj ho => cfx _ _ (hdr j hj) (ldc7 j hj) ho, hc'.ne, hc'.ab, hc'.rcs⟩
    simp only [f2, f7, f10, f15, ct, e3, evf,↓evp,evq,evr,fxa0,fxa1,fxa2,fxa3,fxa4,fxu,fxn,fxl,↓fxp,lgc,absL,fitL,flatL,ares,ares1,ofVal,unSc,aload,afill,splice,abound,asI,elems,IntKind.bits,sortT,eqNil,closedL,allByte,patch,pendOK,numA,Value.cells,Value.oneCell',ibin,List.replicate,Option.elim,Nat.reduceAdd,Nat.reduceSub,Nat.reduceMul,Nat.reduceLT,Nat.reduceEqDiff,Nat.reduceLeDiff,Nat.reduceBEq,Int.reduceLE,Int.reduceLT,Int.reduceToNat,Int.reduceBNe,Int.reduceBEq,Int.reduceNeg,Int.reduceEq,Int.reduceNe,Nat.reduceBNe,Int.reduceAdd,Int.reduceSub,Int.reduceMul,Int.reducePow,Nat.reducePow,Int.reduceGT,Int.reduceGE,if_true,if_false,ite_true,ite_false,beq_self_eq_true,BEq.rfl,reduceCtorEq,eq_self,ne_eq,Function.comp_def,beq_iff_eq]
    refine hI4 _ _ _ ⟨i + 1, dv5, bv5, ev5, us5, os5, ds5, L5, by omega, hil, bo5, hL5, by omega, hc5, by omega, fun j hj => ?_, fc5 _ _ (by omega) (by omega) ct, ?_, by simp only [f2, evf, ne_eq, Nat.reduceEqDiff, Nat.reduceLT, not_false_eq_true], by simp only [f7, evf, ne_eq, Nat.reduceEqDiff, Nat.reduceLT, not_false_eq_true], by simp only [f10, evf, ne_eq, Nat.reduceEqDiff, Nat.reduceLT, not_false_eq_true], by simp only [evf, ne_eq, Nat.reduceEqDiff, Nat.reduceLT, not_false_eq_true]⟩
    · rcases nw5 j hj with h | h
      · exact hrow j h
      · right; omega
    · rw [← List.take_append_getElem (h := hil), List.foldl_append, ← hfo4, ← hed]; rfl
  have d : decide ((i : Int) < E2.length) = false := decide_eq_false (by omega)
  obtain rfl : i = E2.length := by omega
  rw [List.take_length] at hfo4
  have heq : (us4, os4, ds4) = (us', os', ds') := by rw [hfo4, hfo]
  simp only [Prod.mk.injEq] at heq
  obtain ⟨rfl, rfl, rfl⟩ := heq
  simp only [f2, f7, f10, f15, al, d, ct, evf,↓evp,evq,evr,fxa0,fxa1,fxa2,fxa3,fxa4,fxu,fxn,fxl,↓fxp,lgc,absL,fitL,flatL,ares,ares1,ofVal,unSc,aload,afill,splice,abound,asI,elems,IntKind.bits,sortT,eqNil,closedL,allByte,patch,pendOK,numA,Value.cells,Value.oneCell',ibin,List.replicate,Option.elim,Nat.reduceAdd,Nat.reduceSub,Nat.reduceMul,Nat.reduceLT,Nat.reduceEqDiff,Nat.reduceLeDiff,Nat.reduceBEq,Int.reduceLE,Int.reduceLT,Int.reduceToNat,Int.reduceBNe,Int.reduceBEq,Int.reduceNeg,Int.reduceEq,Int.reduceNe,Nat.reduceBNe,Int.reduceAdd,Int.reduceSub,Int.reduceMul,Int.reducePow,Nat.reducePow,Int.reduceGT,Int.reduceGE,if_true,if_false,ite_true,ite_false,beq_self_eq_true,BEq.rfl,reduceCtorEq,eq_self,ne_eq,Function.comp_def,beq_iff_eq]
  refine l_Is (n := n + 3) bo4' hL4 (by omega) (by omega) fun s8 g8 => ?_
  have bo8 := bo4'.grw g8
  have hc8 := hc'.grw g8
  have c8 := g8 _ _ ct
  have boc : Bo s8 wc ac bc rd WW HH tvc tv2 dvc' bv4 ev4 T us4 os4 L4 ds4 := ⟨hc8, bo8.r, bo8.rel, bo8.srt, by omega, fun j h1 h2 => by
    have h3 := hdr j h1
    have h4 := ldc7 j h1
    rcases hrow j (.inr (.inr h2)) with h | h <;> omega⟩
  simp only [f2, f7, f10, f15, c8, evf,↓evp,evq,evr,fxa0,fxa1,fxa2,fxa3,fxa4,fxu,fxn,fxl,↓fxp,lgc,absL,fitL,flatL,ares,ares1,ofVal,unSc,aload,afill,splice,abound,asI,elems,IntKind.bits,sortT,eqNil,closedL,allByte,patch,pendOK,numA,Value.cells,Value.oneCell',ibin,List.replicate,Option.elim,Nat.reduceAdd,Nat.reduceSub,Nat.reduceMul,Nat.reduceLT,Nat.reduceEqDiff,Nat.reduceLeDiff,Nat.reduceBEq,Int.reduceLE,Int.reduceLT,Int.reduceToNat,Int.reduceBNe,Int.reduceBEq,Int.reduceNeg,Int.reduceEq,Int.reduceNe,Nat.reduceBNe,Int.reduceAdd,Int.reduceSub,Int.reduceMul,Int.reducePow,Nat.reducePow,Int.reduceGT,Int.reduceGE,if_true,if_false,ite_true,ite_false,beq_self_eq_true,BEq.rfl,reduceCtorEq,eq_self,ne_eq,Function.comp_def,beq_iff_eq]
  refine l_Is (n := n + 3) boc hL4 (by omega) (by omega) fun s9 g9 => ?_
  simp only [f2, f7, f10, f15, evf,↓evp,evq,evr,fxa0,fxa1,fxa2,fxa3,fxa4,fxu,fxn,fxl,↓fxp,lgc,absL,fitL,flatL,ares,ares1,ofVal,unSc,aload,afill,splice,abound,asI,elems,IntKind.bits,sortT,eqNil,closedL,allByte,patch,pendOK,numA,Value.cells,Value.oneCell',ibin,List.replicate,Option.elim,Nat.reduceAdd,Nat.reduceSub,Nat.reduceMul,Nat.reduceLT,Nat.reduceEqDiff,Nat.reduceLeDiff,Nat.reduceBEq,Int.reduceLE,Int.reduceLT,Int.reduceToNat,Int.reduceBNe,Int.reduceBEq,Int.reduceNeg,Int.reduceEq,Int.reduceNe,Nat.reduceBNe,Int.reduceAdd,Int.reduceSub,Int.reduceMul,Int.reducePow,Nat.reducePow,Int.reduceGT,Int.reduceGE,if_true,if_false,ite_true,ite_false,beq_self_eq_true,BEq.rfl,reduceCtorEq,eq_self,ne_eq,Function.comp_def,beq_iff_eq]
  refine awake4 (n := n + 1) (by omega) fun s10 g10 => ?_
  simp only [evf,↓evp,evq,evr,fxa0,fxa1,fxa2,fxa3,fxa4,fxu,fxn,fxl,↓fxp,lgc,absL,fitL,flatL,ares,ares1,ofVal,unSc,aload,afill,splice,abound,asI,elems,IntKind.bits,sortT,eqNil,closedL,allByte,patch,pendOK,numA,Value.cells,Value.oneCell',ibin,List.replicate,Option.elim,Nat.reduceAdd,Nat.reduceSub,Nat.reduceMul,Nat.reduceLT,Nat.reduceEqDiff,Nat.reduceLeDiff,Nat.reduceBEq,Int.reduceLE,Int.reduceLT,Int.reduceToNat,Int.reduceBNe,Int.reduceBEq,Int.reduceNeg,Int.reduceEq,Int.reduceNe,Nat.reduceBNe,Int.reduceAdd,Int.reduceSub,Int.reduceMul,Int.reducePow,Nat.reducePow,Int.reduceGT,Int.reduceGE,if_true,if_false,ite_true,ite_false,beq_self_eq_true,BEq.rfl,reduceCtorEq,eq_self,ne_eq,Function.comp_def,beq_iff_eq]
  exact hK _
end
end Go.Proofs.Ytndjhaeeldegfaa
