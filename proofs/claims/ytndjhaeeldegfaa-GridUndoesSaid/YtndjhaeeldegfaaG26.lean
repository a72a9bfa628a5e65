/- Chapter 4: all buildings, by rising numbers. -/
import Derived.Test.YtndjhaeeldegfaaG23
import Derived.Test.YtndjhaeeldegfaaGS
set_option linter.unusedVariables false
set_option linter.unusedSimpArgs false
set_option maxRecDepth 10000
namespace Go.Proofs.Ytndjhaeeldegfaa
open Go Go.M Go.RowKit
attribute [local congr] acallF_cong aloop_cong bcase_cong resK_cong valK_cong wantK_cong callK_cong xputK_cong qputK_cong resM_cong rfK_cong
attribute [local irreducible] seqK blockK loopK nextK bcase resK valK wantK funK putK dputK xputK qputK callK aops aop acode adraw aloop acallF acall invK resM rfK rfEnd rdEnd rdMid around
theorem keysI_esI : ∀ l : List (Int × V), keysI (esI l) = some (l.map (·.1))
  | [] => rfl
  | (i, v) :: l => by
    have := keysI_esI l
    simp only [esI, List.map_cons, keysI] at this ⊢
    rw [this]; rfl
theorem lk_int1 {st : List Ob} {a : Nat} {t e : TypeId} {l : List (Int × V)} {v : V} (ht : Try.prog.underlying t = some (.map 3 e)) (h : st[a]? = some (.map (esI l))) (i : Int) (hv : getI i l = some v) :
    alookup Try.prog st t (.map a) (.sc (.int .i64 i)) false = some v := by
  unfold alookup
  simp only [ht, toVal, h, akey_int Try.underlying3, esI, afind_int Try.underlying3]
  unfold getI at hv
  cases hq : atI i l with
  | none => rw [hq] at hv; cases hv
  | some q =>
    obtain ⟨x, hx⟩ := atI_spec hq
    rw [hq] at hv
    simp [hx] at hv ⊢
    exact hv
section
variable {WW HH : Int} {us : List (Int × V)} {os : List ((Int × Int) × V)} {L : List B4}
/-- The numbers of the program's map, sorted, are the document's list's. -/
theorem Rel.keys (h : Rel WW HH us os L) (hs : Srt L) : (us.map (·.1)).Nodup ∧ ((us.map (·.1)).mergeSort fun x y => decide (x ≤ y)) = L.map B4.id := by
  have hn : (us.map (·.1)).Nodup := h.ni
  have hp : (us.map (·.1)).Perm (L.map B4.id) := (List.perm_ext_iff_of_nodup hn h.ids).2 fun i => by
    have e1 : i ∈ us.map (·.1) ↔ (getI i us).isSome = true := by
      have := getI_none (i := i) (l := us)
      constructor
      · intro hi
        cases hq : getI i us with
        | none => exact absurd hi (this.1 hq)
        | some v => rfl
      · intro hi
        cases Classical.em (i ∈ us.map (·.1)) with
        | inl h1 => exact h1
        | inr h1 => rw [this.2 h1] at hi; cases hi
    rw [e1, isSome_of, List.mem_map]
    constructor
    · rintro ⟨v, hv⟩
      obtain ⟨u, hu, he, _⟩ := (h.gu _ _).1 hv
      exact ⟨u, hu, he⟩
    · rintro ⟨u, hu, he⟩
      exact ⟨_, (h.gu _ _).2 ⟨u, hu, he, rfl⟩⟩
  refine ⟨hn, ?_⟩
  have tr : ∀ a b c : Int, (decide (a ≤ b)) = true → (decide (b ≤ c)) = true → (decide (a ≤ c)) = true := fun a b c h1 h2 => by simp only [decide_eq_true_eq] at *; omega
  have to : ∀ a b : Int, (decide (a ≤ b) || decide (b ≤ a)) = true := fun a b => by simp only [Bool.or_eq_true, decide_eq_true_eq]; omega
  refine List.Perm.eq_of_pairwise (le := fun a b => decide (a ≤ b) = true) (fun a b _ _ h1 h2 => ?_) (List.pairwise_mergeSort tr to _) ?_ ((List.mergeSort_perm _ _).trans hp)
  · simp only [decide_eq_true_eq] at h1 h2; omega
  · refine List.pairwise_map.2 (hs.imp fun {a b} hab => ?_)
    simp only [decide_eq_true_eq]; omega
end
section
variable {n m : Nat} {st s : List Ob} {K : V → List Ob → Prop} {wd a b : Nat} {WW HH : Int} {tv dv : V} {us : List (Int × V)} {os : List ((Int × Int) × V)} {L : List B4}
theorem m_Keys (hK : K (.fn (.func 101) [.ref st.length 0]) (st ++ [.cells [.map a]])) : acallF Try.prog pl (n + 1) m 80 [.map a] st K := by
  refine acallF_inF Try.func80 rfl rfl Try.ntmps80 (by simp) ?_
  simp only [evf,↓evp,evq,evr,fxa0,fxa1,fxa2,fxa3,fxa4,fxu,fxn,fxl,↓fxp,lgc,absL,fitL,flatL,ares,ares1,ofVal,unSc,aload,afill,splice,abound,asI,elems,IntKind.bits,sortT,eqNil,closedL,allByte,patch,pendOK,numA,Value.cells,Value.oneCell',ibin,List.replicate,Option.elim,Nat.reduceAdd,Nat.reduceSub,Nat.reduceMul,Nat.reduceLT,Nat.reduceEqDiff,Nat.reduceLeDiff,Nat.reduceBEq,Int.reduceLE,Int.reduceLT,Int.reduceToNat,Int.reduceBNe,Int.reduceBEq,Int.reduceNeg,Int.reduceEq,Int.reduceNe,Nat.reduceBNe,Int.reduceAdd,Int.reduceSub,Int.reduceMul,Int.reducePow,Nat.reducePow,Int.reduceGT,Int.reduceGE,if_true,if_false,ite_true,ite_false,beq_self_eq_true,BEq.rfl,reduceCtorEq,eq_self,ne_eq,Function.comp_def,beq_iff_eq]
  exact hK
theorem m_Sorted {c : Nat} (hc : st[c]? = some (.cells [.map a])) (ha : st[a]? = some (.map (esI us))) (hr : Rel WW HH us os L) (hs : Srt L) (hl : L.length ≤ 256)
    (h0 : L = [] → K (.tsl [] 0 true true) st)
    (h1 : L ≠ [] → K (.sl st.length 0 L.length false L.length) (st ++ [.row 3 ((L.map B4.id).map fun k => .sc (.int .i64 k)) L.length 0 false])) :
    acallF Try.prog pl (n + 1) m 79 [.fn (.func 101) [.ref c 0]] st K := by
  obtain ⟨k1, k2⟩ := hr.keys hs
  have hlen : (us.map (·.1)).length = L.length := by rw [List.length_map, hr.len]
  have hall : ((us.map (·.1)).all fun k => decide (-9223372036854775808 ≤ k ∧ k < 9223372036854775808)) = true := List.all_eq_true.2 fun k hk => by
    have : k ∈ (us.map (·.1)).mergeSort fun x y => decide (x ≤ y) := (List.mergeSort_perm _ _).mem_iff.2 hk
    rw [k2] at this
    obtain ⟨u, hu, rfl⟩ := List.mem_map.1 this
    have := (bmay_may (hr.val u hu)).2.2.2
    simp only [decide_eq_true_eq]; omega
  have hcond : (us.map (·.1)).Nodup ∧ (us.map (·.1)).length ≤ 1000000 ∧ ((us.map (·.1)).all fun k => decide (-9223372036854775808 ≤ k ∧ k < 9223372036854775808)) = true := ⟨k1, by omega, hall⟩
  by_cases hL : L = []
  · have he : us.map (·.1) = [] := List.eq_nil_of_length_eq_zero (by rw [hlen, hL]; rfl)
    refine acallF_prim Try.func79 rfl (v := .tsl [] 0 true true) (st' := st) ?_ (h0 hL)
    unfold sortedK
    simp only [hc, ha, keysI_esI]
    rw [if_pos (by simp), if_pos hcond, if_pos he]
  · have he : us.map (·.1) ≠ [] := fun hh => hL (List.eq_nil_of_length_eq_zero (by rw [← hlen, hh]; rfl))
    refine acallF_prim Try.func79 rfl (v := .sl st.length 0 L.length false L.length) (st' := st ++ [.row 3 ((L.map B4.id).map fun k => .sc (.int .i64 k)) L.length 0 false]) ?_ (h1 hL)
    unfold sortedK
    simp only [hc, ha, keysI_esI]
    rw [if_pos (by simp), if_pos hcond, if_neg he, k2, hlen]
set_option maxHeartbeats 2000000 in
/-- THE ITERATOR's CONTRACT: whatever the caller keeps. -/
theorem w_Blds {l rb : Nat} {I : Nat → Ob → Nat → List Ob → Prop} {J : List Ob → Prop} (hw : Wd st wd a b WW HH tv dv us os) (hb : st[rb]? = some (.cells [.ref wd 0])) (hr : Rel WW HH us os L) (hs : Srt L) (hl : L.length ≤ 256) (hm : 300 < m)
    (keep : ∀ r ro k s, I r ro k s → s[rb]? = some (.cells [.ref wd 0]) ∧ Wd s wd a b WW HH tv dv us os ∧ s[r]? = some ro)
    (h0 : ∀ r ro s, Grw st s → st.length ≤ r → s[r]? = some ro → I r ro 0 s)
    (step : ∀ r ro i (hi : i < L.length) (s : List Ob) (K' : V → List Ob → Prop), I r ro i s → (∀ s', I r ro (i + 1) s' → K' (.sc (.bool true)) s') → (∀ s', J s' → K' (.sc (.bool false)) s') → acallF Try.prog pl (n + 3) m Try.prog.funcs.size [.yl l, .agg (B4.v L[i])] s K')
    (hend : ∀ r ro s, I r ro L.length s → K (.tup []) s) (hstop : ∀ s, J s → K (.tup []) s) : acallF Try.prog pl (n + 4) m 78 [.yl l, .ref rb 0] st K := by
  refine acallF_inF Try.func78 rfl rfl Try.ntmps78 (by simp) ?_
  have w1 := hw.w
  simp only [hb, evf,↓evp,evq,evr,fxa0,fxa1,fxa2,fxa3,fxa4,fxu,fxn,fxl,↓fxp,lgc,absL,fitL,flatL,ares,ares1,ofVal,unSc,aload,afill,splice,abound,asI,elems,IntKind.bits,sortT,eqNil,closedL,allByte,patch,pendOK,numA,Value.cells,Value.oneCell',ibin,List.replicate,Option.elim,Nat.reduceAdd,Nat.reduceSub,Nat.reduceMul,Nat.reduceLT,Nat.reduceEqDiff,Nat.reduceLeDiff,Nat.reduceBEq,Int.reduceLE,Int.reduceLT,Int.reduceToNat,Int.reduceBNe,Int.reduceBEq,Int.reduceNeg,Int.reduceEq,Int.reduceNe,Nat.reduceBNe,Int.reduceAdd,Int.reduceSub,Int.reduceMul,Int.reducePow,Nat.reducePow,Int.reduceGT,Int.reduceGE,if_true,if_false,ite_true,ite_false,beq_self_eq_true,BEq.rfl,reduceCtorEq,eq_self,ne_eq,Function.comp_def,beq_iff_eq]
  refine w_is1 (n := n + 2) hw ?_
  simp only [hb, w1, evf,↓evp,evq,evr,fxa0,fxa1,fxa2,fxa3,fxa4,fxu,fxn,fxl,↓fxp,lgc,absL,fitL,flatL,ares,ares1,ofVal,unSc,aload,afill,splice,abound,asI,elems,IntKind.bits,sortT,eqNil,closedL,allByte,patch,pendOK,numA,Value.cells,Value.oneCell',ibin,List.replicate,Option.elim,Nat.reduceAdd,Nat.reduceSub,Nat.reduceMul,Nat.reduceLT,Nat.reduceEqDiff,Nat.reduceLeDiff,Nat.reduceBEq,Int.reduceLE,Int.reduceLT,Int.reduceToNat,Int.reduceBNe,Int.reduceBEq,Int.reduceNeg,Int.reduceEq,Int.reduceNe,Nat.reduceBNe,Int.reduceAdd,Int.reduceSub,Int.reduceMul,Int.reducePow,Nat.reducePow,Int.reduceGT,Int.reduceGE,if_true,if_false,ite_true,ite_false,beq_self_eq_true,BEq.rfl,reduceCtorEq,eq_self,ne_eq,Function.comp_def,beq_iff_eq]
  refine m_Keys ?_
  have g1 := Grw.push st [Ob.cells [.map a]]
  have c1 : (st ++ [Ob.cells [.map a]])[st.length]? = some (.cells [.map a]) := get_new0 _ _
  have hb1 := g1 _ _ hb
  have hw1 := hw.grw g1
  simp only [evf,↓evp,evq,evr,fxa0,fxa1,fxa2,fxa3,fxa4,fxu,fxn,fxl,↓fxp,lgc,absL,fitL,flatL,ares,ares1,ofVal,unSc,aload,afill,splice,abound,asI,elems,IntKind.bits,sortT,eqNil,closedL,allByte,patch,pendOK,numA,Value.cells,Value.oneCell',ibin,List.replicate,Option.elim,Nat.reduceAdd,Nat.reduceSub,Nat.reduceMul,Nat.reduceLT,Nat.reduceEqDiff,Nat.reduceLeDiff,Nat.reduceBEq,Int.reduceLE,Int.reduceLT,Int.reduceToNat,Int.reduceBNe,Int.reduceBEq,Int.reduceNeg,Int.reduceEq,Int.reduceNe,Nat.reduceBNe,Int.reduceAdd,Int.reduceSub,Int.reduceMul,Int.reducePow,Nat.reducePow,Int.reduceGT,Int.reduceGE,if_true,if_false,ite_true,ite_false,beq_self_eq_true,BEq.rfl,reduceCtorEq,eq_self,ne_eq,Function.comp_def,beq_iff_eq]
  generalize hs1 : st ++ [Ob.cells [.map a]] = s1 at g1 c1 hb1 hw1
  refine m_Sorted (n := n + 2) c1 hw1.us hr hs hl (fun hL => ?_) fun hL => ?_
  · have h1 := h0 _ _ s1 g1 (Nat.le_refl _) c1
    simp only [evf,↓evp,evq,evr,fxa0,fxa1,fxa2,fxa3,fxa4,fxu,fxn,fxl,↓fxp,lgc,absL,fitL,flatL,ares,ares1,ofVal,unSc,aload,afill,splice,abound,asI,elems,IntKind.bits,sortT,eqNil,closedL,allByte,patch,pendOK,numA,Value.cells,Value.oneCell',ibin,List.replicate,Option.elim,Nat.reduceAdd,Nat.reduceSub,Nat.reduceMul,Nat.reduceLT,Nat.reduceEqDiff,Nat.reduceLeDiff,Nat.reduceBEq,Int.reduceLE,Int.reduceLT,Int.reduceToNat,Int.reduceBNe,Int.reduceBEq,Int.reduceNeg,Int.reduceEq,Int.reduceNe,Nat.reduceBNe,Int.reduceAdd,Int.reduceSub,Int.reduceMul,Int.reducePow,Nat.reducePow,Int.reduceGT,Int.reduceGE,if_true,if_false,ite_true,ite_false,beq_self_eq_true,BEq.rfl,reduceCtorEq,eq_self,ne_eq,Function.comp_def,beq_iff_eq]
    refine aloop_forF (fun k f s => s = s1 ∧ k = m ∧ f 14 = .sc (.int .i64 0) ∧ f 15 = .sc (.int .i64 0)) ⟨rfl, rfl, by simp only [evf, ne_eq, Nat.reduceEqDiff, Nat.reduceLT, not_false_eq_true], by simp only [evf, ne_eq, Nat.reduceEqDiff, Nat.reduceLT, not_false_eq_true]⟩ ?_
    rintro I' hI' k f s ⟨rfl, hk, f14, f15⟩
    refine ⟨k - 1, by omega, ?_⟩
    have d : decide ((0 : Int) < 0) = false := rfl
    simp only [f14, f15, d, evf,↓evp,evq,evr,fxa0,fxa1,fxa2,fxa3,fxa4,fxu,fxn,fxl,↓fxp,lgc,absL,fitL,flatL,ares,ares1,ofVal,unSc,aload,afill,splice,abound,asI,elems,IntKind.bits,sortT,eqNil,closedL,allByte,patch,pendOK,numA,Value.cells,Value.oneCell',ibin,List.replicate,Option.elim,Nat.reduceAdd,Nat.reduceSub,Nat.reduceMul,Nat.reduceLT,Nat.reduceEqDiff,Nat.reduceLeDiff,Nat.reduceBEq,Int.reduceLE,Int.reduceLT,Int.reduceToNat,Int.reduceBNe,Int.reduceBEq,Int.reduceNeg,Int.reduceEq,Int.reduceNe,Nat.reduceBNe,Int.reduceAdd,Int.reduceSub,Int.reduceMul,Int.reducePow,Nat.reducePow,Int.reduceGT,Int.reduceGE,if_true,if_false,ite_true,ite_false,beq_self_eq_true,BEq.rfl,reduceCtorEq,eq_self,ne_eq,Function.comp_def,beq_iff_eq]
    rw [← show L.length = 0 from by rw [hL]; rfl] at h1
    exact hend _ _ _ h1
  · have h1 := h0 s1.length (.row 3 ((L.map B4.id).map fun k => .sc (.int .i64 k)) L.length 0 false) (s1 ++ [.row 3 ((L.map B4.id).map fun k => .sc (.int .i64 k)) L.length 0 false]) (g1.trans (Grw.push s1 _)) (by have := g1.le; omega) (get_new0 _ _)
    simp only [evf,↓evp,evq,evr,fxa0,fxa1,fxa2,fxa3,fxa4,fxu,fxn,fxl,↓fxp,lgc,absL,fitL,flatL,ares,ares1,ofVal,unSc,aload,afill,splice,abound,asI,elems,IntKind.bits,sortT,eqNil,closedL,allByte,patch,pendOK,numA,Value.cells,Value.oneCell',ibin,List.replicate,Option.elim,Nat.reduceAdd,Nat.reduceSub,Nat.reduceMul,Nat.reduceLT,Nat.reduceEqDiff,Nat.reduceLeDiff,Nat.reduceBEq,Int.reduceLE,Int.reduceLT,Int.reduceToNat,Int.reduceBNe,Int.reduceBEq,Int.reduceNeg,Int.reduceEq,Int.reduceNe,Nat.reduceBNe,Int.reduceAdd,Int.reduceSub,Int.reduceMul,Int.reducePow,Nat.reducePow,Int.reduceGT,Int.reduceGE,if_true,if_false,ite_true,ite_false,beq_self_eq_true,BEq.rfl,reduceCtorEq,eq_self,ne_eq,Function.comp_def,beq_iff_eq]
    refine aloop_forF (fun k f s => ∃ i : Nat, k + i = m ∧ i ≤ L.length ∧ I s1.length (.row 3 ((L.map B4.id).map fun k => .sc (.int .i64 k)) L.length 0 false) i s ∧ f 0 = .yl l ∧ f 1 = .ref rb 0 ∧ f 13 = .sl s1.length 0 L.length false L.length ∧ f 14 = .sc (.int .i64 L.length) ∧ f 15 = .sc (.int .i64 i)) ⟨0, by omega, by omega, h1, by simp only [evf, ne_eq, Nat.reduceEqDiff, Nat.reduceLT, not_false_eq_true], by simp only [evf, ne_eq, Nat.reduceEqDiff, Nat.reduceLT, not_false_eq_true], by simp only [evf, ne_eq, Nat.reduceEqDiff, Nat.reduceLT, not_false_eq_true], by simp only [evf, ne_eq, Nat.reduceEqDiff, Nat.reduceLT, not_false_eq_true], by simp only [evf, ne_eq, Nat.reduceEqDiff, Nat.reduceLT, not_false_eq_true]; rfl⟩ ?_
    rintro I' hI' k f s ⟨i, hk, hi, hI, f0, f1, f13, f14, f15⟩
    refine ⟨k - 1, by omega, ?_⟩
    obtain ⟨kb, kw, kr⟩ := keep _ _ _ _ hI
    by_cases hil : i < L.length
    · have d : decide ((i : Int) < L.length) = true := decide_eq_true (by omega)
      have e3 : IntKind.i64.wrap ((i : Int) + 1) = ((i + 1 : Nat) : Int) := by rw [IntWalk.i64_in _ (by omega)]; rfl
      have gl : Gl s 3 (.sl s1.length 0 L.length false L.length) ((L.map B4.id).map fun k => .sc (.int .i64 k)) L.length := .inr ⟨_, 0, rfl, kr, Nat.zero_le _⟩
      have rd := gl.rd sz3 (by simp)
      have p1 := aix_rd rd Try.underlying22 sz3 .i64 (j := (i : Int)) (by omega) (by omega)
      have p2 := ald_ix rd sz3 sz3 (by omega) hil (o := 0) (by omega)
      have p3 : aload Try.prog 3 (((L.map B4.id).map fun k => V.sc (.int .i64 k)).drop (i * 1 + 0)) = some (.sc (.int .i64 L[i].id)) := by
        simp only [aload, ag3, Nat.mul_one, Nat.add_zero]
        rw [List.getElem?_drop, Nat.add_zero, List.getElem?_map, List.getElem?_map, List.getElem?_eq_getElem hil]
        rfl
      rw [p3] at p2
      simp only [Int.toNat_natCast] at p1
      obtain ⟨vv, hvv⟩ : ∃ vv, vv = V.sl s1.length 0 L.length false L.length := ⟨_, rfl⟩
      rw [← hvv] at f13 p1 p2
      have hg : getI L[i].id us = some (.agg (rc L[i].x L[i].y L[i].w L[i].h)) := (hr.gu _ _).2 ⟨L[i], List.getElem_mem hil, rfl, rfl⟩
      have look := lk_int1 Try.underlying104 kw.us L[i].id hg
      have kw1 := kw.w
      have st1 := fun K' => step _ _ i hil s K' hI
      generalize hu : L[i] = u at p2 look st1
      simp only [B4.v, bd, rc] at look st1
      simp only [f0, f1, f13, f14, f15, d, p1, p2, kb, kw1, look, evf,↓evp,evq,evr,fxa0,fxa1,fxa2,fxa3,fxa4,fxu,fxn,fxl,↓fxp,lgc,absL,fitL,flatL,ares,ares1,ofVal,unSc,aload,afill,splice,abound,asI,elems,IntKind.bits,sortT,eqNil,closedL,allByte,patch,pendOK,numA,Value.cells,Value.oneCell',ibin,List.replicate,Option.elim,Nat.reduceAdd,Nat.reduceSub,Nat.reduceMul,Nat.reduceLT,Nat.reduceEqDiff,Nat.reduceLeDiff,Nat.reduceBEq,Int.reduceLE,Int.reduceLT,Int.reduceToNat,Int.reduceBNe,Int.reduceBEq,Int.reduceNeg,Int.reduceEq,Int.reduceNe,Nat.reduceBNe,Int.reduceAdd,Int.reduceSub,Int.reduceMul,Int.reducePow,Nat.reducePow,Int.reduceGT,Int.reduceGE,if_true,if_false,ite_true,ite_false,beq_self_eq_true,BEq.rfl,reduceCtorEq,eq_self,ne_eq,Function.comp_def,beq_iff_eq]
      refine yl_fsz fsz (st1 _ (fun s' h' => ?_) fun s' h' => ?_)
      · simp only [f0, f1, f13, f14, f15, e3, evf,↓evp,evq,evr,fxa0,fxa1,fxa2,fxa3,fxa4,fxu,fxn,fxl,↓fxp,lgc,absL,fitL,flatL,ares,ares1,ofVal,unSc,aload,afill,splice,abound,asI,elems,IntKind.bits,sortT,eqNil,closedL,allByte,patch,pendOK,numA,Value.cells,Value.oneCell',ibin,List.replicate,Option.elim,Nat.reduceAdd,Nat.reduceSub,Nat.reduceMul,Nat.reduceLT,Nat.reduceEqDiff,Nat.reduceLeDiff,Nat.reduceBEq,Int.reduceLE,Int.reduceLT,Int.reduceToNat,Int.reduceBNe,Int.reduceBEq,Int.reduceNeg,Int.reduceEq,Int.reduceNe,Nat.reduceBNe,Int.reduceAdd,Int.reduceSub,Int.reduceMul,Int.reducePow,Nat.reducePow,Int.reduceGT,Int.reduceGE,if_true,if_false,ite_true,ite_false,beq_self_eq_true,BEq.rfl,reduceCtorEq,eq_self,ne_eq,Function.comp_def,beq_iff_eq]
        exact hI' _ _ _ ⟨i + 1, by omega, hil, h', by simp only [f0, evf, ne_eq, Nat.reduceEqDiff, Nat.reduceLT, not_false_eq_true], by simp only [f1, evf, ne_eq, Nat.reduceEqDiff, Nat.reduceLT, not_false_eq_true], by simp only [f13, hvv, evf, ne_eq, Nat.reduceEqDiff, Nat.reduceLT, not_false_eq_true], by simp only [f14, evf, ne_eq, Nat.reduceEqDiff, Nat.reduceLT, not_false_eq_true], by simp only [evf, ne_eq, Nat.reduceEqDiff, Nat.reduceLT, not_false_eq_true]⟩
      · simp only [evf,↓evp,evq,evr,fxa0,fxa1,fxa2,fxa3,fxa4,fxu,fxn,fxl,↓fxp,lgc,absL,fitL,flatL,ares,ares1,ofVal,unSc,aload,afill,splice,abound,asI,elems,IntKind.bits,sortT,eqNil,closedL,allByte,patch,pendOK,numA,Value.cells,Value.oneCell',ibin,List.replicate,Option.elim,Nat.reduceAdd,Nat.reduceSub,Nat.reduceMul,Nat.reduceLT,Nat.reduceEqDiff,Nat.reduceLeDiff,Nat.reduceBEq,Int.reduceLE,Int.reduceLT,Int.reduceToNat,Int.reduceBNe,Int.reduceBEq,Int.reduceNeg,Int.reduceEq,Int.reduceNe,Nat.reduceBNe,Int.reduceAdd,Int.reduceSub,Int.reduceMul,Int.reducePow,Nat.reducePow,Int.reduceGT,Int.reduceGE,if_true,if_false,ite_true,ite_false,beq_self_eq_true,BEq.rfl,reduceCtorEq,eq_self,ne_eq,Function.comp_def,beq_iff_eq]
        exact hstop _ h'
    · have d : decide ((i : Int) < L.length) = false := decide_eq_false (by omega)
      obtain rfl : i = L.length := by omega
      simp only [f14, f15, d, evf,↓evp,evq,evr,fxa0,fxa1,fxa2,fxa3,fxa4,fxu,fxn,fxl,↓fxp,lgc,absL,fitL,flatL,ares,ares1,ofVal,unSc,aload,afill,splice,abound,asI,elems,IntKind.bits,sortT,eqNil,closedL,allByte,patch,pendOK,numA,Value.cells,Value.oneCell',ibin,List.replicate,Option.elim,Nat.reduceAdd,Nat.reduceSub,Nat.reduceMul,Nat.reduceLT,Nat.reduceEqDiff,Nat.reduceLeDiff,Nat.reduceBEq,Int.reduceLE,Int.reduceLT,Int.reduceToNat,Int.reduceBNe,Int.reduceBEq,Int.reduceNeg,Int.reduceEq,Int.reduceNe,Nat.reduceBNe,Int.reduceAdd,Int.reduceSub,Int.reduceMul,Int.reducePow,Nat.reducePow,Int.reduceGT,Int.reduceGE,if_true,if_false,ite_true,ite_false,beq_self_eq_true,BEq.rfl,reduceCtorEq,eq_self,ne_eq,Function.comp_def,beq_iff_eq]
      exact hend _ _ _ hI
end
end Go.Proofs.Ytndjhaeeldegfaa
