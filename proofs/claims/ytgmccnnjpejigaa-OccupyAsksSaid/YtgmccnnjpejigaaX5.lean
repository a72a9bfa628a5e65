/- Chapter 5: all units, by rising numbers. Lists of one's own that grow. Rectangles and buildings, held against each other. Chapter 5: has an index just these units? Chapter 5's reference: has nobody but one a cell? Chapter 5: no cell ever has two units. Chapter 5: what comes of an act, in one form. -/
import Derived.Test.YtgmccnnjpejigaaX4
import Derived.Test.YtgmccnnjpejigaaGS
import Derived.Test.YtgmccnnjpejigaaX1
set_option linter.unusedVariables false
set_option linter.unusedSimpArgs false
set_option maxRecDepth 10000
namespace Go.Proofs.Ytgmccnnjpejigaa
open Go Go.M Go.RowKit
attribute [local congr] acallF_cong aloop_cong bcase_cong resK_cong valK_cong wantK_cong callK_cong xputK_cong qputK_cong resM_cong rfK_cong
attribute [local irreducible] seqK blockK loopK nextK bcase resK valK wantK funK putK dputK xputK qputK callK aops aop acode adraw aloop acallF acall invK resM rfK rfEnd rdEnd rdMid around
/-! ### Chapter 5: all units, by rising numbers. -/
/-- The keys of a map, sorted. -/
theorem keys_srt {us : List (Int × V)} {ids : List Int} (hn : ndI us) (hmem : ∀ i, (getI i us).isSome = true ↔ i ∈ ids) (hs : ids.Pairwise (· < ·)) : ((us.map (·.1)).mergeSort fun x y => decide (x ≤ y)) = ids ∧ us.length = ids.length := by
  have hnd : ids.Nodup := hs.imp fun {a b} hab he => by omega
  have hp : (us.map (·.1)).Perm ids := (List.perm_ext_iff_of_nodup hn hnd).2 fun i => by
    rw [← hmem]
    have := getI_none (i := i) (l := us)
    constructor
    · intro hi
      cases hq : getI i us with
      | none => exact absurd hi (this.1 hq)
      | some v => rfl
    · intro hi
      cases Classical.em (i ∈ us.map (·.1)) with
      | inl h1 => exact h1
      | inr h1 => rw [this.2 h1] at hi; cases hi
  have tr : ∀ a b c : Int, (decide (a ≤ b)) = true → (decide (b ≤ c)) = true → (decide (a ≤ c)) = true := fun a b c h1 h2 => by simp only [decide_eq_true_eq] at *; omega
  have to : ∀ a b : Int, (decide (a ≤ b) || decide (b ≤ a)) = true := fun a b => by simp only [Bool.or_eq_true, decide_eq_true_eq]; omega
  refine ⟨List.Perm.eq_of_pairwise (le := fun a b => decide (a ≤ b) = true) (fun a b _ _ h1 h2 => ?_) (List.pairwise_mergeSort tr to _) ?_ ((List.mergeSort_perm _ _).trans hp), by rw [← hp.length_eq, List.length_map]⟩
  · simp only [decide_eq_true_eq] at h1 h2; omega
  · refine hs.imp fun {a b} hab => ?_
    simp only [decide_eq_true_eq]; omega
def inR (i : Int) : Prop := -9223372036854775808 ≤ i ∧ i < 9223372036854775808
section
variable {n m : Nat} {st s : List Ob} {K : V → List Ob → Prop} {ix a b : Nat} {us : List (Int × V)} {os : List ((Int × Int) × V)} {ids : List Int}
theorem m_Keys (hK : K (.fn (.func 93) [.ref st.length 0]) (st ++ [.cells [.map a]])) : acallF Try.prog pl (n + 1) m 65 [.map a] st K := by
  refine acallF_inF Try.func65 rfl rfl Try.ntmps65 (by simp) ?_
  simp only [evf,↓evp,evq,evr,fxa0,fxa1,fxa2,fxa3,fxa4,fxu,fxn,fxl,↓fxp,lgc,absL,fitL,flatL,ares,ares1,ofVal,unSc,aload,afill,splice,abound,asI,elems,IntKind.bits,sortT,eqNil,closedL,allByte,patch,pendOK,numA,Value.cells,Value.oneCell',ibin,List.replicate,Option.elim,Nat.reduceAdd,Nat.reduceSub,Nat.reduceMul,Nat.reduceLT,Nat.reduceEqDiff,Nat.reduceLeDiff,Nat.reduceBEq,Int.reduceLE,Int.reduceLT,Int.reduceToNat,Int.reduceBNe,Int.reduceBEq,Int.reduceNeg,Int.reduceEq,Int.reduceNe,Nat.reduceBNe,Int.reduceAdd,Int.reduceSub,Int.reduceMul,Int.reducePow,Nat.reducePow,Int.reduceGT,Int.reduceGE,if_true,if_false,ite_true,ite_false,beq_self_eq_true,BEq.rfl,reduceCtorEq,eq_self,ne_eq,Function.comp_def,beq_iff_eq]
  exact hK
theorem m_KeysC (hK : K (.fn (.func 107) [.ref st.length 0]) (st ++ [.cells [.map a]])) : acallF Try.prog pl (n + 1) m 86 [.map a] st K := by
  refine acallF_inF Try.func86 rfl rfl Try.ntmps86 (by simp) ?_
  simp only [evf,↓evp,evq,evr,fxa0,fxa1,fxa2,fxa3,fxa4,fxu,fxn,fxl,↓fxp,lgc,absL,fitL,flatL,ares,ares1,ofVal,unSc,aload,afill,splice,abound,asI,elems,IntKind.bits,sortT,eqNil,closedL,allByte,patch,pendOK,numA,Value.cells,Value.oneCell',ibin,List.replicate,Option.elim,Nat.reduceAdd,Nat.reduceSub,Nat.reduceMul,Nat.reduceLT,Nat.reduceEqDiff,Nat.reduceLeDiff,Nat.reduceBEq,Int.reduceLE,Int.reduceLT,Int.reduceToNat,Int.reduceBNe,Int.reduceBEq,Int.reduceNeg,Int.reduceEq,Int.reduceNe,Nat.reduceBNe,Int.reduceAdd,Int.reduceSub,Int.reduceMul,Int.reducePow,Nat.reducePow,Int.reduceGT,Int.reduceGE,if_true,if_false,ite_true,ite_false,beq_self_eq_true,BEq.rfl,reduceCtorEq,eq_self,ne_eq,Function.comp_def,beq_iff_eq]
  exact hK
theorem m_Sorted {c g : Nat} (hg : g ∈ [93, 107]) (hc : st[c]? = some (.cells [.map a])) (ha : st[a]? = some (.map (esI us))) (hn : ndI us) (hmem : ∀ i, (getI i us).isSome = true ↔ i ∈ ids) (hs : ids.Pairwise (· < ·)) (hr : ∀ i ∈ ids, inR i) (hl : ids.length ≤ 1000000)
    (h0 : ids = [] → K (.tsl [] 0 true true) st)
    (h1 : ids ≠ [] → K (.sl st.length 0 ids.length false ids.length) (st ++ [.row 3 (ids.map fun k => .sc (.int .i64 k)) ids.length 0 false])) :
    acallF Try.prog pl (n + 1) m 64 [.fn (.func g) [.ref c 0]] st K := by
  obtain ⟨k2, k3⟩ := keys_srt hn hmem hs
  have hlen : (us.map (·.1)).length = ids.length := by rw [List.length_map, k3]
  have hall : ((us.map (·.1)).all fun k => decide (-9223372036854775808 ≤ k ∧ k < 9223372036854775808)) = true := List.all_eq_true.2 fun k hk => by
    have : k ∈ (us.map (·.1)).mergeSort fun x y => decide (x ≤ y) := (List.mergeSort_perm _ _).mem_iff.2 hk
    rw [k2] at this
    have := hr k this
    unfold inR at this
    simpa using this
  have hcond : (us.map (·.1)).Nodup ∧ (us.map (·.1)).length ≤ 1000000 ∧ ((us.map (·.1)).all fun k => decide (-9223372036854775808 ≤ k ∧ k < 9223372036854775808)) = true := ⟨hn, by omega, hall⟩
  by_cases hL : ids = []
  · have he : us.map (·.1) = [] := List.eq_nil_of_length_eq_zero (by rw [hlen, hL]; rfl)
    refine acallF_prim Try.func64 rfl (v := .tsl [] 0 true true) (st' := st) ?_ (h0 hL)
    unfold sortedK
    simp only [hc, ha, keysI_esI]
    rw [if_pos hg, if_pos hcond, if_pos he]
  · have he : us.map (·.1) ≠ [] := fun hh => hL (List.eq_nil_of_length_eq_zero (by rw [← hlen, hh]; rfl))
    refine acallF_prim Try.func64 rfl (v := .sl st.length 0 ids.length false ids.length) (st' := st ++ [.row 3 (ids.map fun k => .sc (.int .i64 k)) ids.length 0 false]) ?_ (h1 hL)
    unfold sortedK
    simp only [hc, ha, keysI_esI]
    rw [if_pos hg, if_pos hcond, if_neg he, k2, hlen]
set_option maxHeartbeats 2000000 in
/-- THE ITERATOR's CONTRACT: whatever the caller keeps. -/
theorem o_Each {l rb : Nat} {I : Nat → Ob → Nat → List Ob → Prop} {J : List Ob → Prop} (hi : Ix st ix a b us os) (hb : st[rb]? = some (.cells [.ref ix 0])) (hn : ndI us) (hmem : ∀ i, (getI i us).isSome = true ↔ i ∈ ids) (hs : ids.Pairwise (· < ·)) (hrg : ∀ i ∈ ids, inR i) (hl : ids.length ≤ 256) (hm : 300 < m)
    (keep : ∀ r ro k s, I r ro k s → s[rb]? = some (.cells [.ref ix 0]) ∧ Ix s ix a b us os ∧ s[r]? = some ro)
    (h0 : ∀ r ro s, Grw st s → st.length ≤ r → s[r]? = some ro → I r ro 0 s)
    (step : ∀ r ro i (hi : i < ids.length) (v : V) (s : List Ob) (K' : V → List Ob → Prop), getI ids[i] us = some v → I r ro i s → (∀ s', I r ro (i + 1) s' → K' (.sc (.bool true)) s') → (∀ s', J s' → K' (.sc (.bool false)) s') → acallF Try.prog pl (n + 3) m Try.prog.funcs.size [.yl l, .sc (.int .i64 ids[i]), v] s K')
    (hend : ∀ r ro s, I r ro ids.length s → K (.tup []) s) (hstop : ∀ s, J s → K (.tup []) s) : acallF Try.prog pl (n + 4) m 63 [.yl l, .ref rb 0] st K := by
  refine acallF_inF Try.func63 rfl rfl Try.ntmps63 (by simp) ?_
  have w1 := hi.ix
  simp only [hb, evf,↓evp,evq,evr,fxa0,fxa1,fxa2,fxa3,fxa4,fxu,fxn,fxl,↓fxp,lgc,absL,fitL,flatL,ares,ares1,ofVal,unSc,aload,afill,splice,abound,asI,elems,IntKind.bits,sortT,eqNil,closedL,allByte,patch,pendOK,numA,Value.cells,Value.oneCell',ibin,List.replicate,Option.elim,Nat.reduceAdd,Nat.reduceSub,Nat.reduceMul,Nat.reduceLT,Nat.reduceEqDiff,Nat.reduceLeDiff,Nat.reduceBEq,Int.reduceLE,Int.reduceLT,Int.reduceToNat,Int.reduceBNe,Int.reduceBEq,Int.reduceNeg,Int.reduceEq,Int.reduceNe,Nat.reduceBNe,Int.reduceAdd,Int.reduceSub,Int.reduceMul,Int.reducePow,Nat.reducePow,Int.reduceGT,Int.reduceGE,if_true,if_false,ite_true,ite_false,beq_self_eq_true,BEq.rfl,reduceCtorEq,eq_self,ne_eq,Function.comp_def,beq_iff_eq]
  refine o_is1 (n := n + 2) hi ?_
  simp only [hb, w1, evf,↓evp,evq,evr,fxa0,fxa1,fxa2,fxa3,fxa4,fxu,fxn,fxl,↓fxp,lgc,absL,fitL,flatL,ares,ares1,ofVal,unSc,aload,afill,splice,abound,asI,elems,IntKind.bits,sortT,eqNil,closedL,allByte,patch,pendOK,numA,Value.cells,Value.oneCell',ibin,List.replicate,Option.elim,Nat.reduceAdd,Nat.reduceSub,Nat.reduceMul,Nat.reduceLT,Nat.reduceEqDiff,Nat.reduceLeDiff,Nat.reduceBEq,Int.reduceLE,Int.reduceLT,Int.reduceToNat,Int.reduceBNe,Int.reduceBEq,Int.reduceNeg,Int.reduceEq,Int.reduceNe,Nat.reduceBNe,Int.reduceAdd,Int.reduceSub,Int.reduceMul,Int.reducePow,Nat.reducePow,Int.reduceGT,Int.reduceGE,if_true,if_false,ite_true,ite_false,beq_self_eq_true,BEq.rfl,reduceCtorEq,eq_self,ne_eq,Function.comp_def,beq_iff_eq]
  refine m_Keys ?_
  have g1 := Grw.push st [Ob.cells [.map a]]
  have c1 : (st ++ [Ob.cells [.map a]])[st.length]? = some (.cells [.map a]) := get_new0 _ _
  have hb1 := g1 _ _ hb
  have hw1 := hi.grw g1
  simp only [evf,↓evp,evq,evr,fxa0,fxa1,fxa2,fxa3,fxa4,fxu,fxn,fxl,↓fxp,lgc,absL,fitL,flatL,ares,ares1,ofVal,unSc,aload,afill,splice,abound,asI,elems,IntKind.bits,sortT,eqNil,closedL,allByte,patch,pendOK,numA,Value.cells,Value.oneCell',ibin,List.replicate,Option.elim,Nat.reduceAdd,Nat.reduceSub,Nat.reduceMul,Nat.reduceLT,Nat.reduceEqDiff,Nat.reduceLeDiff,Nat.reduceBEq,Int.reduceLE,Int.reduceLT,Int.reduceToNat,Int.reduceBNe,Int.reduceBEq,Int.reduceNeg,Int.reduceEq,Int.reduceNe,Nat.reduceBNe,Int.reduceAdd,Int.reduceSub,Int.reduceMul,Int.reducePow,Nat.reducePow,Int.reduceGT,Int.reduceGE,if_true,if_false,ite_true,ite_false,beq_self_eq_true,BEq.rfl,reduceCtorEq,eq_self,ne_eq,Function.comp_def,beq_iff_eq]
  generalize hs1 : st ++ [Ob.cells [.map a]] = s1 at g1 c1 hb1 hw1
  refine m_Sorted (n := n + 2) (by simp) c1 hw1.us hn hmem hs hrg (by omega) (fun hL => ?_) fun hL => ?_
  · have h1 := h0 _ _ s1 g1 (Nat.le_refl _) c1
    simp only [evf,↓evp,evq,evr,fxa0,fxa1,fxa2,fxa3,fxa4,fxu,fxn,fxl,↓fxp,lgc,absL,fitL,flatL,ares,ares1,ofVal,unSc,aload,afill,splice,abound,asI,elems,IntKind.bits,sortT,eqNil,closedL,allByte,patch,pendOK,numA,Value.cells,Value.oneCell',ibin,List.replicate,Option.elim,Nat.reduceAdd,Nat.reduceSub,Nat.reduceMul,Nat.reduceLT,Nat.reduceEqDiff,Nat.reduceLeDiff,Nat.reduceBEq,Int.reduceLE,Int.reduceLT,Int.reduceToNat,Int.reduceBNe,Int.reduceBEq,Int.reduceNeg,Int.reduceEq,Int.reduceNe,Nat.reduceBNe,Int.reduceAdd,Int.reduceSub,Int.reduceMul,Int.reducePow,Nat.reducePow,Int.reduceGT,Int.reduceGE,if_true,if_false,ite_true,ite_false,beq_self_eq_true,BEq.rfl,reduceCtorEq,eq_self,ne_eq,Function.comp_def,beq_iff_eq]
    refine aloop_forF (fun k f s => s = s1 ∧ k = m ∧ f 14 = .sc (.int .i64 0) ∧ f 15 = .sc (.int .i64 0)) ⟨rfl, rfl, by simp only [evf, ne_eq, Nat.reduceEqDiff, Nat.reduceLT, not_false_eq_true], by simp only [evf, ne_eq, Nat.reduceEqDiff, Nat.reduceLT, not_false_eq_true]⟩ ?_
    rintro I' hI' k f s ⟨rfl, hk, f14, f15⟩
    refine ⟨k - 1, by omega, ?_⟩
    have d : decide ((0 : Int) < 0) = false := rfl
    simp only [f14, f15, d, evf,↓evp,evq,evr,fxa0,fxa1,fxa2,fxa3,fxa4,fxu,fxn,fxl,↓fxp,lgc,absL,fitL,flatL,ares,ares1,ofVal,unSc,aload,afill,splice,abound,asI,elems,IntKind.bits,sortT,eqNil,closedL,allByte,patch,pendOK,numA,Value.cells,Value.oneCell',ibin,List.replicate,Option.elim,Nat.reduceAdd,Nat.reduceSub,Nat.reduceMul,Nat.reduceLT,Nat.reduceEqDiff,Nat.reduceLeDiff,Nat.reduceBEq,Int.reduceLE,Int.reduceLT,Int.reduceToNat,Int.reduceBNe,Int.reduceBEq,Int.reduceNeg,Int.reduceEq,Int.reduceNe,Nat.reduceBNe,Int.reduceAdd,Int.reduceSub,Int.reduceMul,Int.reducePow,Nat.reducePow,Int.reduceGT,Int.reduceGE,if_true,if_false,ite_true,ite_false,beq_self_eq_true,BEq.rfl,reduceCtorEq,eq_self,ne_eq,Function.comp_def,beq_iff_eq]
    rw [← show ids.length = 0 from by rw [hL]; rfl] at h1
    exact hend _ _ _ h1
  · have h1 := h0 s1.length (.row 3 (ids.map fun k => .sc (.int .i64 k)) ids.length 0 false) (s1 ++ [.row 3 (ids.map fun k => .sc (.int .i64 k)) ids.length 0 false]) (g1.trans (Grw.push s1 _)) (by have := g1.le; omega) (get_new0 _ _)
    simp only [evf,↓evp,evq,evr,fxa0,fxa1,fxa2,fxa3,fxa4,fxu,fxn,fxl,↓fxp,lgc,absL,fitL,flatL,ares,ares1,ofVal,unSc,aload,afill,splice,abound,asI,elems,IntKind.bits,sortT,eqNil,closedL,allByte,patch,pendOK,numA,Value.cells,Value.oneCell',ibin,List.replicate,Option.elim,Nat.reduceAdd,Nat.reduceSub,Nat.reduceMul,Nat.reduceLT,Nat.reduceEqDiff,Nat.reduceLeDiff,Nat.reduceBEq,Int.reduceLE,Int.reduceLT,Int.reduceToNat,Int.reduceBNe,Int.reduceBEq,Int.reduceNeg,Int.reduceEq,Int.reduceNe,Nat.reduceBNe,Int.reduceAdd,Int.reduceSub,Int.reduceMul,Int.reducePow,Nat.reducePow,Int.reduceGT,Int.reduceGE,if_true,if_false,ite_true,ite_false,beq_self_eq_true,BEq.rfl,reduceCtorEq,eq_self,ne_eq,Function.comp_def,beq_iff_eq]
    refine aloop_forF (fun k f s => ∃ i : Nat, k + i = m ∧ i ≤ ids.length ∧ I s1.length (.row 3 (ids.map fun k => .sc (.int .i64 k)) ids.length 0 false) i s ∧ f 0 = .yl l ∧ f 1 = .ref rb 0 ∧ f 13 = .sl s1.length 0 ids.length false ids.length ∧ f 14 = .sc (.int .i64 ids.length) ∧ f 15 = .sc (.int .i64 i)) ⟨0, by omega, by omega, h1, by simp only [evf, ne_eq, Nat.reduceEqDiff, Nat.reduceLT, not_false_eq_true], by simp only [evf, ne_eq, Nat.reduceEqDiff, Nat.reduceLT, not_false_eq_true], by simp only [evf, ne_eq, Nat.reduceEqDiff, Nat.reduceLT, not_false_eq_true], by simp only [evf, ne_eq, Nat.reduceEqDiff, Nat.reduceLT, not_false_eq_true], by simp only [evf, ne_eq, Nat.reduceEqDiff, Nat.reduceLT, not_false_eq_true]; rfl⟩ ?_
    rintro I' hI' k f s ⟨i, hk, hi, hI, f0, f1, f13, f14, f15⟩
    refine ⟨k - 1, by omega, ?_⟩
    obtain ⟨kb, kw, kr⟩ := keep _ _ _ _ hI
    by_cases hil : i < ids.length
    · have d : decide ((i : Int) < ids.length) = true := decide_eq_true (by omega)
      have e3 : IntKind.i64.wrap ((i : Int) + 1) = ((i + 1 : Nat) : Int) := by rw [IntWalk.i64_in _ (by omega)]; rfl
      have rd : Rd Try.prog s 3 (.sl s1.length 0 ids.length false ids.length) (ids.map fun k => .sc (.int .i64 k)) ids.length := by
        refine ⟨?_, ⟨fun b hb => (by cases hb), fun hh => by cases hh⟩, fun s' hs' => by rw [sz3] at hs'; cases hs'; simp⟩
        simp only [elems, kr, sz3]
        rw [if_pos ⟨trivial, Nat.zero_le _, by omega⟩, Nat.zero_mul, List.drop_zero, Nat.mul_one, List.take_of_length_le (by simp)]
      have p1 := aix_rd rd Try.underlying55 sz3 .i64 (j := (i : Int)) (by omega) (by omega)
      have p2 := ald_ix rd sz3 sz3 (by omega) hil (o := 0) (by omega)
      have p3 : aload Try.prog 3 ((ids.map fun k => V.sc (.int .i64 k)).drop (i * 1 + 0)) = some (.sc (.int .i64 ids[i])) := by
        simp only [aload, ag3, Nat.mul_one, Nat.add_zero]
        rw [List.getElem?_drop, Nat.add_zero, List.getElem?_map, List.getElem?_eq_getElem hil]
        rfl
      rw [p3] at p2
      simp only [Int.toNat_natCast] at p1
      obtain ⟨vv, hvv⟩ : ∃ vv, vv = V.sl s1.length 0 ids.length false ids.length := ⟨_, rfl⟩
      rw [← hvv] at f13 p1 p2
      obtain ⟨v, hv⟩ := Option.isSome_iff_exists.1 ((hmem ids[i]).2 (List.getElem_mem hil))
      have look := lk_int1 Try.underlying59 kw.us ids[i] hv
      have kw1 := kw.ix
      have st1 := fun K' => step _ _ i hil v s K' hv hI
      simp only [f0, f1, f13, f14, f15, d, p1, p2, kb, kw1, look, evf,↓evp,evq,evr,fxa0,fxa1,fxa2,fxa3,fxa4,fxu,fxn,fxl,↓fxp,lgc,absL,fitL,flatL,ares,ares1,ofVal,unSc,aload,afill,splice,abound,asI,elems,IntKind.bits,sortT,eqNil,closedL,allByte,patch,pendOK,numA,Value.cells,Value.oneCell',ibin,List.replicate,Option.elim,Nat.reduceAdd,Nat.reduceSub,Nat.reduceMul,Nat.reduceLT,Nat.reduceEqDiff,Nat.reduceLeDiff,Nat.reduceBEq,Int.reduceLE,Int.reduceLT,Int.reduceToNat,Int.reduceBNe,Int.reduceBEq,Int.reduceNeg,Int.reduceEq,Int.reduceNe,Nat.reduceBNe,Int.reduceAdd,Int.reduceSub,Int.reduceMul,Int.reducePow,Nat.reducePow,Int.reduceGT,Int.reduceGE,if_true,if_false,ite_true,ite_false,beq_self_eq_true,BEq.rfl,reduceCtorEq,eq_self,ne_eq,Function.comp_def,beq_iff_eq]
      refine yl_fsz fsz (st1 _ (fun s' h' => ?_) fun s' h' => ?_)
      · simp only [f0, f1, f13, f14, f15, e3, evf,↓evp,evq,evr,fxa0,fxa1,fxa2,fxa3,fxa4,fxu,fxn,fxl,↓fxp,lgc,absL,fitL,flatL,ares,ares1,ofVal,unSc,aload,afill,splice,abound,asI,elems,IntKind.bits,sortT,eqNil,closedL,allByte,patch,pendOK,numA,Value.cells,Value.oneCell',ibin,List.replicate,Option.elim,Nat.reduceAdd,Nat.reduceSub,Nat.reduceMul,Nat.reduceLT,Nat.reduceEqDiff,Nat.reduceLeDiff,Nat.reduceBEq,Int.reduceLE,Int.reduceLT,Int.reduceToNat,Int.reduceBNe,Int.reduceBEq,Int.reduceNeg,Int.reduceEq,Int.reduceNe,Nat.reduceBNe,Int.reduceAdd,Int.reduceSub,Int.reduceMul,Int.reducePow,Nat.reducePow,Int.reduceGT,Int.reduceGE,if_true,if_false,ite_true,ite_false,beq_self_eq_true,BEq.rfl,reduceCtorEq,eq_self,ne_eq,Function.comp_def,beq_iff_eq]
        exact hI' _ _ _ ⟨i + 1, by omega, hil, h', by simp only [f0, evf, ne_eq, Nat.reduceEqDiff, Nat.reduceLT, not_false_eq_true], by simp only [f1, evf, ne_eq, Nat.reduceEqDiff, Nat.reduceLT, not_false_eq_true], by simp only [f13, hvv, evf, ne_eq, Nat.reduceEqDiff, Nat.reduceLT, not_false_eq_true], by simp only [f14, evf, ne_eq, Nat.reduceEqDiff, Nat.reduceLT, not_false_eq_true], by simp only [evf, ne_eq, Nat.reduceEqDiff, Nat.reduceLT, not_false_eq_true]⟩
      · simp only [evf,↓evp,evq,evr,fxa0,fxa1,fxa2,fxa3,fxa4,fxu,fxn,fxl,↓fxp,lgc,absL,fitL,flatL,ares,ares1,ofVal,unSc,aload,afill,splice,abound,asI,elems,IntKind.bits,sortT,eqNil,closedL,allByte,patch,pendOK,numA,Value.cells,Value.oneCell',ibin,List.replicate,Option.elim,Nat.reduceAdd,Nat.reduceSub,Nat.reduceMul,Nat.reduceLT,Nat.reduceEqDiff,Nat.reduceLeDiff,Nat.reduceBEq,Int.reduceLE,Int.reduceLT,Int.reduceToNat,Int.reduceBNe,Int.reduceBEq,Int.reduceNeg,Int.reduceEq,Int.reduceNe,Nat.reduceBNe,Int.reduceAdd,Int.reduceSub,Int.reduceMul,Int.reducePow,Nat.reducePow,Int.reduceGT,Int.reduceGE,if_true,if_false,ite_true,ite_false,beq_self_eq_true,BEq.rfl,reduceCtorEq,eq_self,ne_eq,Function.comp_def,beq_iff_eq]
        exact hstop _ h'
    · have d : decide ((i : Int) < ids.length) = false := decide_eq_false (by omega)
      obtain rfl : i = ids.length := by omega
      simp only [f14, f15, d, evf,↓evp,evq,evr,fxa0,fxa1,fxa2,fxa3,fxa4,fxu,fxn,fxl,↓fxp,lgc,absL,fitL,flatL,ares,ares1,ofVal,unSc,aload,afill,splice,abound,asI,elems,IntKind.bits,sortT,eqNil,closedL,allByte,patch,pendOK,numA,Value.cells,Value.oneCell',ibin,List.replicate,Option.elim,Nat.reduceAdd,Nat.reduceSub,Nat.reduceMul,Nat.reduceLT,Nat.reduceEqDiff,Nat.reduceLeDiff,Nat.reduceBEq,Int.reduceLE,Int.reduceLT,Int.reduceToNat,Int.reduceBNe,Int.reduceBEq,Int.reduceNeg,Int.reduceEq,Int.reduceNe,Nat.reduceBNe,Int.reduceAdd,Int.reduceSub,Int.reduceMul,Int.reducePow,Nat.reducePow,Int.reduceGT,Int.reduceGE,if_true,if_false,ite_true,ite_false,beq_self_eq_true,BEq.rfl,reduceCtorEq,eq_self,ne_eq,Function.comp_def,beq_iff_eq]
      exact hend _ _ _ hI
end
/-! ### Lists of one's own that grow. -/
def rowOf : V → Option Nat
  | .sl id _ _ _ _ => some id
  | _ => none
/-- A list of one's own, whole: none, or a row. -/
def Gl (s : List Ob) (e : TypeId) (v : V) (xs : List V) (n : Nat) : Prop :=
  (v = .tsl [] 0 true true ∧ xs = [] ∧ n = 0) ∨ ∃ id lo, v = .sl id 0 n false n ∧ s[id]? = some (.row e xs n lo false) ∧ lo ≤ n
theorem Gl.of {s s' : List Ob} {e : TypeId} {v : V} {xs : List V} {n : Nat} (h : Gl s e v xs n) (k : ∀ j o, rowOf v = some j → s[j]? = some o → s'[j]? = some o) : Gl s' e v xs n := by
  rcases h with h | ⟨id, lo, rfl, h1, h2⟩
  · exact .inl h
  · exact .inr ⟨id, lo, rfl, k _ _ rfl h1, h2⟩
theorem Gl.grw {s s' : List Ob} {e : TypeId} {v : V} {xs : List V} {n : Nat} (h : Gl s e v xs n) (k : Grw s s') : Gl s' e v xs n := h.of fun j o _ => k j o
theorem Gl.rd {P : Program} {s : List Ob} {e : TypeId} {v : V} {xs : List V} {n sz : Nat} (h : Gl s e v xs n) (hs : szOf P e = some sz) (hl : xs.length = n * sz) : Rd P s e v xs n := by
  rcases h with ⟨rfl, rfl, rfl⟩ | ⟨id, lo, rfl, h1, h2⟩
  · exact ⟨rfl, ⟨fun b hb => (by cases hb), fun _ => rfl⟩, fun s' hs' => by simp⟩
  · refine ⟨?_, ⟨fun b hb => (by cases hb), fun hh => by cases hh⟩, fun s' hs' => by rw [hs] at hs'; cases hs'; exact hl⟩
    simp only [elems, h1, hs]
    rw [if_pos ⟨trivial, h2, by omega⟩, Nat.zero_mul, List.drop_zero, ← hl, List.take_length]
theorem Gl.cut {P : Program} {s : List Ob} {e : TypeId} {v : V} {xs : List V} {n sz : Nat} (h : Gl s e v xs n) (hs : szOf P e = some sz) (hl : xs.length = n * sz) : Cut P s e v xs n := by
  refine ⟨h.rd hs hl, ?_, ?_⟩
  · rcases h with ⟨rfl, rfl, rfl⟩ | ⟨id, lo, rfl, h1, h2⟩
    · exact .inl ⟨_, _, _, _, rfl⟩
    · exact .inr ⟨_, _, _, _, rfl⟩
  · rcases h with ⟨rfl, rfl, rfl⟩ | ⟨id, lo, rfl, h1, h2⟩
    · exact fun _ => rfl
    · exact fun h => by cases h
theorem Gl.one {s : List Ob} {e : TypeId} {v : V} {xs : List V} {n : Nat} (h : Gl s e v xs n) : M.one v = true ∧ cellsV v = [v] := by
  rcases h with ⟨rfl, rfl, rfl⟩ | ⟨id, lo, rfl, h1, h2⟩ <;> exact ⟨rfl, rfl⟩
/-- One's own row has turned, nothing else. -/
def Tr (v : V) (s s' : List Ob) : Prop := s.length ≤ s'.length ∧ ∀ j o, rowOf v ≠ some j → s[j]? = some o → s'[j]? = some o
theorem gl_app {P : Program} {s : List Ob} {e t : TypeId} {v x : V} {xs zs : List V} {n k : Nat} (h : Gl s e v xs n) (ht : P.underlying t = some (.slice e)) {sz by_ : Nat} {z : Value} (hs : szOf P e = some sz) (hb : bytesOf P e = some by_) (hz : zeroOf P e = some z) (h0 : 0 < sz) (hzs : z.cells.size = sz)
    (hl0 : xs.length = n * sz) (hx : elems P s e x = some (zs, k)) (hc : closedL zs = true) (hl : zs.length = k * sz) (h1 : (n + k) * by_ ≤ 140737488355328) (h2 : n + k ≤ 9223372036854775807) :
    ∃ v' s', aappend P s t v x = some (v', s') ∧ Gl s' e v' (xs ++ zs) (n + k) ∧ Tr v s s' ∧ (∀ j, rowOf v' = some j → rowOf v = some j ∨ s.length ≤ j) := by
  rcases h with ⟨rfl, rfl, rfl⟩ | ⟨id, lo, rfl, e1, e2⟩
  · have hr : Rd P s e (.tsl [] 0 true true) [] 0 := ⟨rfl, ⟨fun b hb => (by cases hb), fun _ => rfl⟩, fun s' hs' => by simp⟩
    by_cases hk : k = 0
    · subst hk
      have : zs = [] := by simpa using hl
      subst this
      exact ⟨_, _, append_full0 hr rfl ht hs hb hz h0 hzs hx (by omega) (by omega), .inl ⟨rfl, rfl, rfl⟩, ⟨Nat.le_refl _, fun j o _ h => h⟩, fun j h => .inl h⟩
    · refine ⟨_, _, append_full hr rfl ht hs hb hz h0 hzs hx hc hl h1 h2 (by omega), .inr ⟨_, 0, rfl, get_new0 _ _, Nat.zero_le _⟩, ⟨by simp, fun j o _ h => Grw.push s _ _ _ h⟩, fun j h => .inr ?_⟩
      simp only [rowOf, Option.some.injEq] at h
      omega
  · have hlt := (List.getElem?_eq_some_iff.1 e1).1
    refine ⟨_, _, append_own e1 e2 ht hs hb hz h0 hzs hx hc hl h1 h2, .inr ⟨id, lo, rfl, get_set e1 _, by omega⟩, ⟨by rw [List.length_set]; exact Nat.le_refl _, fun j o hj h => ?_⟩, fun j h => .inl h⟩
    rw [List.getElem?_set_ne (fun he => hj (by rw [he]; rfl))]
    exact h
theorem Gl.ncells {s : List Ob} {e : TypeId} {v : V} {xs cs : List V} {n j : Nat} (h : Gl s e v xs n) (hj : s[j]? = some (.cells cs)) : rowOf v ≠ some j := by
  rcases h with ⟨rfl, rfl, rfl⟩ | ⟨id, lo, rfl, h1, h2⟩
  · intro h; cases h
  · intro h
    simp only [rowOf, Option.some.injEq] at h
    subst h
    rw [h1] at hj; cases hj
theorem Gl.nmap {s : List Ob} {e : TypeId} {v : V} {xs : List V} {es : List (Value × V)} {n j : Nat} (h : Gl s e v xs n) (hj : s[j]? = some (.map es)) : rowOf v ≠ some j := by
  rcases h with ⟨rfl, rfl, rfl⟩ | ⟨id, lo, rfl, h1, h2⟩
  · intro h; cases h
  · intro h
    simp only [rowOf, Option.some.injEq] at h
    subst h
    rw [h1] at hj; cases hj
theorem Gl.lt {s : List Ob} {e : TypeId} {v : V} {xs : List V} {n : Nat} (h : Gl s e v xs n) : ∀ j, rowOf v = some j → j < s.length := by
  intro j hj
  rcases h with ⟨rfl, _, _⟩ | ⟨id, lo, rfl, h1, _⟩
  · cases hj
  · simp only [rowOf, Option.some.injEq] at hj
    have := (List.getElem?_eq_some_iff.1 h1).1
    omega
theorem aputs_two {n p q : Nat} {f : Nat → V} {v w : V} (h : p < n) (h2 : q < n) : aputs (ofF n f) [p, q] [v, w] = ofF n (fu (fu f p v) q w) := by
  show aput (aput (ofF n f) (some p) v) (some q) w = _
  rw [aput_ofF h, aput_ofF h2]
/-! ### Rectangles and buildings, held against each other. -/
section
variable {P : Program}
theorem pr_partS {t : TypeId} {fs : Array Field} {s : Nat} (h : P.underlying t = some (.struct fs)) (hs : szOf P t = some s) (cs : Array Value) (off : Nat) : pureRun P (part t cs off) = some (.agg (cs.extract off (off + s))) := by
  obtain ⟨i, hi, rfl⟩ := Option.map_eq_some_iff.1 hs
  unfold part isAgg sizeOf typeInfo
  have e : pureRun P program = some P := rfl
  simp only [pr_bind, pureRun_underlying h, Option.bind_some, pureRun_pure]
  rw [if_pos trivial]
  simp only [pr_bind, e, Option.bind_some, hi, pureRun_pure]
theorem pr_eqConsS {d : Nat} {f : Field} {fs : List Field} {g : Array Field} {s : Nat} {xs ys : Array Value} {r : Bool} (hn : f.name ≠ "_") (h : P.underlying f.type = some (.struct g)) (hs : szOf P f.type = some s)
    (he : pureRun P (Op.equalIn d f.type (.agg (xs.extract f.offset (f.offset + s))) (.agg (ys.extract f.offset (f.offset + s)))) = some r) :
    pureRun P (Op.eqFields d xs ys (f :: fs)) = if r then pureRun P (Op.eqFields d xs ys fs) else some false := by
  rw [Op.eqFields, if_pos hn]
  simp only [pr_bind, pr_partS h hs, Option.bind_some, he]
  cases r <;> simp [pureRun_pure]
end
theorem eq_cell (d : Nat) (a b a' b' : Int) : pureRun Try.prog (Op.equalIn (d + 2) 32 (.agg #[.int .i64 a, .int .i64 b]) (.agg #[.int .i64 a', .int .i64 b'])) = some (a == a' && b == b') := by
  rw [pr_eqStruct _ _ Try.underlying32 (by kernel_rfl)]
  rw [pr_eqCons (d := d) (a := a) (b := a') (k := .i64) (by decide) Try.underlying3 (by rfl) (by rfl), pr_eqCons (d := d) (a := b) (b := b') (k := .i64) (by decide) Try.underlying3 (by rfl) (by rfl)]
  cases (a == a') <;> cases (b == b') <;> simp [Op.eqFields, pureRun_pure]
def eqR (x y w h x' y' w' h' : Int) : Bool := (x == x' && y == y') && w == w' && h == h'
theorem eq_rect (d : Nat) (x y w h x' y' w' h' : Int) : pureRun Try.prog (Op.equalIn (d + 3) 34 (.agg #[.int .i64 x, .int .i64 y, .int .i64 w, .int .i64 h]) (.agg #[.int .i64 x', .int .i64 y', .int .i64 w', .int .i64 h'])) = some (eqR x y w h x' y' w' h') := by
  rw [pr_eqStruct _ _ Try.underlying34 (by kernel_rfl)]
  rw [pr_eqConsS (d := d + 2) (r := (x == x' && y == y')) (by decide) Try.underlying32 sz32 (eq_cell d x y x' y'), pr_eqCons (d := d + 1) (a := w) (b := w') (k := .i64) (by decide) Try.underlying3 (by rfl) (by rfl), pr_eqCons (d := d + 1) (a := h) (b := h') (k := .i64) (by decide) Try.underlying3 (by rfl) (by rfl)]
  unfold eqR
  cases (x == x' && y == y') <;> cases (w == w') <;> cases (h == h') <;> simp [Op.eqFields, pureRun_pure]
theorem cmp_rectN (p q : Operand) (x y w h x' y' w' h' : Int) : pureRun Try.prog (do eqGuard .neq 34 p q (.agg #[.int .i64 x, .int .i64 y, .int .i64 w, .int .i64 h]) (.agg #[.int .i64 x', .int .i64 y', .int .i64 w', .int .i64 h']); binOp .neq 34 (.agg #[.int .i64 x, .int .i64 y, .int .i64 w, .int .i64 h]) (.agg #[.int .i64 x', .int .i64 y', .int .i64 w', .int .i64 h'])) = some (.bool (!eqR x y w h x' y' w' h')) :=
  pr_neqStruct p q (by kernel_rfl) (eq_rect 9997 x y w h x' y' w' h')
theorem cmp_rect (p q : Operand) (x y w h x' y' w' h' : Int) : pureRun Try.prog (do eqGuard .eql 34 p q (.agg #[.int .i64 x, .int .i64 y, .int .i64 w, .int .i64 h]) (.agg #[.int .i64 x', .int .i64 y', .int .i64 w', .int .i64 h']); binOp .eql 34 (.agg #[.int .i64 x, .int .i64 y, .int .i64 w, .int .i64 h]) (.agg #[.int .i64 x', .int .i64 y', .int .i64 w', .int .i64 h'])) = some (.bool (eqR x y w h x' y' w' h')) :=
  pr_eqlStruct p q (by kernel_rfl) (eq_rect 9997 x y w h x' y' w' h')
theorem eqR_true {x y w h x' y' w' h' : Int} : eqR x y w h x' y' w' h' = true ↔ x = x' ∧ y = y' ∧ w = w' ∧ h = h' := by
  unfold eqR
  simp only [Bool.and_eq_true, beq_iff_eq]
  constructor
  · rintro ⟨⟨⟨a, b⟩, c⟩, d⟩; exact ⟨a, b, c, d⟩
  · rintro ⟨a, b, c, d⟩; exact ⟨⟨⟨a, b⟩, c⟩, d⟩
/-! ### Chapter 5: has an index just these units? -/
/-- By rising numbers, not many. -/
structure Gd (L : List U) : Prop where
  srt : Srt L
  rng : ∀ u ∈ L, inR u.id
  len : L.length ≤ 256
/-- Rows stay. -/
def Kr (s s' : List Ob) : Prop := ∀ (j : Nat) (e : TypeId) (xs : List V) (n lo : Nat) (fz : Bool), s[j]? = some (.row e xs n lo fz) → s'[j]? = some (.row e xs n lo fz)
theorem rd_kr {P : Program} {st s : List Ob} {e : TypeId} {v : V} {xs : List V} {n : Nat} (h : Rd P st e v xs n) (k : Kr st s) : Rd P s e v xs n := by
  rcases h.cases with ⟨nil, full, rfl⟩ | ⟨id, off, full, gg, ys, m, lo, fz, sz, rfl, k1, k2, k3, hxs⟩
  · exact h
  · refine ⟨?_, h.2⟩
    have := h.1
    simp only [elems, k1, k2] at this
    simp only [elems, k _ _ _ _ _ _ k1, k2]
    exact this
theorem cut_kr {P : Program} {st s : List Ob} {e : TypeId} {v : V} {xs : List V} {n : Nat} (h : Cut P st e v xs n) (k : Kr st s) : Cut P s e v xs n := by
  refine ⟨rd_kr h.1 k, ?_, h.2.2⟩
  rcases h.2.1 with ⟨xs, n, nil, f, rfl⟩ | ⟨id, off, n, gg, rfl⟩
  · exact .inl ⟨_, _, _, _, rfl⟩
  · exact .inr ⟨_, _, _, _, rfl⟩
section
variable {us : List (Int × V)} {os : List ((Int × Int) × V)} {L : List U}
theorem Rel.mem (h : Rel us os L) (i : Int) : (getI i us).isSome = true ↔ i ∈ L.map U.id := by
  rw [isSome_of, List.mem_map]
  constructor
  · rintro ⟨v, hv⟩
    obtain ⟨u, hu, he, _⟩ := (h.gu _ _).1 hv
    exact ⟨u, hu, he⟩
  · rintro ⟨u, hu, he⟩
    exact ⟨_, (h.gu _ _).2 ⟨u, hu, he, rfl⟩⟩
theorem Gd.pw (h : Gd L) : (L.map U.id).Pairwise (· < ·) := List.pairwise_map.2 h.srt
theorem Gd.ir (h : Gd L) : ∀ i ∈ L.map U.id, inR i := fun i hi => by
  obtain ⟨u, hu, rfl⟩ := List.mem_map.1 hi
  exact h.rng u hu
theorem Rel.at_id (h : Rel us os L) {i : Nat} (hi : i < L.length) {v : V} (hv : getI L[i].id us = some v) : v = .agg (rc L[i].x L[i].y L[i].w L[i].h) := by
  obtain ⟨p, hp, he, rfl⟩ := (h.gu _ _).1 hv
  rw [nodup_in h.ids hp (List.getElem_mem hi) he]
end
section
variable {n m : Nat} {st s : List Ob} {K : V → List Ob → Prop} {ix a b iy : Nat} {us : List (Int × V)} {os : List ((Int × Int) × V)} {L : List U} {sv : V}
theorem Ri.keep (hy : Ri st iy sv L) (k : Grw st s) : Ri s iy sv L := hy.grw k
set_option maxHeartbeats 4000000 in
theorem same_yl {ps : Array Tmp} {asg body : Code} (hc : frf (Try.f18.body.getD .skip) = some (ps, asg, body)) {F : Nat → V} {t3 t5 lid i : Nat} {p : Option Code} (q3 : F 3 = .ref t3 0) (q5 : F 5 = .ref t5 0)
    (h3 : s[t3]? = some (.cells [.ref iy 0])) (h5 : s[t5]? = some (.cells [.sc (.int .i64 i)])) (hy : Ri s iy sv L) (hi : i < L.length) (hl : L.length ≤ 256)
    (hlp : s[lid]? = some (.loop .ready p (pl 18) (ofF 58 F) ps.toList asg body))
    (hK : ∀ s', s'[t5]? = some (.cells [.sc (.int .i64 (i + 1 : Nat))]) → s'[lid]? = some (.loop .ready none (pl 18) (ofF 58 F) ps.toList asg body) → (∀ j o, j ≠ t5 → j ≠ lid → s[j]? = some o → s'[j]? = some o) → s.length ≤ s'.length → K (.sc (.bool true)) s') :
    acallF Try.prog pl (n + 1) m Try.prog.funcs.size [.yl lid, .sc (.int .i64 L[i].id), .agg (rc L[i].x L[i].y L[i].w L[i].h)] s K := by
  simp only [Try.f18, Option.getD_some, frf, Option.some.injEq, Prod.mk.injEq] at hc
  obtain ⟨rfl, rfl, rfl⟩ := hc
  refine acallF_yl hlp rfl ?_
  rw [show (#[10, 11] : Array Tmp).toList = [10, 11] from rfl, aputs_two (by decide) (by decide)]
  simp only [rc, evf,↓evp,evq,evr,fxa0,fxa1,fxa2,fxa3,fxa4,fxu,fxn,fxl,↓fxp,lgc,absL,fitL,flatL,ares,ares1,ofVal,unSc,aload,afill,splice,abound,asI,elems,IntKind.bits,sortT,eqNil,closedL,allByte,patch,pendOK,numA,Value.cells,Value.oneCell',ibin,List.replicate,Option.elim,Nat.reduceAdd,Nat.reduceSub,Nat.reduceMul,Nat.reduceLT,Nat.reduceEqDiff,Nat.reduceLeDiff,Nat.reduceBEq,Int.reduceLE,Int.reduceLT,Int.reduceToNat,Int.reduceBNe,Int.reduceBEq,Int.reduceNeg,Int.reduceEq,Int.reduceNe,Nat.reduceBNe,Int.reduceAdd,Int.reduceSub,Int.reduceMul,Int.reducePow,Nat.reducePow,Int.reduceGT,Int.reduceGE,if_true,if_false,ite_true,ite_false,beq_self_eq_true,BEq.rfl,reduceCtorEq,eq_self,ne_eq,Function.comp_def,beq_iff_eq]
  have g0 := Grw.push s [.cells (rc L[i].x L[i].y L[i].w L[i].h)]
  have c6 : (s ++ [Ob.cells (rc L[i].x L[i].y L[i].w L[i].h)])[s.length]? = some (.cells (rc L[i].x L[i].y L[i].w L[i].h)) := get_new0 _ _
  simp only [rc] at g0 c6
  refine rdMid_ok (g0 _ _ hlp) ?_
  generalize hs1 : (s ++ [Ob.cells _]) = s1 at g0 c6
  have l1 : s1.length = s.length + 1 := by rw [← hs1]; simp
  have nl : s.length ≠ lid := fun he => by subst he; rw [List.getElem?_eq_none (Nat.le_refl _)] at hlp; cases hlp
  have lt : lid < s1.length := (List.getElem?_eq_some_iff.1 (g0 _ _ hlp)).1
  have nc : ∀ (j : Nat) (c : List V), s[j]? = some (.cells c) → j ≠ lid := fun j c hj he => by subst he; rw [hlp] at hj; cases hj
  generalize hs2 : s1.set lid _ = s2
  have k : ∀ j o, j ≠ lid → s1[j]? = some o → s2[j]? = some o := fun j o hj ho => by rw [← hs2, List.getElem?_set_ne (Ne.symm hj)]; exact ho
  have kr : Kr s s2 := fun j e xs n lo fz hj => k _ _ (fun he => by rw [he, hlp] at hj; cases hj) (g0 _ _ hj)
  have d3 := k _ _ (nc _ _ h3) (g0 _ _ h3)
  have d5 := k _ _ (nc _ _ h5) (g0 _ _ h5)
  have d6 := k _ _ nl c6
  have dr := k _ _ (nc _ _ hy.at_) (g0 _ _ hy.at_)
  have dl : ∀ o, s1.set lid o = s2 → s2[lid]? = some o := fun o ho => by rw [← ho]; exact List.getElem?_set_self lt
  have dl := dl _ hs2
  have rb2 := rd_kr hy.rd.1 kr
  have l2 : s2.length = s1.length := by rw [← hs2, List.length_set]
  have al := alen_rd rb2 Try.underlying27
  have d : decide ((i : Int) ≥ L.length) = false := decide_eq_false (by omega)
  have e3 : IntKind.i64.wrap ((i : Int) + 1) = ((i + 1 : Nat) : Int) := by rw [IntWalk.i64_in _ (by omega)]; rfl
  obtain ⟨p1, p2⟩ := ix_flat (f := U.v) (fun a => rfl) rb2 Try.underlying27 sz48 ag48 (by omega) hi
  obtain ⟨p3, p4⟩ := u_id rb2 hi
  obtain ⟨p5, p6⟩ := u_r rb2 hi
  have cm := fun p q => cmp_rectN p q L[i].x L[i].y L[i].w L[i].h L[i].x L[i].y L[i].w L[i].h
  have eq1 : eqR L[i].x L[i].y L[i].w L[i].h L[i].x L[i].y L[i].w L[i].h = true := by simp [eqR]
  have ne1 : (L[i].id != L[i].id) = false := by simp
  simp only [rc] at p6
  have b5 : ∀ o, (s2.set t5 o)[t5]? = some o := fun o => get_set d5 o
  simp only [q3, q5, d3, d5, d6, dr, al, d, p1, p3, p4, p5, p6, cm, eq1, ne1, Bool.not_true, e3, b5, evf,↓evp,evq,evr,fxa0,fxa1,fxa2,fxa3,fxa4,fxu,fxn,fxl,↓fxp,lgc,absL,fitL,flatL,ares,ares1,ofVal,unSc,aload,afill,splice,abound,asI,elems,IntKind.bits,sortT,eqNil,closedL,allByte,patch,pendOK,numA,Value.cells,Value.oneCell',ibin,List.replicate,Option.elim,Nat.reduceAdd,Nat.reduceSub,Nat.reduceMul,Nat.reduceLT,Nat.reduceEqDiff,Nat.reduceLeDiff,Nat.reduceBEq,Int.reduceLE,Int.reduceLT,Int.reduceToNat,Int.reduceBNe,Int.reduceBEq,Int.reduceNeg,Int.reduceEq,Int.reduceNe,Nat.reduceBNe,Int.reduceAdd,Int.reduceSub,Int.reduceMul,Int.reducePow,Nat.reducePow,Int.reduceGT,Int.reduceGE,if_true,if_false,ite_true,ite_false,beq_self_eq_true,BEq.rfl,reduceCtorEq,eq_self,ne_eq,Function.comp_def,beq_iff_eq]
  have nt := nc _ _ h5
  have lt5 : t5 < s2.length := (List.getElem?_eq_some_iff.1 d5).1
  have ll2 : lid < s2.length := (List.getElem?_eq_some_iff.1 dl).1
  refine rdEnd_normal (by rw [List.getElem?_set_ne nt]; exact dl) ?_
  refine hK _ ?_ ?_ ?_ ?_
  · rw [List.getElem?_set_ne (Ne.symm nt), List.getElem?_set_self lt5]
  · rw [List.getElem?_set_self (by rw [List.length_set]; exact ll2)]
  · intro j o j1 j2 ho
    rw [List.getElem?_set_ne (Ne.symm j2), List.getElem?_set_ne (Ne.symm j1)]
    exact k _ _ j2 (g0 _ _ ho)
  · rw [List.length_set, List.length_set]
    omega
set_option maxHeartbeats 4000000 in
theorem l5_same (hr : Rel us os L) (hg : Gd L) (hi : Ix st ix a b us os) (hy : Ri st iy sv L) (hm : 300 < m)
    (hK : ∀ s, Grw st s → K (.sc (.bool true)) s) : acallF Try.prog pl (n + 5) m 18 [.ref ix 0, .ref iy 0] st K := by
  refine acallF_inF Try.func18 rfl rfl Try.ntmps18 (by simp) ?_
  obtain ⟨s2, hs2⟩ : ∃ s2, s2 = st ++ [Ob.cells [.ref iy 0], Ob.cells [.sc (.bool false)], Ob.cells [.sc (.int .i64 0)]] := ⟨_, rfl⟩
  have g2 : Grw st s2 := by rw [hs2]; exact .push _ _
  have c2 : s2[st.length]? = some (.cells [.ref iy 0]) := by rw [hs2]; exact get_new0 _ _
  have d2 : s2[st.length + 1]? = some (.cells [.sc (.bool false)]) := by rw [hs2]; exact get_new _ _ 1
  have k2 : s2[st.length + 2]? = some (.cells [.sc (.int .i64 0)]) := by rw [hs2]; exact get_new _ _ 2
  have l2 : s2.length = st.length + 3 := by rw [hs2]; simp
  simp only [evf,↓evp,evq,evr,fxa0,fxa1,fxa2,fxa3,fxa4,fxu,fxn,fxl,↓fxp,lgc,absL,fitL,flatL,ares,ares1,ofVal,unSc,aload,afill,splice,abound,asI,elems,IntKind.bits,sortT,eqNil,closedL,allByte,patch,pendOK,numA,Value.cells,Value.oneCell',ibin,List.replicate,Option.elim,Nat.reduceAdd,Nat.reduceSub,Nat.reduceMul,Nat.reduceLT,Nat.reduceEqDiff,Nat.reduceLeDiff,Nat.reduceBEq,Int.reduceLE,Int.reduceLT,Int.reduceToNat,Int.reduceBNe,Int.reduceBEq,Int.reduceNeg,Int.reduceEq,Int.reduceNe,Nat.reduceBNe,Int.reduceAdd,Int.reduceSub,Int.reduceMul,Int.reducePow,Nat.reducePow,Int.reduceGT,Int.reduceGE,if_true,if_false,ite_true,ite_false,beq_self_eq_true,BEq.rfl,reduceCtorEq,eq_self,ne_eq,Function.comp_def,beq_iff_eq]
  rw [← hs2]
  refine o_All (n := n + 3) rfl rfl ?_
  obtain ⟨sa, hsa⟩ : ∃ sa, sa = s2 ++ [Ob.cells [.ref ix 0]] := ⟨_, rfl⟩
  have ga : Grw s2 sa := by rw [hsa]; exact .push _ _
  have va : sa[s2.length]? = some (.cells [.ref ix 0]) := by rw [hsa]; exact get_new0 _ _
  have lsa : sa.length = s2.length + 1 := by rw [hsa]; simp
  have ca := ga _ _ c2
  have da := ga _ _ d2
  have ka := ga _ _ k2
  have gst := g2.trans ga
  rw [← hsa]
  simp only [evf,↓evp,evq,evr,fxa0,fxa1,fxa2,fxa3,fxa4,fxu,fxn,fxl,↓fxp,lgc,absL,fitL,flatL,ares,ares1,ofVal,unSc,aload,afill,splice,abound,asI,elems,IntKind.bits,sortT,eqNil,closedL,allByte,patch,pendOK,numA,Value.cells,Value.oneCell',ibin,List.replicate,Option.elim,Nat.reduceAdd,Nat.reduceSub,Nat.reduceMul,Nat.reduceLT,Nat.reduceEqDiff,Nat.reduceLeDiff,Nat.reduceBEq,Int.reduceLE,Int.reduceLT,Int.reduceToNat,Int.reduceBNe,Int.reduceBEq,Int.reduceNeg,Int.reduceEq,Int.reduceNe,Nat.reduceBNe,Int.reduceAdd,Int.reduceSub,Int.reduceMul,Int.reducePow,Nat.reducePow,Int.reduceGT,Int.reduceGE,if_true,if_false,ite_true,ite_false,beq_self_eq_true,BEq.rfl,reduceCtorEq,eq_self,ne_eq,Function.comp_def,beq_iff_eq]
  generalize hS : (sa ++ [_]) = S
  have gS : Grw sa S := by rw [← hS]; exact .push _ _
  have lS : S.length = sa.length + 1 := by rw [← hS]; simp
  obtain ⟨F, ps, asg, body, hc, q3, q5, hl0⟩ : ∃ F ps asg body, frf (Try.f18.body.getD .skip) = some (ps, asg, body) ∧ F 3 = .ref st.length 0 ∧ F 5 = .ref (st.length + 2) 0 ∧ S[sa.length]? = some (.loop .ready none (pl 18) (ofF 58 F) ps.toList asg body) := by
    refine ⟨_, _, _, _, rfl, ?_, ?_, (by rw [← hS]; exact get_new0 sa _)⟩
    · simp only [evf, ne_eq, Nat.reduceEqDiff, Nat.reduceLT, not_false_eq_true]
    · simp only [evf, ne_eq, Nat.reduceEqDiff, Nat.reduceLT, not_false_eq_true]
  have gSt := gst.trans gS
  have eL : (L.map U.id).length = L.length := List.length_map _
  refine o_Each (n := n) (l := sa.length) (rb := s2.length) (ids := L.map U.id) (J := fun _ => False)
    (I := fun r ro k s => s[r]? = some ro ∧ S.length ≤ r ∧ s[st.length + 2]? = some (.cells [.sc (.int .i64 k)]) ∧ s[sa.length]? = some (.loop .ready none (pl 18) (ofF 58 F) ps.toList asg body) ∧ s[st.length]? = some (.cells [.ref iy 0]) ∧ s[s2.length]? = some (.cells [.ref ix 0]) ∧ s[st.length + 1]? = some (.cells [.sc (.bool false)]) ∧ Grw st s)
    (hi.grw gSt) (gS _ _ va) hr.ni hr.mem hg.pw hg.ir (by rw [eL]; exact hg.len) hm ?_ ?_ ?_ ?_ (fun _ h => h.elim)
  · rintro r ro k s ⟨i1, i2, i3, i4, i5, i6, i7, i8⟩
    exact ⟨i6, hi.grw i8, i1⟩
  · intro r ro s g hr1 hr2
    exact ⟨hr2, hr1, g _ _ (gS _ _ ka), g _ _ hl0, g _ _ (gS _ _ ca), g _ _ (gS _ _ va), g _ _ (gS _ _ da), gSt.trans g⟩
  · rintro r ro i hil v s K' hv ⟨i1, i2, i3, i4, i5, i6, i7, i8⟩ hK1 _
    have hil' : i < L.length := by rw [eL] at hil; exact hil
    simp only [List.getElem_map] at hv ⊢
    rw [hr.at_id hil' hv]
    refine same_yl (n := n + 2) (t3 := st.length) (t5 := st.length + 2) (lid := sa.length) (F := F) (p := none) hc q3 q5 i5 i3 (hy.grw i8) hil' hg.len i4 ?_
    intro s' k1 k2 k3 k4
    exact hK1 _ ⟨k3 _ _ (by omega) (by omega) i1, i2, k1, k2, k3 _ _ (by omega) (by omega) i5, k3 _ _ (by omega) (by omega) i6, k3 _ _ (by omega) (by omega) i7, fun j o ho => by
      have lj : j < st.length := (List.getElem?_eq_some_iff.1 ho).1
      exact k3 _ _ (by omega) (by omega) (i8 _ _ ho)⟩
  · rintro r ro s ⟨i1, i2, i3, i4, i5, i6, i7, i8⟩
    rw [eL] at i3
    refine rfEnd_normal i4 (by decide) ?_
    have lsl : sa.length < s.length := (List.getElem?_eq_some_iff.1 i4).1
    generalize hsz : s.set sa.length _ = sz
    have kz : ∀ j o, j ≠ sa.length → s[j]? = some o → sz[j]? = some o := fun j o hj ho => by rw [← hsz, List.getElem?_set_ne (Ne.symm hj)]; exact ho
    have z3 := kz _ _ (by omega) i3
    have z5 := kz _ _ (by omega) i5
    have z7 := kz _ _ (by omega) i7
    have gz : Grw st sz := fun j o ho => by
      have lj : j < st.length := (List.getElem?_eq_some_iff.1 ho).1
      exact kz _ _ (by omega) (i8 _ _ ho)
    have hyz := hy.grw gz
    have wz := hyz.at_
    have alz := alen_rd hyz.rd.1 Try.underlying27
    have bz : ∀ o, (sz.set (st.length + 1) o)[st.length + 1]? = some o := fun o => get_set z7 o
    simp only [z3, z5, z7, wz, alz, bz, beq_self_eq_true, evf,↓evp,evq,evr,fxa0,fxa1,fxa2,fxa3,fxa4,fxu,fxn,fxl,↓fxp,lgc,absL,fitL,flatL,ares,ares1,ofVal,unSc,aload,afill,splice,abound,asI,elems,IntKind.bits,sortT,eqNil,closedL,allByte,patch,pendOK,numA,Value.cells,Value.oneCell',ibin,List.replicate,Option.elim,Nat.reduceAdd,Nat.reduceSub,Nat.reduceMul,Nat.reduceLT,Nat.reduceEqDiff,Nat.reduceLeDiff,Nat.reduceBEq,Int.reduceLE,Int.reduceLT,Int.reduceToNat,Int.reduceBNe,Int.reduceBEq,Int.reduceNeg,Int.reduceEq,Int.reduceNe,Nat.reduceBNe,Int.reduceAdd,Int.reduceSub,Int.reduceMul,Int.reducePow,Nat.reducePow,Int.reduceGT,Int.reduceGE,if_true,if_false,ite_true,ite_false,beq_self_eq_true,BEq.rfl,reduceCtorEq,eq_self,ne_eq,Function.comp_def,beq_iff_eq]
    refine o_Len1 (n := n + 2) (hi.grw gz) ?_
    rw [hr.len]
    simp only [z3, z5, z7, wz, alz, bz, beq_self_eq_true, evf,↓evp,evq,evr,fxa0,fxa1,fxa2,fxa3,fxa4,fxu,fxn,fxl,↓fxp,lgc,absL,fitL,flatL,ares,ares1,ofVal,unSc,aload,afill,splice,abound,asI,elems,IntKind.bits,sortT,eqNil,closedL,allByte,patch,pendOK,numA,Value.cells,Value.oneCell',ibin,List.replicate,Option.elim,Nat.reduceAdd,Nat.reduceSub,Nat.reduceMul,Nat.reduceLT,Nat.reduceEqDiff,Nat.reduceLeDiff,Nat.reduceBEq,Int.reduceLE,Int.reduceLT,Int.reduceToNat,Int.reduceBNe,Int.reduceBEq,Int.reduceNeg,Int.reduceEq,Int.reduceNe,Nat.reduceBNe,Int.reduceAdd,Int.reduceSub,Int.reduceMul,Int.reducePow,Nat.reducePow,Int.reduceGT,Int.reduceGE,if_true,if_false,ite_true,ite_false,beq_self_eq_true,BEq.rfl,reduceCtorEq,eq_self,ne_eq,Function.comp_def,beq_iff_eq]
    exact hK _ (gz.set (by omega) _)
end
/-! ### Chapter 5's reference: has nobody but one a cell? -/
section
variable {n m : Nat} {st s : List Ob} {K : V → List Ob → Prop} {x y w h but : Int} {sv : V} {L : List U} {iy : Nat}
def othR (but x y w h : Int) (u : U) : Bool := u.id != but && meetsR x y w h u
set_option maxHeartbeats 4000000 in
theorem r_Free (hy : Ri st iy sv L) (hm : L.length < m) (hl : L.length < 1000000) (hK : ∀ s, Grw st s → K (.sc (.bool (mayB x y w h && !L.any (othR but x y w h)))) s) : acallF Try.prog pl (n + 6) m 23 [.ref iy 0, .agg (rc x y w h), .sc (.int .i64 but)] st K := by
  refine acallF_inF Try.func23 rfl rfl Try.ntmps23 (by simp) ?_
  have g0 := Grw.push st [.cells (rc x y w h)]
  have c0 : (st ++ [Ob.cells (rc x y w h)])[st.length]? = some (.cells (rc x y w h)) := get_new _ _ 0
  simp only [rc] at g0 c0
  simp only [rc, c0, evf,↓evp,evq,evr,fxa0,fxa1,fxa2,fxa3,fxa4,fxu,fxn,fxl,↓fxp,lgc,absL,fitL,flatL,ares,ares1,ofVal,unSc,aload,afill,splice,abound,asI,elems,IntKind.bits,sortT,eqNil,closedL,allByte,patch,pendOK,numA,Value.cells,Value.oneCell',ibin,List.replicate,Option.elim,Nat.reduceAdd,Nat.reduceSub,Nat.reduceMul,Nat.reduceLT,Nat.reduceEqDiff,Nat.reduceLeDiff,Nat.reduceBEq,Int.reduceLE,Int.reduceLT,Int.reduceToNat,Int.reduceBNe,Int.reduceBEq,Int.reduceNeg,Int.reduceEq,Int.reduceNe,Nat.reduceBNe,Int.reduceAdd,Int.reduceSub,Int.reduceMul,Int.reducePow,Nat.reducePow,Int.reduceGT,Int.reduceGE,if_true,if_false,ite_true,ite_false,beq_self_eq_true,BEq.rfl,reduceCtorEq,eq_self,ne_eq,Function.comp_def,beq_iff_eq]
  refine r_May (n := n + 2) fun s1 j1 => ?_
  have c1 := j1 _ _ c0
  have g1 := g0.trans j1
  cases e1 : mayB x y w h
  · simp only [e1, Bool.false_and] at hK
    simp only [evf,↓evp,evq,evr,fxa0,fxa1,fxa2,fxa3,fxa4,fxu,fxn,fxl,↓fxp,lgc,absL,fitL,flatL,ares,ares1,ofVal,unSc,aload,afill,splice,abound,asI,elems,IntKind.bits,sortT,eqNil,closedL,allByte,patch,pendOK,numA,Value.cells,Value.oneCell',ibin,List.replicate,Option.elim,Nat.reduceAdd,Nat.reduceSub,Nat.reduceMul,Nat.reduceLT,Nat.reduceEqDiff,Nat.reduceLeDiff,Nat.reduceBEq,Int.reduceLE,Int.reduceLT,Int.reduceToNat,Int.reduceBNe,Int.reduceBEq,Int.reduceNeg,Int.reduceEq,Int.reduceNe,Nat.reduceBNe,Int.reduceAdd,Int.reduceSub,Int.reduceMul,Int.reducePow,Nat.reducePow,Int.reduceGT,Int.reduceGE,if_true,if_false,ite_true,ite_false,beq_self_eq_true,BEq.rfl,reduceCtorEq,eq_self,ne_eq,Function.comp_def,beq_iff_eq]
    exact hK _ g1
  simp only [e1, Bool.true_and] at hK
  simp only [evf,↓evp,evq,evr,fxa0,fxa1,fxa2,fxa3,fxa4,fxu,fxn,fxl,↓fxp,lgc,absL,fitL,flatL,ares,ares1,ofVal,unSc,aload,afill,splice,abound,asI,elems,IntKind.bits,sortT,eqNil,closedL,allByte,patch,pendOK,numA,Value.cells,Value.oneCell',ibin,List.replicate,Option.elim,Nat.reduceAdd,Nat.reduceSub,Nat.reduceMul,Nat.reduceLT,Nat.reduceEqDiff,Nat.reduceLeDiff,Nat.reduceBEq,Int.reduceLE,Int.reduceLT,Int.reduceToNat,Int.reduceBNe,Int.reduceBEq,Int.reduceNeg,Int.reduceEq,Int.reduceNe,Nat.reduceBNe,Int.reduceAdd,Int.reduceSub,Int.reduceMul,Int.reducePow,Nat.reducePow,Int.reduceGT,Int.reduceGE,if_true,if_false,ite_true,ite_false,beq_self_eq_true,BEq.rfl,reduceCtorEq,eq_self,ne_eq,Function.comp_def,beq_iff_eq]
  refine aloop_forF (fun k f s => ∃ i : Nat, Grw st s ∧ s[st.length]? = some (.cells (rc x y w h)) ∧ k + i = m ∧ i ≤ L.length ∧ L.any (othR but x y w h) = (L.drop i).any (othR but x y w h) ∧ f 0 = .ref iy 0 ∧ f 2 = .sc (.int .i64 but) ∧ f 4 = .ref st.length 0 ∧ f 7 = .sc (.int .i64 i)) ⟨0, g1, c1, by omega, by omega, rfl, by simp only [evf, ne_eq, Nat.reduceEqDiff, Nat.reduceLT, not_false_eq_true], by simp only [evf, ne_eq, Nat.reduceEqDiff, Nat.reduceLT, not_false_eq_true], by simp only [evf, ne_eq, Nat.reduceEqDiff, Nat.reduceLT, not_false_eq_true], by simp only [evf, ne_eq, Nat.reduceEqDiff, Nat.reduceLT, not_false_eq_true]; rfl⟩ ?_
  rintro I' hI' k f s ⟨i, gs, cs, hk, hi, hp, f0, f2, f4, f7⟩
  refine ⟨k - 1, by omega, ?_⟩
  have hys := hy.grw gs
  have y1 := hys.at_
  have hv := hys.rd.1
  have hal := alen_rd hv Try.underlying27
  simp only [rc] at cs
  by_cases hil : i < L.length
  · have d : decide ((i : Int) < L.length) = true := decide_eq_true (by omega)
    obtain ⟨p1, p2⟩ := ix_flat (f := U.v) (fun a => rfl) hv Try.underlying27 sz48 ag48 (by omega) hil
    have e3 : IntKind.i64.wrap ((i : Int) + 1) = ((i + 1 : Nat) : Int) := by rw [IntWalk.i64_in _ (by omega)]; rfl
    have hd : L.drop i = L[i] :: L.drop (i + 1) := List.drop_eq_getElem_cons hil
    rw [hd, List.any_cons] at hp
    obtain ⟨p3, p4⟩ := u_r hv hil
    obtain ⟨p5, p6⟩ := u_id hv hil
    cases q0 : L[i].id != but
    · simp only [othR, q0, Bool.false_and, Bool.false_or] at hp
      simp only [f0, f2, f4, f7, y1, hal, d, p1, p3, p4, p5, p6, cs, q0, e3, evf,↓evp,evq,evr,fxa0,fxa1,fxa2,fxa3,fxa4,fxu,fxn,fxl,↓fxp,lgc,absL,fitL,flatL,ares,ares1,ofVal,unSc,aload,afill,splice,abound,asI,elems,IntKind.bits,sortT,eqNil,closedL,allByte,patch,pendOK,numA,Value.cells,Value.oneCell',ibin,List.replicate,Option.elim,Nat.reduceAdd,Nat.reduceSub,Nat.reduceMul,Nat.reduceLT,Nat.reduceEqDiff,Nat.reduceLeDiff,Nat.reduceBEq,Int.reduceLE,Int.reduceLT,Int.reduceToNat,Int.reduceBNe,Int.reduceBEq,Int.reduceNeg,Int.reduceEq,Int.reduceNe,Nat.reduceBNe,Int.reduceAdd,Int.reduceSub,Int.reduceMul,Int.reducePow,Nat.reducePow,Int.reduceGT,Int.reduceGE,if_true,if_false,ite_true,ite_false,beq_self_eq_true,BEq.rfl,reduceCtorEq,eq_self,ne_eq,Function.comp_def,beq_iff_eq]
      exact hI' _ _ _ ⟨i + 1, gs, cs, by omega, hil, hp, by simp only [f0, evf, ne_eq, Nat.reduceEqDiff, Nat.reduceLT, not_false_eq_true], by simp only [f2, evf, ne_eq, Nat.reduceEqDiff, Nat.reduceLT, not_false_eq_true], by simp only [f4, evf, ne_eq, Nat.reduceEqDiff, Nat.reduceLT, not_false_eq_true], by simp only [evf, ne_eq, Nat.reduceEqDiff, Nat.reduceLT, not_false_eq_true]⟩
    · simp only [f0, f2, f4, f7, y1, hal, d, p1, p3, p4, p5, p6, cs, q0, evf,↓evp,evq,evr,fxa0,fxa1,fxa2,fxa3,fxa4,fxu,fxn,fxl,↓fxp,lgc,absL,fitL,flatL,ares,ares1,ofVal,unSc,aload,afill,splice,abound,asI,elems,IntKind.bits,sortT,eqNil,closedL,allByte,patch,pendOK,numA,Value.cells,Value.oneCell',ibin,List.replicate,Option.elim,Nat.reduceAdd,Nat.reduceSub,Nat.reduceMul,Nat.reduceLT,Nat.reduceEqDiff,Nat.reduceLeDiff,Nat.reduceBEq,Int.reduceLE,Int.reduceLT,Int.reduceToNat,Int.reduceBNe,Int.reduceBEq,Int.reduceNeg,Int.reduceEq,Int.reduceNe,Nat.reduceBNe,Int.reduceAdd,Int.reduceSub,Int.reduceMul,Int.reducePow,Nat.reducePow,Int.reduceGT,Int.reduceGE,if_true,if_false,ite_true,ite_false,beq_self_eq_true,BEq.rfl,reduceCtorEq,eq_self,ne_eq,Function.comp_def,beq_iff_eq]
      refine r_meet (n := n) fun s2 j2 => ?_
      have cs2 := j2 _ _ cs
      cases q : meetB L[i].x L[i].y L[i].w L[i].h x y w h
      · simp only [othR, meetsR, q0, q, Bool.and_false, Bool.false_or] at hp
        simp only [f0, f2, f4, f7, e3, evf,↓evp,evq,evr,fxa0,fxa1,fxa2,fxa3,fxa4,fxu,fxn,fxl,↓fxp,lgc,absL,fitL,flatL,ares,ares1,ofVal,unSc,aload,afill,splice,abound,asI,elems,IntKind.bits,sortT,eqNil,closedL,allByte,patch,pendOK,numA,Value.cells,Value.oneCell',ibin,List.replicate,Option.elim,Nat.reduceAdd,Nat.reduceSub,Nat.reduceMul,Nat.reduceLT,Nat.reduceEqDiff,Nat.reduceLeDiff,Nat.reduceBEq,Int.reduceLE,Int.reduceLT,Int.reduceToNat,Int.reduceBNe,Int.reduceBEq,Int.reduceNeg,Int.reduceEq,Int.reduceNe,Nat.reduceBNe,Int.reduceAdd,Int.reduceSub,Int.reduceMul,Int.reducePow,Nat.reducePow,Int.reduceGT,Int.reduceGE,if_true,if_false,ite_true,ite_false,beq_self_eq_true,BEq.rfl,reduceCtorEq,eq_self,ne_eq,Function.comp_def,beq_iff_eq]
        exact hI' _ _ _ ⟨i + 1, gs.trans j2, cs2, by omega, hil, hp, by simp only [f0, evf, ne_eq, Nat.reduceEqDiff, Nat.reduceLT, not_false_eq_true], by simp only [f2, evf, ne_eq, Nat.reduceEqDiff, Nat.reduceLT, not_false_eq_true], by simp only [f4, evf, ne_eq, Nat.reduceEqDiff, Nat.reduceLT, not_false_eq_true], by simp only [evf, ne_eq, Nat.reduceEqDiff, Nat.reduceLT, not_false_eq_true]⟩
      · simp only [othR, meetsR, q0, q, Bool.and_self, Bool.true_or] at hp
        rw [hp] at hK
        simp only [evf,↓evp,evq,evr,fxa0,fxa1,fxa2,fxa3,fxa4,fxu,fxn,fxl,↓fxp,lgc,absL,fitL,flatL,ares,ares1,ofVal,unSc,aload,afill,splice,abound,asI,elems,IntKind.bits,sortT,eqNil,closedL,allByte,patch,pendOK,numA,Value.cells,Value.oneCell',ibin,List.replicate,Option.elim,Nat.reduceAdd,Nat.reduceSub,Nat.reduceMul,Nat.reduceLT,Nat.reduceEqDiff,Nat.reduceLeDiff,Nat.reduceBEq,Int.reduceLE,Int.reduceLT,Int.reduceToNat,Int.reduceBNe,Int.reduceBEq,Int.reduceNeg,Int.reduceEq,Int.reduceNe,Nat.reduceBNe,Int.reduceAdd,Int.reduceSub,Int.reduceMul,Int.reducePow,Nat.reducePow,Int.reduceGT,Int.reduceGE,if_true,if_false,ite_true,ite_false,beq_self_eq_true,BEq.rfl,reduceCtorEq,eq_self,ne_eq,Function.comp_def,beq_iff_eq]
        exact hK _ (gs.trans j2)
  · have d : decide ((i : Int) < L.length) = false := decide_eq_false (by omega)
    obtain rfl : i = L.length := by omega
    rw [List.drop_length] at hp
    rw [hp] at hK
    simp only [f0, f2, f4, f7, y1, hal, d, evf,↓evp,evq,evr,fxa0,fxa1,fxa2,fxa3,fxa4,fxu,fxn,fxl,↓fxp,lgc,absL,fitL,flatL,ares,ares1,ofVal,unSc,aload,afill,splice,abound,asI,elems,IntKind.bits,sortT,eqNil,closedL,allByte,patch,pendOK,numA,Value.cells,Value.oneCell',ibin,List.replicate,Option.elim,Nat.reduceAdd,Nat.reduceSub,Nat.reduceMul,Nat.reduceLT,Nat.reduceEqDiff,Nat.reduceLeDiff,Nat.reduceBEq,Int.reduceLE,Int.reduceLT,Int.reduceToNat,Int.reduceBNe,Int.reduceBEq,Int.reduceNeg,Int.reduceEq,Int.reduceNe,Nat.reduceBNe,Int.reduceAdd,Int.reduceSub,Int.reduceMul,Int.reducePow,Nat.reducePow,Int.reduceGT,Int.reduceGE,if_true,if_false,ite_true,ite_false,beq_self_eq_true,BEq.rfl,reduceCtorEq,eq_self,ne_eq,Function.comp_def,beq_iff_eq]
    exact hK _ gs
end
/-! ### Chapter 5: no cell ever has two units. -/
section
variable {n m : Nat} {st s : List Ob} {K : V → List Ob → Prop} {yv : V} {pre : List U} {u : U} {iy : Nat}
theorem one_unit (k : Nat) (hk : k < pre.length) : ((pre.flatMap U.v).drop (k * 5)).take ((k + 1 - k) * 5) = [pre[k]].flatMap U.v := by
  rw [flatMap_drop (f := U.v) (s := 5) (fun _ => rfl), Nat.add_sub_cancel_left, flat_take, List.drop_eq_getElem_cons hk]
  rfl
set_option maxHeartbeats 4000000 in
/-- A round of 'OccupyApart'. -/
theorem apart_yl {ps : Array Tmp} {asg body : Code} (hc : frf (Try.f4.body.getD .skip) = some (ps, asg, body)) {F : Nat → V} {t4 lid : Nat} {p : Option Code} (q4 : F 4 = .ref t4 0)
    (h4 : s[t4]? = some (.cells [.ref iy 0])) (hy : s[iy]? = some (.cells [yv])) (gl : Gl s 48 yv (pre.flatMap U.v) pre.length) (hp : pre.length ≤ 256) (hm : 300 < m)
    (hmay : mayB u.x u.y u.w u.h = true) (hoth : ∀ q ∈ pre, othR u.id u.x u.y u.w u.h q = false)
    (hl : s[lid]? = some (.loop .ready p (pl 4) (ofF 118 F) ps.toList asg body))
    (hK : ∀ yv2 s', Gl s' 48 yv2 ((pre ++ [u]).flatMap U.v) (pre.length + 1) → s'[iy]? = some (.cells [yv2]) → s'[lid]? = some (.loop .ready none (pl 4) (ofF 118 F) ps.toList asg body) → (∀ j o, j ≠ iy → j ≠ lid → rowOf yv ≠ some j → s[j]? = some o → s'[j]? = some o) → s.length ≤ s'.length → (∀ j, rowOf yv2 = some j → rowOf yv = some j ∨ s.length ≤ j) → K (.sc (.bool true)) s') :
    acallF Try.prog pl (n + 7) m Try.prog.funcs.size [.yl lid, .sc (.int .i64 u.id), .agg (rc u.x u.y u.w u.h)] s K := by
  simp only [Try.f4, Option.getD_some, frf, Option.some.injEq, Prod.mk.injEq] at hc
  obtain ⟨rfl, rfl, rfl⟩ := hc
  refine acallF_yl hl rfl ?_
  rw [show (#[80, 81] : Array Tmp).toList = [80, 81] from rfl, aputs_two (by decide) (by decide)]
  simp only [rc, evf,↓evp,evq,evr,fxa0,fxa1,fxa2,fxa3,fxa4,fxu,fxn,fxl,↓fxp,lgc,absL,fitL,flatL,ares,ares1,ofVal,unSc,aload,afill,splice,abound,asI,elems,IntKind.bits,sortT,eqNil,closedL,allByte,patch,pendOK,numA,Value.cells,Value.oneCell',ibin,List.replicate,Option.elim,Nat.reduceAdd,Nat.reduceSub,Nat.reduceMul,Nat.reduceLT,Nat.reduceEqDiff,Nat.reduceLeDiff,Nat.reduceBEq,Int.reduceLE,Int.reduceLT,Int.reduceToNat,Int.reduceBNe,Int.reduceBEq,Int.reduceNeg,Int.reduceEq,Int.reduceNe,Nat.reduceBNe,Int.reduceAdd,Int.reduceSub,Int.reduceMul,Int.reducePow,Nat.reducePow,Int.reduceGT,Int.reduceGE,if_true,if_false,ite_true,ite_false,beq_self_eq_true,BEq.rfl,reduceCtorEq,eq_self,ne_eq,Function.comp_def,beq_iff_eq]
  have g0 := Grw.push s [.cells (rc u.x u.y u.w u.h)]
  have c6 : (s ++ [Ob.cells (rc u.x u.y u.w u.h)])[s.length]? = some (.cells (rc u.x u.y u.w u.h)) := get_new0 _ _
  simp only [rc] at g0 c6
  refine rdMid_ok (g0 _ _ hl) ?_
  generalize hs1 : (s ++ [Ob.cells _]) = s1 at g0 c6
  have l1 : s1.length = s.length + 1 := by rw [← hs1]; simp
  have nl : s.length ≠ lid := fun he => by subst he; rw [List.getElem?_eq_none (Nat.le_refl _)] at hl; cases hl
  have lt : lid < s1.length := (List.getElem?_eq_some_iff.1 (g0 _ _ hl)).1
  have nc : ∀ (j : Nat) (c : List V), s[j]? = some (.cells c) → j ≠ lid := fun j c hj he => by subst he; rw [hl] at hj; cases hj
  have nrl : rowOf yv ≠ some lid := fun he => by
    rcases gl with ⟨rfl, _, _⟩ | ⟨id, lo, rfl, h1, _⟩
    · cases he
    · simp only [rowOf, Option.some.injEq] at he
      subst he
      rw [hl] at h1; cases h1
  generalize hs2 : s1.set lid _ = s2
  have k : ∀ j o, j ≠ lid → s1[j]? = some o → s2[j]? = some o := fun j o hj ho => by rw [← hs2, List.getElem?_set_ne (Ne.symm hj)]; exact ho
  have d4 := k _ _ (nc _ _ h4) (g0 _ _ h4)
  have dy := k _ _ (nc _ _ hy) (g0 _ _ hy)
  have d6 := k _ _ nl c6
  have dl : ∀ o, s1.set lid o = s2 → s2[lid]? = some o := fun o ho => by rw [← ho]; exact List.getElem?_set_self lt
  have dl := dl _ hs2
  have gl2 : Gl s2 48 yv (pre.flatMap U.v) pre.length := gl.of fun j o hj ho => k _ _ (fun he => nrl (by rw [← he]; exact hj)) (g0 _ _ ho)
  have l2 : s2.length = s1.length := by rw [← hs2, List.length_set]
  have fl : (pre.flatMap U.v).length = pre.length * 5 := flatMap_len (f := U.v) (s := 5) (fun _ => rfl) _
  simp only [evf,↓evp,evq,evr,fxa0,fxa1,fxa2,fxa3,fxa4,fxu,fxn,fxl,↓fxp,lgc,absL,fitL,flatL,ares,ares1,ofVal,unSc,aload,afill,splice,abound,asI,elems,IntKind.bits,sortT,eqNil,closedL,allByte,patch,pendOK,numA,Value.cells,Value.oneCell',ibin,List.replicate,Option.elim,Nat.reduceAdd,Nat.reduceSub,Nat.reduceMul,Nat.reduceLT,Nat.reduceEqDiff,Nat.reduceLeDiff,Nat.reduceBEq,Int.reduceLE,Int.reduceLT,Int.reduceToNat,Int.reduceBNe,Int.reduceBEq,Int.reduceNeg,Int.reduceEq,Int.reduceNe,Nat.reduceBNe,Int.reduceAdd,Int.reduceSub,Int.reduceMul,Int.reducePow,Nat.reducePow,Int.reduceGT,Int.reduceGE,if_true,if_false,ite_true,ite_false,beq_self_eq_true,BEq.rfl,reduceCtorEq,eq_self,ne_eq,Function.comp_def,beq_iff_eq]
  obtain ⟨s0len, hs0⟩ : ∃ q, q = s.length := ⟨_, rfl⟩
  rw [← hs0] at d6
  refine aloop_forF (fun k f s => ∃ i : Nat, Grw s2 s ∧ k + i = m ∧ i ≤ pre.length ∧ f 4 = .ref t4 0 ∧ f 7 = .sc (.int .i64 u.id) ∧ f 8 = .ref s0len 0 ∧ f 9 = .sc (.int .i64 i)) ⟨0, fun _ _ h => h, by omega, by omega, by simp only [q4, evf, ne_eq, Nat.reduceEqDiff, Nat.reduceLT, not_false_eq_true], by simp only [evf, ne_eq, Nat.reduceEqDiff, Nat.reduceLT, not_false_eq_true], by simp only [hs0, evf, ne_eq, Nat.reduceEqDiff, Nat.reduceLT, not_false_eq_true], by simp only [evf, ne_eq, Nat.reduceEqDiff, Nat.reduceLT, not_false_eq_true]; rfl⟩ ?_
  rintro I' hI' kk f s3 ⟨i, gs, hk, hi, f4, f7, f8, f9⟩
  refine ⟨kk - 1, by omega, ?_⟩
  have e4 := gs _ _ d4
  have ey := gs _ _ dy
  have e6 := gs _ _ d6
  have gl3 := gl2.grw gs
  have cut3 := gl3.cut (P := Try.prog) sz48 fl
  have al := alen_rd cut3.1 Try.underlying27
  have gX := fun X => Grw.push s3 X
  have e4X := fun X => gX X _ _ e4
  have eyX := fun X => gX X _ _ ey
  have e6X := fun X => gX X _ _ e6
  by_cases hil : i < pre.length
  · have d : decide ((i : Int) < pre.length) = true := decide_eq_true (by omega)
    have e3 : IntKind.i64.wrap ((i : Int) + 1) = ((i + 1 : Nat) : Int) := by rw [IntWalk.i64_in _ (by omega)]; rfl
    obtain ⟨vs, ka, na⟩ := slice_mid cut3 Try.underlying27 sz48 (show i ≤ i + 1 by omega) (show i + 1 ≤ pre.length by omega)
    rw [one_unit i hil, show i + 1 - i = 1 by omega] at na
    have kaX := fun X => aslice_grw (gX X) ka
    have on : M.one vs = true ∧ cellsV vs = [vs] := by
      rcases na.2.1 with ⟨xs, n, nil, f, rfl⟩ | ⟨id, off, n, gg, rfl⟩ <;> exact ⟨rfl, rfl⟩
    have hov := hoth _ (List.getElem_mem hil)
    simp only [f4, f7, f8, f9, e4, ey, e6, al, d, e3, e4X, eyX, e6X, ka, kaX, on.1, on.2, get_new, get_new0, M.set_new, M.set_new0, evf,↓evp,evq,evr,fxa0,fxa1,fxa2,fxa3,fxa4,fxu,fxn,fxl,↓fxp,lgc,absL,fitL,flatL,ares,ares1,ofVal,unSc,aload,afill,splice,abound,asI,elems,IntKind.bits,sortT,eqNil,closedL,allByte,patch,pendOK,numA,Value.cells,Value.oneCell',ibin,List.replicate,Option.elim,Nat.reduceAdd,Nat.reduceSub,Nat.reduceMul,Nat.reduceLT,Nat.reduceEqDiff,Nat.reduceLeDiff,Nat.reduceBEq,Int.reduceLE,Int.reduceLT,Int.reduceToNat,Int.reduceBNe,Int.reduceBEq,Int.reduceNeg,Int.reduceEq,Int.reduceNe,Nat.reduceBNe,Int.reduceAdd,Int.reduceSub,Int.reduceMul,Int.reducePow,Nat.reducePow,Int.reduceGT,Int.reduceGE,if_true,if_false,ite_true,ite_false,beq_self_eq_true,BEq.rfl,reduceCtorEq,eq_self,ne_eq,Function.comp_def,beq_iff_eq]
    refine r_Free (n := n) (L := [pre[i]]) ⟨get_new0 _ _, na.grw (gX _)⟩ (by simp; omega) (by simp) fun s4 g4 => ?_
    have eT : (mayB u.x u.y u.w u.h && !([pre[i]].any (othR u.id u.x u.y u.w u.h))) = true := by simp only [hmay, List.any_cons, List.any_nil, hov, Bool.or_self, Bool.not_false, Bool.and_self]
    rw [eT]
    have gg := (gX _).trans g4
    have b4 : s4[s3.length]? = some (.cells [vs]) := g4 _ _ (get_new0 _ _)
    simp only [f4, f7, f8, f9, g4, b4, e3, evf,↓evp,evq,evr,fxa0,fxa1,fxa2,fxa3,fxa4,fxu,fxn,fxl,↓fxp,lgc,absL,fitL,flatL,ares,ares1,ofVal,unSc,aload,afill,splice,abound,asI,elems,IntKind.bits,sortT,eqNil,closedL,allByte,patch,pendOK,numA,Value.cells,Value.oneCell',ibin,List.replicate,Option.elim,Nat.reduceAdd,Nat.reduceSub,Nat.reduceMul,Nat.reduceLT,Nat.reduceEqDiff,Nat.reduceLeDiff,Nat.reduceBEq,Int.reduceLE,Int.reduceLT,Int.reduceToNat,Int.reduceBNe,Int.reduceBEq,Int.reduceNeg,Int.reduceEq,Int.reduceNe,Nat.reduceBNe,Int.reduceAdd,Int.reduceSub,Int.reduceMul,Int.reducePow,Nat.reducePow,Int.reduceGT,Int.reduceGE,if_true,if_false,ite_true,ite_false,beq_self_eq_true,BEq.rfl,reduceCtorEq,eq_self,ne_eq,Function.comp_def,beq_iff_eq]
    exact hI' _ _ _ ⟨i + 1, gs.trans gg, by omega, hil, by simp only [f4, evf, ne_eq, Nat.reduceEqDiff, Nat.reduceLT, not_false_eq_true], by simp only [f7, evf, ne_eq, Nat.reduceEqDiff, Nat.reduceLT, not_false_eq_true], by simp only [f8, evf, ne_eq, Nat.reduceEqDiff, Nat.reduceLT, not_false_eq_true], by simp only [evf, ne_eq, Nat.reduceEqDiff, Nat.reduceLT, not_false_eq_true]⟩
  · have d : decide ((i : Int) < pre.length) = false := decide_eq_false (by omega)
    obtain ⟨yv2, s5, ap, gl5, tr5, nw5⟩ := gl_app (P := Try.prog) (t := 27) (s := s3 ++ [.row 48 (U.v u) 1 0 false]) (x := .sl s3.length 0 1 false 1) (zs := U.v u) (k := 1) (gl3.grw (gX _)) Try.underlying27 sz48 by48 ze48 (by omega) rfl fl (by simp only [elems, get_new0, List.getElem?_cons_zero, sz48]; rfl) rfl rfl (by omega) (by omega)
    have niy : rowOf yv ≠ some iy := gl3.ncells ey
    have nt4 : rowOf yv ≠ some t4 := gl3.ncells e4
    have ey5 := tr5.2 _ _ niy (gX _ _ _ ey)
    have e45 := tr5.2 _ _ nt4 (gX _ _ _ e4)
    obtain ⟨o1, o2⟩ := gl5.one
    have dl3 := tr5.2 _ _ nrl (gX _ _ _ (gs _ _ dl))
    have nyl : rowOf yv ≠ some s3.length := fun h => by have := gl3.lt _ h; omega
    have lt3 : iy < s3.length := (List.getElem?_eq_some_iff.1 ey).1
    have b5 : ∀ o, (s5.set iy o)[s3.length]? = some (.row 48 (U.v u) 1 0 false) := fun o => by rw [List.getElem?_set_ne (by omega)]; exact tr5.2 _ _ nyl (get_new0 _ _)
    simp only [U.v, rc] at ap b5
    simp only [f4, f7, f8, f9, e4, ey, e6, al, d, e4X, eyX, e6X, ap, b5, ey5, e45, o1, o2, get_new, get_new0, M.set_new, M.set_new0, evf,↓evp,evq,evr,fxa0,fxa1,fxa2,fxa3,fxa4,fxu,fxn,fxl,↓fxp,lgc,absL,fitL,flatL,ares,ares1,ofVal,unSc,aload,afill,splice,abound,asI,elems,IntKind.bits,sortT,eqNil,closedL,allByte,patch,pendOK,numA,Value.cells,Value.oneCell',ibin,List.replicate,Option.elim,Nat.reduceAdd,Nat.reduceSub,Nat.reduceMul,Nat.reduceLT,Nat.reduceEqDiff,Nat.reduceLeDiff,Nat.reduceBEq,Int.reduceLE,Int.reduceLT,Int.reduceToNat,Int.reduceBNe,Int.reduceBEq,Int.reduceNeg,Int.reduceEq,Int.reduceNe,Nat.reduceBNe,Int.reduceAdd,Int.reduceSub,Int.reduceMul,Int.reducePow,Nat.reducePow,Int.reduceGT,Int.reduceGE,if_true,if_false,ite_true,ite_false,beq_self_eq_true,BEq.rfl,reduceCtorEq,eq_self,ne_eq,Function.comp_def,beq_iff_eq]
    have nil' := nc _ _ hy
    have ly : iy < s5.length := (List.getElem?_eq_some_iff.1 ey5).1
    have ll : lid < s5.length := (List.getElem?_eq_some_iff.1 dl3).1
    have ls2 : s.length < s2.length := by omega
    have ls3 := gs.le
    have new5 : ∀ j, rowOf yv2 = some j → rowOf yv = some j ∨ s.length ≤ j := fun j hj => by
      rcases nw5 j hj with h | h
      · exact .inl h
      · exact .inr (by simp only [List.length_append] at h; omega)
    have lid2 : lid < s.length := (List.getElem?_eq_some_iff.1 hl).1
    have nby : ∀ j, rowOf yv2 = some j → j ≠ iy ∧ j ≠ lid := fun j hj => by
      rcases nw5 j hj with h | h
      · exact ⟨fun he => niy (by rw [← he]; exact h), fun he => nrl (by rw [← he]; exact h)⟩
      · simp only [List.length_append, List.length_cons, List.length_nil] at h
        have a1 : iy < s3.length := (List.getElem?_eq_some_iff.1 ey).1
        omega
    refine rdEnd_normal (by rw [List.getElem?_set_ne nil']; exact dl3) ?_
    refine hK yv2 _ ?_ ?_ ?_ ?_ ?_ new5
    · have e : (pre ++ [u]).flatMap U.v = pre.flatMap U.v ++ U.v u := by simp [List.flatMap_append]
      rw [e]
      refine gl5.of fun j o hj ho => ?_
      obtain ⟨j1, j2⟩ := nby j hj
      rw [List.getElem?_set_ne (Ne.symm j2), List.getElem?_set_ne (Ne.symm j1)]
      exact ho
    · rw [List.getElem?_set_ne (Ne.symm nil'), List.getElem?_set_self ly]
    · rw [List.getElem?_set_self (by rw [List.length_set]; exact ll)]
    · intro j o j1 j2 j3 ho
      rw [List.getElem?_set_ne (Ne.symm j2), List.getElem?_set_ne (Ne.symm j1)]
      exact tr5.2 _ _ j3 (gX _ _ _ (gs _ _ (k _ _ j2 (g0 _ _ ho))))
    · rw [List.length_set, List.length_set]
      have := tr5.1
      simp only [List.length_append] at this
      omega
end
/-! ### Chapter 5: what comes of an act, in one form. -/
section
variable {us : List (Int × V)} {os : List ((Int × Int) × V)} {L : List U}
theorem Rel.apart (h : Rel us os L) {p q : U} (hp : p ∈ L) (hq : q ∈ L) (hne : p.id ≠ q.id) : meetB p.x p.y p.w p.h q.x q.y q.w q.h = false := by
  rw [Bool.eq_false_iff]
  intro hh
  obtain ⟨a, b, h1, h2⟩ := (meet_in (h.val q hq) (h.val p hp)).1 hh
  have e1 := (h.go a b _).2 ⟨p, hp, h1, rfl⟩
  have e2 := (h.go a b _).2 ⟨q, hq, h2, rfl⟩
  rw [e1] at e2
  simp only [Option.some.injEq, V.sc.injEq, Value.int.injEq, true_and] at e2
  exact hne e2
theorem Gd.nil : Gd [] := ⟨List.Pairwise.nil, fun u hu => by simp at hu, by simp⟩
theorem Gd.place (h : Gd L) {u : U} (hl : L.length < 256) (hn : ∀ v ∈ L, v.id ≠ u.id) (hi : inR u.id) : Gd (insU u L) := by
  refine ⟨h.srt.insU u hn, fun v hv => ?_, by rw [insU_eq, insAt_len]; omega⟩
  rcases (mem_insAt u v L _).1 hv with rfl | hv
  · exact hi
  · exact h.rng v hv
theorem Gd.take (h : Gd L) (i : Nat) (hi : i < L.length) : Gd (L.take i ++ L.drop (i + 1)) := by
  refine ⟨h.srt.take i, fun v hv => h.rng v ?_, ?_⟩
  · rcases List.mem_append.1 hv with hv | hv
    · exact List.mem_of_mem_take hv
    · exact List.mem_of_mem_drop hv
  · have := h.len
    rw [List.length_append, List.length_take, List.length_drop]; omega
theorem Gd.move (h : Gd L) (i : Nat) (hi : i < L.length) (x y : Int) : Gd (L.set i (mvU L[i] x y)) := by
  refine ⟨h.srt.move i hi x y, fun v hv => ?_, by rw [List.length_set]; exact h.len⟩
  rcases List.mem_or_eq_of_mem_set hv with hv | rfl
  · exact h.rng v hv
  · exact h.rng L[i] (List.getElem_mem hi)
end
section
variable {n m : Nat} {st s : List Ob} {K : V → List Ob → Prop} {ix a b : Nat} {us : List (Int × V)} {os : List ((Int × Int) × V)} {L : List U} {x y w h id : Int}
theorem do_Put (hr : Rel us os L) (hg : Gd L) (hi : Ix st ix a b us os) (hab : a ≠ b) (hm : 4 < m) (hid : inR id)
    (h1 : ∀ e s, e ≠ 0 → Grw st s → K (.sc (.int .i64 e)) s)
    (h0 : ∀ us' os' L' s, Ix s ix a b us' os' → Rel us' os' L' → Gd L' → Kp a b st s → K (.sc (.int .i64 0)) s) :
    acallF Try.prog pl (n + 6) m 21 [.ref ix 0, .sc (.int .i64 id), .agg (rc x y w h)] st K :=
  o_Put hr hi hab hm (fun e s g => h1 _ s e g) fun _ hv hgn hno hl s hi' k =>
    h0 _ _ _ s hi' (hr.place ⟨id, x, y, w, h⟩ hv hgn hno) (hg.place hl (hr.new hgn) hid) k
theorem do_Take (hr : Rel us os L) (hg : Gd L) (hi : Ix st ix a b us os) (hab : a ≠ b) (hm : 4 < m)
    (h1 : ∀ e s, e ≠ 0 → Grw st s → K (.sc (.int .i64 e)) s)
    (h0 : ∀ us' os' L' s, Ix s ix a b us' os' → Rel us' os' L' → Gd L' → Kp a b st s → K (.sc (.int .i64 0)) s) :
    acallF Try.prog pl (n + 6) m 20 [.ref ix 0, .sc (.int .i64 id)] st K :=
  o_Take hr hi hab hm (fun _ s g => h1 _ s (by decide) g) fun i hil _ _ us' os' s hi' hr' k => h0 _ _ _ s hi' hr' (hg.take i hil) k
theorem do_Move (hr : Rel us os L) (hg : Gd L) (hi : Ix st ix a b us os) (hab : a ≠ b) (hm : 4 < m)
    (h1 : ∀ e s, e ≠ 0 → Grw st s → K (.sc (.int .i64 e)) s)
    (h0 : ∀ us' os' L' s, Ix s ix a b us' os' → Rel us' os' L' → Gd L' → Kp a b st s → K (.sc (.int .i64 0)) s) :
    acallF Try.prog pl (n + 7) m 19 [.ref ix 0, .sc (.int .i64 id), .agg (cl x y)] st K :=
  o_Move hr hi hab hm (fun _ s g => h1 _ s (by decide) g) (fun _ _ _ _ _ s g => h1 _ s (by decide) g) (fun _ _ _ _ _ _ s g => h1 _ s (by decide) g) fun i hil _ _ _ _ us' os' s hi' hr' k => h0 _ _ _ s hi' hr' (hg.move i hil x y) k
end
structure A6 where
  d : Int
  id : Int
  x : Int
  y : Int
  w : Int
  h : Int
def A6.v (e : A6) : List V := .sc (.int .i64 e.d) :: .sc (.int .i64 e.id) :: rc e.x e.y e.w e.h
end Go.Proofs.Ytgmccnnjpejigaa
