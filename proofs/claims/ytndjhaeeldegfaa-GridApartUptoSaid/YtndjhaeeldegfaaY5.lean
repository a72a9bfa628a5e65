/- Chapter 4: arguments; all buildings; maps; worlds compared. -/
import Derived.Test.YtndjhaeeldegfaaY2
import Derived.Test.YtndjhaeeldegfaaGS
import Derived.Test.YtndjhaeeldegfaaE1
set_option linter.unusedVariables false
set_option linter.unusedSimpArgs false
set_option maxRecDepth 10000
namespace Go.Proofs.Ytndjhaeeldegfaa
open Go Go.M Go.RowKit
attribute [local congr] acallF_cong aloop_cong bcase_cong resK_cong valK_cong wantK_cong callK_cong xputK_cong qputK_cong resM_cong rfK_cong
attribute [local irreducible] seqK blockK loopK nextK bcase resK valK wantK funK putK dputK xputK qputK callK aops aop acode adraw aloop acallF acall invK resM rfK rfEnd rdEnd rdMid around
theorem bytes_of {t : TypeId} {b : Nat} (h : M.bytesOf Try.prog t = some b) : Try.prog.bytesOf t = b := by
  unfold M.bytesOf at h
  unfold Program.bytesOf
  rw [h]; rfl
set_option maxRecDepth 100000 in
theorem tv_bd {k : Nat} {ys : List V} (h : TV Try.prog (k + 3) 90 ys) : ∃ u : B4, ys = B4.v u := by
  have h := tv_struct h Try.underlying90
  obtain ⟨y1, z1, rfl, h1, h⟩ := h
  obtain ⟨y2, z2, rfl, h2, h⟩ := h
  obtain rfl : z2 = [] := h
  obtain ⟨i, rfl, _⟩ := tv_int h1 Try.underlying3
  have h := tv_struct h2 Try.underlying78
  obtain ⟨a0, b0, rfl, j0, h⟩ := h
  obtain ⟨a1, b1, rfl, j1, h⟩ := h
  obtain ⟨a2, b2, rfl, j2, h⟩ := h
  obtain rfl : b2 = [] := h
  have h := tv_struct j0 Try.underlying24
  obtain ⟨a3, b3, rfl, j3, h⟩ := h
  obtain ⟨a4, b4, rfl, j4, h⟩ := h
  obtain rfl : b4 = [] := h
  obtain ⟨x, rfl, _⟩ := tv_int j3 Try.underlying3
  obtain ⟨y, rfl, _⟩ := tv_int j4 Try.underlying3
  obtain ⟨w, rfl, _⟩ := tv_int j1 Try.underlying3
  obtain ⟨hh, rfl, _⟩ := tv_int j2 Try.underlying3
  exact ⟨⟨i, x, y, w, hh⟩, rfl⟩
set_option maxRecDepth 100000 in
/-- A map, as it is handed in. -/
theorem tv_map {k : Nat} {ys : List V} (h : TV Try.prog (k + 5) 65 ys) : ∃ (WW HH : Int) (tv bv : V) (T : List Int) (L : List B4), ys = mp WW HH tv bv ∧ (∀ s, Rd Try.prog s 5 tv (bs T) T.length) ∧ (∀ s, Rd Try.prog s 90 bv (L.flatMap B4.v) L.length) ∧ (M.one tv = true ∧ cellsV tv = [tv]) ∧ (M.one bv = true ∧ cellsV bv = [bv]) ∧
    (∀ t ∈ T, 0 ≤ t ∧ t < 256) ∧ T.length ≤ 140737488355328 ∧ L.length ≤ 3518437208883 := by
  have h := tv_struct h Try.underlying65
  obtain ⟨y1, z1, rfl, h1, h⟩ := h
  obtain ⟨y2, z2, rfl, h2, h⟩ := h
  obtain ⟨y3, z3, rfl, h3, h⟩ := h
  obtain ⟨y4, z4, rfl, h4, h⟩ := h
  obtain rfl : z4 = [] := h
  obtain ⟨WW, rfl, _⟩ := tv_int h1 Try.underlying3
  obtain ⟨HH, rfl, _⟩ := tv_int h2 Try.underlying3
  obtain ⟨us, n, nil, full, rfl, hu, hn, hnil⟩ := tv_slice h3 Try.underlying62
  obtain ⟨T, rfl, rfl, hT⟩ := tv_bytes Try.underlying5 hu
  obtain ⟨ws, n2, nil2, full2, rfl, hu2, hn2, hnil2⟩ := tv_slice h4 Try.underlying63
  obtain ⟨L, rfl, rfl, _⟩ := TVn.list (f := B4.v) (Q := fun _ => True) (fun ys hy => by
    obtain ⟨u, rfl⟩ := tv_bd hy
    exact ⟨u, rfl, trivial⟩) hu2
  rw [bytes_of by5] at hn
  rw [bytes_of by90] at hn2
  have er : reachBytes = 140737488351232 := rfl
  rw [er] at hn hn2
  exact ⟨WW, HH, .tsl (bs T) T.length nil full, .tsl (L.flatMap B4.v) L.length nil2 full2, T, L, rfl, fun s => tsl_rd sz5 (by rw [bs_len]; omega) (fun h => (hnil h).1), fun s => tsl_rd sz90 (flatMap_len (f := B4.v) (s := 5) (fun _ => rfl) _) (fun h => (hnil2 h).1), ⟨rfl, rfl⟩, ⟨rfl, rfl⟩, hT, by omega, by omega⟩
set_option maxRecDepth 100000 in
/-- A list of edits, as it is handed in. -/
theorem tv_edits {k : Nat} {ys : List V} (h : TV Try.prog (k + 5) 66 ys) : ∃ (lv : V) (E : List E4), ys = [lv] ∧ (∀ s, Rd Try.prog s 101 lv (E.flatMap E4.v) E.length) ∧ E.length ≤ 2932031007402 := by
  obtain ⟨us, n, nil, full, rfl, hu, hn, hnil⟩ := tv_slice h Try.underlying66
  obtain ⟨E, rfl, rfl, _⟩ := TVn.list (f := E4.v) (Q := fun _ => True) (fun ys hy => by
    have h := tv_struct hy Try.underlying101
    obtain ⟨y1, z1, rfl, h1, h⟩ := h
    obtain ⟨y2, z2, rfl, h2, h⟩ := h
    obtain rfl : z2 = [] := h
    obtain ⟨b, rfl⟩ := tv_bool h1 Try.underlying4
    obtain ⟨u, rfl⟩ := tv_bd h2
    exact ⟨⟨b, u⟩, by simp [E4.v], trivial⟩) hu
  rw [bytes_of by101] at hn
  have er : reachBytes = 140737488351232 := rfl
  rw [er] at hn
  exact ⟨.tsl (E.flatMap E4.v) E.length nil full, E, rfl, fun s => tsl_rd sz101 (flatMap_len (f := E4.v) (s := 6) (fun _ => rfl) _) (fun h => (hnil h).1), by omega⟩
theorem keysI_esI : ∀ l : List (Int × V), keysI (esI l) = some (l.map (·.1))
  | [] => rfl
  | (i, v) :: l => by
    have := keysI_esI l
    simp only [esI, List.map_cons, keysI] at this ⊢
    rw [this]; rfl
theorem lk_int1 {st : List Ob} {a : Nat} {t e : TypeId} {l : List (Int × V)} {v : V} (ht : Try.prog.underlying t = some (.map 3 e)) (h : st[a]? = some (.map (esI l))) (i : Int) (hv : getI i l = some v) :
    alookup Try.prog st t (.map a) (.sc (.int .i64 i)) false = some v := by
  unfold alookup
  simp only [ht, toVal, h, akey_int Try.underlying3, esI, afind_int Try.underlying3]
  unfold getI at hv
  cases hq : atI i l with
  | none => rw [hq] at hv; cases hv
  | some q =>
    obtain ⟨x, hx⟩ := atI_spec hq
    rw [hq] at hv
    simp [hx] at hv ⊢
    exact hv
section
variable {WW HH : Int} {us : List (Int × V)} {os : List ((Int × Int) × V)} {L : List B4}
/-- The numbers of the program's map, sorted, are the document's list's. -/
theorem Rel.keys (h : Rel WW HH us os L) (hs : Srt L) : (us.map (·.1)).Nodup ∧ ((us.map (·.1)).mergeSort fun x y => decide (x ≤ y)) = L.map B4.id := by
  have hn : (us.map (·.1)).Nodup := h.ni
  have hp : (us.map (·.1)).Perm (L.map B4.id) := (List.perm_ext_iff_of_nodup hn h.ids).2 fun i => by
    have e1 : i ∈ us.map (·.1) ↔ (getI i us).isSome = true := by
      have := getI_none (i := i) (l := us)
      constructor
      · intro hi
        cases hq : getI i us with
        | none => exact absurd hi (this.1 hq)
        | some v => rfl
      · intro hi
        cases Classical.em (i ∈ us.map (·.1)) with
        | inl h1 => exact h1
        | inr h1 => rw [this.2 h1] at hi; cases hi
    rw [e1, isSome_of, List.mem_map]
    constructor
    · rintro ⟨v, hv⟩
      obtain ⟨u, hu, he, _⟩ := (h.gu _ _).1 hv
      exact ⟨u, hu, he⟩
    · rintro ⟨u, hu, he⟩
      exact ⟨_, (h.gu _ _).2 ⟨u, hu, he, rfl⟩⟩
  refine ⟨hn, ?_⟩
  have tr : ∀ a b c : Int, (decide (a ≤ b)) = true → (decide (b ≤ c)) = true → (decide (a ≤ c)) = true := fun a b c h1 h2 => by simp only [decide_eq_true_eq] at *; omega
  have to : ∀ a b : Int, (decide (a ≤ b) || decide (b ≤ a)) = true := fun a b => by simp only [Bool.or_eq_true, decide_eq_true_eq]; omega
  refine List.Perm.eq_of_pairwise (le := fun a b => decide (a ≤ b) = true) (fun a b _ _ h1 h2 => ?_) (List.pairwise_mergeSort tr to _) ?_ ((List.mergeSort_perm _ _).trans hp)
  · simp only [decide_eq_true_eq] at h1 h2; omega
  · refine List.pairwise_map.2 (hs.imp fun {a b} hab => ?_)
    simp only [decide_eq_true_eq]; omega
end
section
variable {n m : Nat} {st s : List Ob} {K : V → List Ob → Prop} {wd a b : Nat} {WW HH : Int} {tv dv : V} {us : List (Int × V)} {os : List ((Int × Int) × V)} {L : List B4}
theorem m_Keys (hK : K (.fn (.func 101) [.ref st.length 0]) (st ++ [.cells [.map a]])) : acallF Try.prog pl (n + 1) m 80 [.map a] st K := by
  refine acallF_inF Try.func80 rfl rfl Try.ntmps80 (by simp) ?_
  simp only [evf,↓evp,evq,evr,fxa0,fxa1,fxa2,fxa3,fxa4,fxu,fxn,fxl,↓fxp,lgc,absL,fitL,flatL,ares,ares1,ofVal,unSc,aload,afill,splice,abound,asI,elems,IntKind.bits,sortT,eqNil,closedL,allByte,patch,pendOK,numA,Value.cells,Value.oneCell',ibin,List.replicate,Option.elim,Nat.reduceAdd,Nat.reduceSub,Nat.reduceMul,Nat.reduceLT,Nat.reduceEqDiff,Nat.reduceLeDiff,Nat.reduceBEq,Int.reduceLE,Int.reduceLT,Int.reduceToNat,Int.reduceBNe,Int.reduceBEq,Int.reduceNeg,Int.reduceEq,Int.reduceNe,Nat.reduceBNe,Int.reduceAdd,Int.reduceSub,Int.reduceMul,Int.reducePow,Nat.reducePow,Int.reduceGT,Int.reduceGE,if_true,if_false,ite_true,ite_false,beq_self_eq_true,BEq.rfl,reduceCtorEq,eq_self,ne_eq,Function.comp_def,beq_iff_eq]
  exact hK
theorem m_Sorted {c : Nat} (hc : st[c]? = some (.cells [.map a])) (ha : st[a]? = some (.map (esI us))) (hr : Rel WW HH us os L) (hs : Srt L) (hl : L.length ≤ 256)
    (h0 : L = [] → K (.tsl [] 0 true true) st)
    (h1 : L ≠ [] → K (.sl st.length 0 L.length false L.length) (st ++ [.row 3 ((L.map B4.id).map fun k => .sc (.int .i64 k)) L.length 0 false])) :
    acallF Try.prog pl (n + 1) m 79 [.fn (.func 101) [.ref c 0]] st K := by
  obtain ⟨k1, k2⟩ := hr.keys hs
  have hlen : (us.map (·.1)).length = L.length := by rw [List.length_map, hr.len]
  have hall : ((us.map (·.1)).all fun k => decide (-9223372036854775808 ≤ k ∧ k < 9223372036854775808)) = true := List.all_eq_true.2 fun k hk => by
    have : k ∈ (us.map (·.1)).mergeSort fun x y => decide (x ≤ y) := (List.mergeSort_perm _ _).mem_iff.2 hk
    rw [k2] at this
    obtain ⟨u, hu, rfl⟩ := List.mem_map.1 this
    have := (bmay_may (hr.val u hu)).2.2.2
    simp only [decide_eq_true_eq]; omega
  have hcond : (us.map (·.1)).Nodup ∧ (us.map (·.1)).length ≤ 1000000 ∧ ((us.map (·.1)).all fun k => decide (-9223372036854775808 ≤ k ∧ k < 9223372036854775808)) = true := ⟨k1, by omega, hall⟩
  by_cases hL : L = []
  · have he : us.map (·.1) = [] := List.eq_nil_of_length_eq_zero (by rw [hlen, hL]; rfl)
    refine acallF_prim Try.func79 rfl (v := .tsl [] 0 true true) (st' := st) ?_ (h0 hL)
    unfold sortedK
    simp only [hc, ha, keysI_esI]
    rw [if_pos (by simp), if_pos hcond, if_pos he]
  · have he : us.map (·.1) ≠ [] := fun hh => hL (List.eq_nil_of_length_eq_zero (by rw [← hlen, hh]; rfl))
    refine acallF_prim Try.func79 rfl (v := .sl st.length 0 L.length false L.length) (st' := st ++ [.row 3 ((L.map B4.id).map fun k => .sc (.int .i64 k)) L.length 0 false]) ?_ (h1 hL)
    unfold sortedK
    simp only [hc, ha, keysI_esI]
    rw [if_pos (by simp), if_pos hcond, if_neg he, k2, hlen]
set_option maxHeartbeats 2000000 in
/-- THE ITERATOR's CONTRACT: whatever the caller keeps. -/
theorem w_Blds {l rb : Nat} {I : Nat → Ob → Nat → List Ob → Prop} {J : List Ob → Prop} (hw : Wd st wd a b WW HH tv dv us os) (hb : st[rb]? = some (.cells [.ref wd 0])) (hr : Rel WW HH us os L) (hs : Srt L) (hl : L.length ≤ 256) (hm : 300 < m)
    (keep : ∀ r ro k s, I r ro k s → s[rb]? = some (.cells [.ref wd 0]) ∧ Wd s wd a b WW HH tv dv us os ∧ s[r]? = some ro)
    (h0 : ∀ r ro s, Grw st s → st.length ≤ r → s[r]? = some ro → I r ro 0 s)
    (step : ∀ r ro i (hi : i < L.length) (s : List Ob) (K' : V → List Ob → Prop), I r ro i s → (∀ s', I r ro (i + 1) s' → K' (.sc (.bool true)) s') → (∀ s', J s' → K' (.sc (.bool false)) s') → acallF Try.prog pl (n + 3) m Try.prog.funcs.size [.yl l, .agg (B4.v L[i])] s K')
    (hend : ∀ r ro s, I r ro L.length s → K (.tup []) s) (hstop : ∀ s, J s → K (.tup []) s) : acallF Try.prog pl (n + 4) m 78 [.yl l, .ref rb 0] st K := by
  refine acallF_inF Try.func78 rfl rfl Try.ntmps78 (by simp) ?_
  have w1 := hw.w
  simp only [hb, evf,↓evp,evq,evr,fxa0,fxa1,fxa2,fxa3,fxa4,fxu,fxn,fxl,↓fxp,lgc,absL,fitL,flatL,ares,ares1,ofVal,unSc,aload,afill,splice,abound,asI,elems,IntKind.bits,sortT,eqNil,closedL,allByte,patch,pendOK,numA,Value.cells,Value.oneCell',ibin,List.replicate,Option.elim,Nat.reduceAdd,Nat.reduceSub,Nat.reduceMul,Nat.reduceLT,Nat.reduceEqDiff,Nat.reduceLeDiff,Nat.reduceBEq,Int.reduceLE,Int.reduceLT,Int.reduceToNat,Int.reduceBNe,Int.reduceBEq,Int.reduceNeg,Int.reduceEq,Int.reduceNe,Nat.reduceBNe,Int.reduceAdd,Int.reduceSub,Int.reduceMul,Int.reducePow,Nat.reducePow,Int.reduceGT,Int.reduceGE,if_true,if_false,ite_true,ite_false,beq_self_eq_true,BEq.rfl,reduceCtorEq,eq_self,ne_eq,Function.comp_def,beq_iff_eq]
  refine w_is1 (n := n + 2) hw ?_
  simp only [hb, w1, evf,↓evp,evq,evr,fxa0,fxa1,fxa2,fxa3,fxa4,fxu,fxn,fxl,↓fxp,lgc,absL,fitL,flatL,ares,ares1,ofVal,unSc,aload,afill,splice,abound,asI,elems,IntKind.bits,sortT,eqNil,closedL,allByte,patch,pendOK,numA,Value.cells,Value.oneCell',ibin,List.replicate,Option.elim,Nat.reduceAdd,Nat.reduceSub,Nat.reduceMul,Nat.reduceLT,Nat.reduceEqDiff,Nat.reduceLeDiff,Nat.reduceBEq,Int.reduceLE,Int.reduceLT,Int.reduceToNat,Int.reduceBNe,Int.reduceBEq,Int.reduceNeg,Int.reduceEq,Int.reduceNe,Nat.reduceBNe,Int.reduceAdd,Int.reduceSub,Int.reduceMul,Int.reducePow,Nat.reducePow,Int.reduceGT,Int.reduceGE,if_true,if_false,ite_true,ite_false,beq_self_eq_true,BEq.rfl,reduceCtorEq,eq_self,ne_eq,Function.comp_def,beq_iff_eq]
  refine m_Keys ?_
  have g1 := Grw.push st [Ob.cells [.map a]]
  have c1 : (st ++ [Ob.cells [.map a]])[st.length]? = some (.cells [.map a]) := get_new0 _ _
  have hb1 := g1 _ _ hb
  have hw1 := hw.grw g1
  simp only [evf,↓evp,evq,evr,fxa0,fxa1,fxa2,fxa3,fxa4,fxu,fxn,fxl,↓fxp,lgc,absL,fitL,flatL,ares,ares1,ofVal,unSc,aload,afill,splice,abound,asI,elems,IntKind.bits,sortT,eqNil,closedL,allByte,patch,pendOK,numA,Value.cells,Value.oneCell',ibin,List.replicate,Option.elim,Nat.reduceAdd,Nat.reduceSub,Nat.reduceMul,Nat.reduceLT,Nat.reduceEqDiff,Nat.reduceLeDiff,Nat.reduceBEq,Int.reduceLE,Int.reduceLT,Int.reduceToNat,Int.reduceBNe,Int.reduceBEq,Int.reduceNeg,Int.reduceEq,Int.reduceNe,Nat.reduceBNe,Int.reduceAdd,Int.reduceSub,Int.reduceMul,Int.reducePow,Nat.reducePow,Int.reduceGT,Int.reduceGE,if_true,if_false,ite_true,ite_false,beq_self_eq_true,BEq.rfl,reduceCtorEq,eq_self,ne_eq,Function.comp_def,beq_iff_eq]
  generalize hs1 : st ++ [Ob.cells [.map a]] = s1 at g1 c1 hb1 hw1
  refine m_Sorted (n := n + 2) c1 hw1.us hr hs hl (fun hL => ?_) fun hL => ?_
  · have h1 := h0 _ _ s1 g1 (Nat.le_refl _) c1
    simp only [evf,↓evp,evq,evr,fxa0,fxa1,fxa2,fxa3,fxa4,fxu,fxn,fxl,↓fxp,lgc,absL,fitL,flatL,ares,ares1,ofVal,unSc,aload,afill,splice,abound,asI,elems,IntKind.bits,sortT,eqNil,closedL,allByte,patch,pendOK,numA,Value.cells,Value.oneCell',ibin,List.replicate,Option.elim,Nat.reduceAdd,Nat.reduceSub,Nat.reduceMul,Nat.reduceLT,Nat.reduceEqDiff,Nat.reduceLeDiff,Nat.reduceBEq,Int.reduceLE,Int.reduceLT,Int.reduceToNat,Int.reduceBNe,Int.reduceBEq,Int.reduceNeg,Int.reduceEq,Int.reduceNe,Nat.reduceBNe,Int.reduceAdd,Int.reduceSub,Int.reduceMul,Int.reducePow,Nat.reducePow,Int.reduceGT,Int.reduceGE,if_true,if_false,ite_true,ite_false,beq_self_eq_true,BEq.rfl,reduceCtorEq,eq_self,ne_eq,Function.comp_def,beq_iff_eq]
    refine aloop_forF (fun k f s => s = s1 ∧ k = m ∧ f 14 = .sc (.int .i64 0) ∧ f 15 = .sc (.int .i64 0)) ⟨rfl, rfl, by simp only [evf, ne_eq, Nat.reduceEqDiff, Nat.reduceLT, not_false_eq_true], by simp only [evf, ne_eq, Nat.reduceEqDiff, Nat.reduceLT, not_false_eq_true]⟩ ?_
    rintro I' hI' k f s ⟨rfl, hk, f14, f15⟩
    refine ⟨k - 1, by omega, ?_⟩
    have d : decide ((0 : Int) < 0) = false := rfl
    simp only [f14, f15, d, evf,↓evp,evq,evr,fxa0,fxa1,fxa2,fxa3,fxa4,fxu,fxn,fxl,↓fxp,lgc,absL,fitL,flatL,ares,ares1,ofVal,unSc,aload,afill,splice,abound,asI,elems,IntKind.bits,sortT,eqNil,closedL,allByte,patch,pendOK,numA,Value.cells,Value.oneCell',ibin,List.replicate,Option.elim,Nat.reduceAdd,Nat.reduceSub,Nat.reduceMul,Nat.reduceLT,Nat.reduceEqDiff,Nat.reduceLeDiff,Nat.reduceBEq,Int.reduceLE,Int.reduceLT,Int.reduceToNat,Int.reduceBNe,Int.reduceBEq,Int.reduceNeg,Int.reduceEq,Int.reduceNe,Nat.reduceBNe,Int.reduceAdd,Int.reduceSub,Int.reduceMul,Int.reducePow,Nat.reducePow,Int.reduceGT,Int.reduceGE,if_true,if_false,ite_true,ite_false,beq_self_eq_true,BEq.rfl,reduceCtorEq,eq_self,ne_eq,Function.comp_def,beq_iff_eq]
    rw [← show L.length = 0 from by rw [hL]; rfl] at h1
    exact hend _ _ _ h1
  · have h1 := h0 s1.length (.row 3 ((L.map B4.id).map fun k => .sc (.int .i64 k)) L.length 0 false) (s1 ++ [.row 3 ((L.map B4.id).map fun k => .sc (.int .i64 k)) L.length 0 false]) (g1.trans (Grw.push s1 _)) (by have := g1.le; omega) (get_new0 _ _)
    simp only [evf,↓evp,evq,evr,fxa0,fxa1,fxa2,fxa3,fxa4,fxu,fxn,fxl,↓fxp,lgc,absL,fitL,flatL,ares,ares1,ofVal,unSc,aload,afill,splice,abound,asI,elems,IntKind.bits,sortT,eqNil,closedL,allByte,patch,pendOK,numA,Value.cells,Value.oneCell',ibin,List.replicate,Option.elim,Nat.reduceAdd,Nat.reduceSub,Nat.reduceMul,Nat.reduceLT,Nat.reduceEqDiff,Nat.reduceLeDiff,Nat.reduceBEq,Int.reduceLE,Int.reduceLT,Int.reduceToNat,Int.reduceBNe,Int.reduceBEq,Int.reduceNeg,Int.reduceEq,Int.reduceNe,Nat.reduceBNe,Int.reduceAdd,Int.reduceSub,Int.reduceMul,Int.reducePow,Nat.reducePow,Int.reduceGT,Int.reduceGE,if_true,if_false,ite_true,ite_false,beq_self_eq_true,BEq.rfl,reduceCtorEq,eq_self,ne_eq,Function.comp_def,beq_iff_eq]
    refine aloop_forF (fun k f s => ∃ i : Nat, k + i = m ∧ i ≤ L.length ∧ I s1.length (.row 3 ((L.map B4.id).map fun k => .sc (.int .i64 k)) L.length 0 false) i s ∧ f 0 = .yl l ∧ f 1 = .ref rb 0 ∧ f 13 = .sl s1.length 0 L.length false L.length ∧ f 14 = .sc (.int .i64 L.length) ∧ f 15 = .sc (.int .i64 i)) ⟨0, by omega, by omega, h1, by simp only [evf, ne_eq, Nat.reduceEqDiff, Nat.reduceLT, not_false_eq_true], by simp only [evf, ne_eq, Nat.reduceEqDiff, Nat.reduceLT, not_false_eq_true], by simp only [evf, ne_eq, Nat.reduceEqDiff, Nat.reduceLT, not_false_eq_true], by simp only [evf, ne_eq, Nat.reduceEqDiff, Nat.reduceLT, not_false_eq_true], by simp only [evf, ne_eq, Nat.reduceEqDiff, Nat.reduceLT, not_false_eq_true]; rfl⟩ ?_
    rintro I' hI' k f s ⟨i, hk, hi, hI, f0, f1, f13, f14, f15⟩
    refine ⟨k - 1, by omega, ?_⟩
    obtain ⟨kb, kw, kr⟩ := keep _ _ _ _ hI
    by_cases hil : i < L.length
    · have d : decide ((i : Int) < L.length) = true := decide_eq_true (by omega)
      have e3 : IntKind.i64.wrap ((i : Int) + 1) = ((i + 1 : Nat) : Int) := by rw [IntWalk.i64_in _ (by omega)]; rfl
      have gl : Gl s 3 (.sl s1.length 0 L.length false L.length) ((L.map B4.id).map fun k => .sc (.int .i64 k)) L.length := .inr ⟨_, 0, rfl, kr, Nat.zero_le _⟩
      have rd := gl.rd sz3 (by simp)
      have p1 := aix_rd rd Try.underlying22 sz3 .i64 (j := (i : Int)) (by omega) (by omega)
      have p2 := ald_ix rd sz3 sz3 (by omega) hil (o := 0) (by omega)
      have p3 : aload Try.prog 3 (((L.map B4.id).map fun k => V.sc (.int .i64 k)).drop (i * 1 + 0)) = some (.sc (.int .i64 L[i].id)) := by
        simp only [aload, ag3, Nat.mul_one, Nat.add_zero]
        rw [List.getElem?_drop, Nat.add_zero, List.getElem?_map, List.getElem?_map, List.getElem?_eq_getElem hil]
        rfl
      rw [p3] at p2
      simp only [Int.toNat_natCast] at p1
      obtain ⟨vv, hvv⟩ : ∃ vv, vv = V.sl s1.length 0 L.length false L.length := ⟨_, rfl⟩
      rw [← hvv] at f13 p1 p2
      have hg : getI L[i].id us = some (.agg (rc L[i].x L[i].y L[i].w L[i].h)) := (hr.gu _ _).2 ⟨L[i], List.getElem_mem hil, rfl, rfl⟩
      have look := lk_int1 Try.underlying104 kw.us L[i].id hg
      have kw1 := kw.w
      have st1 := fun K' => step _ _ i hil s K' hI
      generalize hu : L[i] = u at p2 look st1
      simp only [B4.v, bd, rc] at look st1
      simp only [f0, f1, f13, f14, f15, d, p1, p2, kb, kw1, look, evf,↓evp,evq,evr,fxa0,fxa1,fxa2,fxa3,fxa4,fxu,fxn,fxl,↓fxp,lgc,absL,fitL,flatL,ares,ares1,ofVal,unSc,aload,afill,splice,abound,asI,elems,IntKind.bits,sortT,eqNil,closedL,allByte,patch,pendOK,numA,Value.cells,Value.oneCell',ibin,List.replicate,Option.elim,Nat.reduceAdd,Nat.reduceSub,Nat.reduceMul,Nat.reduceLT,Nat.reduceEqDiff,Nat.reduceLeDiff,Nat.reduceBEq,Int.reduceLE,Int.reduceLT,Int.reduceToNat,Int.reduceBNe,Int.reduceBEq,Int.reduceNeg,Int.reduceEq,Int.reduceNe,Nat.reduceBNe,Int.reduceAdd,Int.reduceSub,Int.reduceMul,Int.reducePow,Nat.reducePow,Int.reduceGT,Int.reduceGE,if_true,if_false,ite_true,ite_false,beq_self_eq_true,BEq.rfl,reduceCtorEq,eq_self,ne_eq,Function.comp_def,beq_iff_eq]
      refine yl_fsz fsz (st1 _ (fun s' h' => ?_) fun s' h' => ?_)
      · simp only [f0, f1, f13, f14, f15, e3, evf,↓evp,evq,evr,fxa0,fxa1,fxa2,fxa3,fxa4,fxu,fxn,fxl,↓fxp,lgc,absL,fitL,flatL,ares,ares1,ofVal,unSc,aload,afill,splice,abound,asI,elems,IntKind.bits,sortT,eqNil,closedL,allByte,patch,pendOK,numA,Value.cells,Value.oneCell',ibin,List.replicate,Option.elim,Nat.reduceAdd,Nat.reduceSub,Nat.reduceMul,Nat.reduceLT,Nat.reduceEqDiff,Nat.reduceLeDiff,Nat.reduceBEq,Int.reduceLE,Int.reduceLT,Int.reduceToNat,Int.reduceBNe,Int.reduceBEq,Int.reduceNeg,Int.reduceEq,Int.reduceNe,Nat.reduceBNe,Int.reduceAdd,Int.reduceSub,Int.reduceMul,Int.reducePow,Nat.reducePow,Int.reduceGT,Int.reduceGE,if_true,if_false,ite_true,ite_false,beq_self_eq_true,BEq.rfl,reduceCtorEq,eq_self,ne_eq,Function.comp_def,beq_iff_eq]
        exact hI' _ _ _ ⟨i + 1, by omega, hil, h', by simp only [f0, evf, ne_eq, Nat.reduceEqDiff, Nat.reduceLT, not_false_eq_true], by simp only [f1, evf, ne_eq, Nat.reduceEqDiff, Nat.reduceLT, not_false_eq_true], by simp only [f13, hvv, evf, ne_eq, Nat.reduceEqDiff, Nat.reduceLT, not_false_eq_true], by simp only [f14, evf, ne_eq, Nat.reduceEqDiff, Nat.reduceLT, not_false_eq_true], by simp only [evf, ne_eq, Nat.reduceEqDiff, Nat.reduceLT, not_false_eq_true]⟩
      · simp only [evf,↓evp,evq,evr,fxa0,fxa1,fxa2,fxa3,fxa4,fxu,fxn,fxl,↓fxp,lgc,absL,fitL,flatL,ares,ares1,ofVal,unSc,aload,afill,splice,abound,asI,elems,IntKind.bits,sortT,eqNil,closedL,allByte,patch,pendOK,numA,Value.cells,Value.oneCell',ibin,List.replicate,Option.elim,Nat.reduceAdd,Nat.reduceSub,Nat.reduceMul,Nat.reduceLT,Nat.reduceEqDiff,Nat.reduceLeDiff,Nat.reduceBEq,Int.reduceLE,Int.reduceLT,Int.reduceToNat,Int.reduceBNe,Int.reduceBEq,Int.reduceNeg,Int.reduceEq,Int.reduceNe,Nat.reduceBNe,Int.reduceAdd,Int.reduceSub,Int.reduceMul,Int.reducePow,Nat.reducePow,Int.reduceGT,Int.reduceGE,if_true,if_false,ite_true,ite_false,beq_self_eq_true,BEq.rfl,reduceCtorEq,eq_self,ne_eq,Function.comp_def,beq_iff_eq]
        exact hstop _ h'
    · have d : decide ((i : Int) < L.length) = false := decide_eq_false (by omega)
      obtain rfl : i = L.length := by omega
      simp only [f14, f15, d, evf,↓evp,evq,evr,fxa0,fxa1,fxa2,fxa3,fxa4,fxu,fxn,fxl,↓fxp,lgc,absL,fitL,flatL,ares,ares1,ofVal,unSc,aload,afill,splice,abound,asI,elems,IntKind.bits,sortT,eqNil,closedL,allByte,patch,pendOK,numA,Value.cells,Value.oneCell',ibin,List.replicate,Option.elim,Nat.reduceAdd,Nat.reduceSub,Nat.reduceMul,Nat.reduceLT,Nat.reduceEqDiff,Nat.reduceLeDiff,Nat.reduceBEq,Int.reduceLE,Int.reduceLT,Int.reduceToNat,Int.reduceBNe,Int.reduceBEq,Int.reduceNeg,Int.reduceEq,Int.reduceNe,Nat.reduceBNe,Int.reduceAdd,Int.reduceSub,Int.reduceMul,Int.reducePow,Nat.reducePow,Int.reduceGT,Int.reduceGE,if_true,if_false,ite_true,ite_false,beq_self_eq_true,BEq.rfl,reduceCtorEq,eq_self,ne_eq,Function.comp_def,beq_iff_eq]
      exact hend _ _ _ hI
end
section
variable {n m : Nat} {st s : List Ob} {K : V → List Ob → Prop} {bv' : V} {pre : List B4} {u : B4}
set_option maxHeartbeats 4000000 in
/-- A round of 'AppendSeq'. -/
theorem coll_yl {ps : Array Tmp} {asg body : Code} (hc : frf (Try.f93.body.getD .skip) = some (ps, asg, body)) {F : Nat → V} {t2 lid : Nat} {p : Option Code} (q2 : F 2 = .ref t2 0)
    (h2 : s[t2]? = some (.cells [bv'])) (gl : Gl s 90 bv' (pre.flatMap B4.v) pre.length) (hp : pre.length < 1000000)
    (hl : s[lid]? = some (.loop .ready p (pl 93) (ofF 13 F) ps.toList asg body))
    (hK : ∀ bv2 s', Gl s' 90 bv2 ((pre ++ [u]).flatMap B4.v) (pre.length + 1) → s'[t2]? = some (.cells [bv2]) → s'[lid]? = some (.loop .ready none (pl 93) (ofF 13 F) ps.toList asg body) → (∀ j o, j ≠ t2 → j ≠ lid → rowOf bv' ≠ some j → s[j]? = some o → s'[j]? = some o) → s.length ≤ s'.length → (∀ j, rowOf bv2 = some j → rowOf bv' = some j ∨ s.length ≤ j) → K (.sc (.bool true)) s') :
    acallF Try.prog pl (n + 1) m Try.prog.funcs.size [.yl lid, .agg (B4.v u)] s K := by
  simp only [Try.f93, Option.getD_some, frf, Option.some.injEq, Prod.mk.injEq] at hc
  obtain ⟨rfl, rfl, rfl⟩ := hc
  refine acallF_yl hl rfl ?_
  rw [show (#[7] : Array Tmp).toList = [7] from rfl, aputs_one (by decide)]
  simp only [B4.v, bd, rc, evf,↓evp,evq,evr,fxa0,fxa1,fxa2,fxa3,fxa4,fxu,fxn,fxl,↓fxp,lgc,absL,fitL,flatL,ares,ares1,ofVal,unSc,aload,afill,splice,abound,asI,elems,IntKind.bits,sortT,eqNil,closedL,allByte,patch,pendOK,numA,Value.cells,Value.oneCell',ibin,List.replicate,Option.elim,Nat.reduceAdd,Nat.reduceSub,Nat.reduceMul,Nat.reduceLT,Nat.reduceEqDiff,Nat.reduceLeDiff,Nat.reduceBEq,Int.reduceLE,Int.reduceLT,Int.reduceToNat,Int.reduceBNe,Int.reduceBEq,Int.reduceNeg,Int.reduceEq,Int.reduceNe,Nat.reduceBNe,Int.reduceAdd,Int.reduceSub,Int.reduceMul,Int.reducePow,Nat.reducePow,Int.reduceGT,Int.reduceGE,if_true,if_false,ite_true,ite_false,beq_self_eq_true,BEq.rfl,reduceCtorEq,eq_self,ne_eq,Function.comp_def,beq_iff_eq]
  have g0 := Grw.push s [.cells (B4.v u)]
  have c6 : (s ++ [Ob.cells (B4.v u)])[s.length]? = some (.cells (B4.v u)) := get_new0 _ _
  simp only [B4.v, bd, rc] at g0 c6
  refine rdMid_ok (g0 _ _ hl) ?_
  generalize hs1 : (s ++ [Ob.cells _]) = s1 at g0 c6
  have l1 : s1.length = s.length + 1 := by rw [← hs1]; simp
  have nl : s.length ≠ lid := fun he => by subst he; rw [List.getElem?_eq_none (Nat.le_refl _)] at hl; cases hl
  have lt : lid < s1.length := (List.getElem?_eq_some_iff.1 (g0 _ _ hl)).1
  have nc : ∀ (j : Nat) (c : List V), s[j]? = some (.cells c) → j ≠ lid := fun j c hj he => by subst he; rw [hl] at hj; cases hj
  have nrl : rowOf bv' ≠ some lid := fun he => by
    rcases gl with ⟨rfl, _, _⟩ | ⟨id, lo, rfl, h1, _⟩
    · cases he
    · simp only [rowOf, Option.some.injEq] at he
      subst he
      rw [hl] at h1; cases h1
  generalize hs2 : s1.set lid _ = s2
  have k : ∀ j o, j ≠ lid → s1[j]? = some o → s2[j]? = some o := fun j o hj ho => by rw [← hs2, List.getElem?_set_ne (Ne.symm hj)]; exact ho
  have d2 := k _ _ (nc _ _ h2) (g0 _ _ h2)
  have d6 := k _ _ nl c6
  have dl : ∀ o, s1.set lid o = s2 → s2[lid]? = some o := fun o ho => by rw [← ho]; exact List.getElem?_set_self lt
  have dl := dl _ hs2
  have gl2 : Gl s2 90 bv' (pre.flatMap B4.v) pre.length := gl.of fun j o hj ho => k _ _ (fun he => nrl (by rw [← he]; exact hj)) (g0 _ _ ho)
  have l2 : s2.length = s1.length := by rw [← hs2, List.length_set]
  have gX := fun X => Grw.push s2 X
  obtain ⟨bv2, s3, ap, gl3, tr3, nw3⟩ := gl_app (P := Try.prog) (t := 63) (s := s2 ++ [.row 90 (B4.v u) 1 0 false]) (x := .sl s2.length 0 1 false 1) (zs := B4.v u) (k := 1) (gl2.grw (gX _)) Try.underlying63 sz90 by90 ze90 (by omega) rfl (flatMap_len (f := B4.v) (s := 5) (fun _ => rfl) _) (by simp only [elems, get_new0, List.getElem?_cons_zero, sz90]; rfl) rfl rfl (by omega) (by omega)
  have n2 : rowOf bv' ≠ some t2 := gl.ncells h2
  have d23 := tr3.2 _ _ n2 (gX _ _ _ d2)
  have dl3 := tr3.2 _ _ nrl (gX _ _ _ dl)
  have lt3 : t2 < s3.length := (List.getElem?_eq_some_iff.1 d23).1
  have ll3 : lid < s3.length := (List.getElem?_eq_some_iff.1 dl3).1
  obtain ⟨o1, o2⟩ := gl3.one
  have nt := nc _ _ h2
  simp only [B4.v, bd, rc] at ap
  simp only [q2, d2, d6, ap, d23, o1, o2, evf,↓evp,evq,evr,fxa0,fxa1,fxa2,fxa3,fxa4,fxu,fxn,fxl,↓fxp,lgc,absL,fitL,flatL,ares,ares1,ofVal,unSc,aload,afill,splice,abound,asI,elems,IntKind.bits,sortT,eqNil,closedL,allByte,patch,pendOK,numA,Value.cells,Value.oneCell',ibin,List.replicate,Option.elim,Nat.reduceAdd,Nat.reduceSub,Nat.reduceMul,Nat.reduceLT,Nat.reduceEqDiff,Nat.reduceLeDiff,Nat.reduceBEq,Int.reduceLE,Int.reduceLT,Int.reduceToNat,Int.reduceBNe,Int.reduceBEq,Int.reduceNeg,Int.reduceEq,Int.reduceNe,Nat.reduceBNe,Int.reduceAdd,Int.reduceSub,Int.reduceMul,Int.reducePow,Nat.reducePow,Int.reduceGT,Int.reduceGE,if_true,if_false,ite_true,ite_false,beq_self_eq_true,BEq.rfl,reduceCtorEq,eq_self,ne_eq,Function.comp_def,beq_iff_eq]
  refine rdEnd_normal (by rw [List.getElem?_set_ne nt]; exact dl3) ?_
  have ls2 : s.length < s2.length := by omega
  have new3 : ∀ j, rowOf bv2 = some j → rowOf bv' = some j ∨ s.length ≤ j := fun j hj => by
    rcases nw3 j hj with h | h
    · exact .inl h
    · exact .inr (by simp only [List.length_append] at h; omega)
  have nbt : ∀ j, rowOf bv2 = some j → j ≠ t2 ∧ j ≠ lid := fun j hj => by
    rcases nw3 j hj with h | h
    · exact ⟨fun he => n2 (by rw [← he]; exact h), fun he => nrl (by rw [← he]; exact h)⟩
    · simp only [List.length_append, List.length_cons, List.length_nil] at h
      have a1 : t2 < s2.length := (List.getElem?_eq_some_iff.1 d2).1
      omega
  refine hK bv2 _ ?_ ?_ ?_ ?_ ?_ new3
  · have e : (pre ++ [u]).flatMap B4.v = pre.flatMap B4.v ++ B4.v u := by simp [List.flatMap_append]
    rw [e]
    refine gl3.of fun j o hj ho => ?_
    obtain ⟨j1, j2⟩ := nbt j hj
    rw [List.getElem?_set_ne (Ne.symm j2), List.getElem?_set_ne (Ne.symm j1)]
    exact ho
  · rw [List.getElem?_set_ne (Ne.symm nt), List.getElem?_set_self lt3]
  · rw [List.getElem?_set_self (by rw [List.length_set]; exact ll3)]
  · intro j o j1 j2 j3 ho
    rw [List.getElem?_set_ne (Ne.symm j2), List.getElem?_set_ne (Ne.symm j1)]
    exact tr3.2 _ _ j3 (gX _ _ _ (k _ _ j2 (g0 _ _ ho)))
  · rw [List.length_set, List.length_set]
    have := tr3.1
    simp only [List.length_append] at this
    omega
end
section
variable {n m : Nat} {st s : List Ob} {K : V → List Ob → Prop} {wd a b rb : Nat} {WW HH : Int} {tv dv : V} {us : List (Int × V)} {os : List ((Int × Int) × V)} {L : List B4}
set_option maxHeartbeats 4000000 in
theorem w_Append (hw : Wd st wd a b WW HH tv dv us os) (hb : st[rb]? = some (.cells [.ref wd 0])) (hr : Rel WW HH us os L) (hs : Srt L) (hl : L.length ≤ 256) (hm : 300 < m)
    (hK : ∀ bv s, Gl s 90 bv (L.flatMap B4.v) L.length → Grw st s → (∀ j, rowOf bv = some j → st.length ≤ j) → K bv s) :
    acallF Try.prog pl (n + 5) m 93 [.tsl [] 0 true true, .fn (.func 78) [.ref rb 0]] st K := by
  refine acallF_inF Try.func93 rfl rfl Try.ntmps93 (by simp) ?_
  simp only [evf,↓evp,evq,evr,fxa0,fxa1,fxa2,fxa3,fxa4,fxu,fxn,fxl,↓fxp,lgc,absL,fitL,flatL,ares,ares1,ofVal,unSc,aload,afill,splice,abound,asI,elems,IntKind.bits,sortT,eqNil,closedL,allByte,patch,pendOK,numA,Value.cells,Value.oneCell',ibin,List.replicate,Option.elim,Nat.reduceAdd,Nat.reduceSub,Nat.reduceMul,Nat.reduceLT,Nat.reduceEqDiff,Nat.reduceLeDiff,Nat.reduceBEq,Int.reduceLE,Int.reduceLT,Int.reduceToNat,Int.reduceBNe,Int.reduceBEq,Int.reduceNeg,Int.reduceEq,Int.reduceNe,Nat.reduceBNe,Int.reduceAdd,Int.reduceSub,Int.reduceMul,Int.reducePow,Nat.reducePow,Int.reduceGT,Int.reduceGE,if_true,if_false,ite_true,ite_false,beq_self_eq_true,BEq.rfl,reduceCtorEq,eq_self,ne_eq,Function.comp_def,beq_iff_eq]
  have g1 := Grw.push st [Ob.cells [V.tsl [] 0 true true]]
  have c1 : (st ++ [Ob.cells [V.tsl [] 0 true true]])[st.length]? = some (.cells [V.tsl [] 0 true true]) := get_new0 _ _
  have ls1 : (st ++ [Ob.cells [V.tsl [] 0 true true]]).length = st.length + 1 := by simp
  have hwst : wd < st.length := (List.getElem?_eq_some_iff.1 hw.w).1
  have hast : a < st.length := (List.getElem?_eq_some_iff.1 hw.us).1
  have hbst : b < st.length := (List.getElem?_eq_some_iff.1 hw.os).1
  have hrst : rb < st.length := (List.getElem?_eq_some_iff.1 hb).1
  generalize hS : (st ++ [Ob.cells [V.tsl [] 0 true true], _]) = S
  have gS : Grw st S := by rw [← hS]; exact .push _ _
  have cS : S[st.length]? = some (.cells [.tsl [] 0 true true]) := by rw [← hS]; exact get_new _ _ 0
  have lS : S.length = st.length + 2 := by rw [← hS]; simp
  obtain ⟨F, ps, asg, body, hc, q2, hl0⟩ : ∃ F ps asg body, frf (Try.f93.body.getD .skip) = some (ps, asg, body) ∧ F 2 = .ref st.length 0 ∧ S[st.length + 1]? = some (.loop .ready none (pl 93) (ofF 13 F) ps.toList asg body) := by
    refine ⟨_, _, _, _, rfl, ?_, (by rw [← hS]; exact get_new st _ 1)⟩
    simp only [evf, ne_eq, Nat.reduceEqDiff, Nat.reduceLT, not_false_eq_true]
  refine w_Blds (n := n) (l := st.length + 1) (rb := rb) (J := fun _ => False)
    (I := fun r ro k s => ∃ bv', S.length ≤ r ∧ s[r]? = some ro ∧ rowOf bv' ≠ some r ∧ s[st.length]? = some (.cells [bv']) ∧ Gl s 90 bv' ((L.take k).flatMap B4.v) k ∧ s[st.length + 1]? = some (.loop .ready none (pl 93) (ofF 13 F) ps.toList asg body) ∧ (∀ j, rowOf bv' = some j → S.length ≤ j) ∧ Grw st s ∧ S.length ≤ s.length)
    (hw.grw gS) (gS _ _ hb) hr hs hl hm ?_ ?_ ?_ ?_ (fun _ h => h.elim)
  · rintro r ro k s ⟨bv', i1, i2, i3, i4, i5, i6, i7, i8, i9⟩
    exact ⟨i8 _ _ hb, hw.grw i8, i2⟩
  · intro r ro s g hr1 hr2
    exact ⟨_, hr1, hr2, (fun h => by cases h), g _ _ cS, .inl ⟨rfl, rfl, rfl⟩, g _ _ hl0, (fun j h => by cases h), gS.trans g, g.le⟩
  · rintro r ro i hi s K' ⟨bv', i1, i2, i3, i4, i5, i6, i7, i8, i9⟩ hK1 _
    have e : (L.take i).length = i := by simp; omega
    have e2 : L.take i ++ [L[i]] = L.take (i + 1) := by rw [List.take_append_getElem]
    refine coll_yl (n := n + 2) (bv' := bv') (pre := L.take i) (t2 := st.length) (lid := st.length + 1) (F := F) (p := none) hc q2 i4 (by rw [e]; exact i5) (by omega) i6 ?_
    intro bv2 s' k1 k2 k3 k4 k5 k6
    rw [e, e2] at k1
    have rs : r < s.length := (List.getElem?_eq_some_iff.1 i2).1
    refine hK1 _ ⟨bv2, i1, k4 _ _ (by omega) (by omega) i3 i2, (fun h => ?_), k2, k1, k3, (fun j h => ?_), (fun j o ho => ?_), by omega⟩
    · rcases k6 _ h with h | h
      · exact i3 h
      · omega
    · rcases k6 _ h with h | h
      · exact i7 _ h
      · omega
    · have lj : j < st.length := (List.getElem?_eq_some_iff.1 ho).1
      exact k4 _ _ (by omega) (by omega) (fun h => by have := i7 _ h; omega) (i8 _ _ ho)
  · rintro r ro s ⟨bv', i1, i2, i3, i4, i5, i6, i7, i8, i9⟩
    refine rfEnd_normal i6 (by decide) ?_
    have o1 := i5.one
    have n4 : ∀ o, (s.set (st.length + 1) o)[st.length]? = some (.cells [bv']) := fun o => by rw [List.getElem?_set_ne (by omega)]; exact i4
    simp only [n4, o1.1, o1.2, q2, evf,↓evp,evq,evr,fxa0,fxa1,fxa2,fxa3,fxa4,fxu,fxn,fxl,↓fxp,lgc,absL,fitL,flatL,ares,ares1,ofVal,unSc,aload,afill,splice,abound,asI,elems,IntKind.bits,sortT,eqNil,closedL,allByte,patch,pendOK,numA,Value.cells,Value.oneCell',ibin,List.replicate,Option.elim,Nat.reduceAdd,Nat.reduceSub,Nat.reduceMul,Nat.reduceLT,Nat.reduceEqDiff,Nat.reduceLeDiff,Nat.reduceBEq,Int.reduceLE,Int.reduceLT,Int.reduceToNat,Int.reduceBNe,Int.reduceBEq,Int.reduceNeg,Int.reduceEq,Int.reduceNe,Nat.reduceBNe,Int.reduceAdd,Int.reduceSub,Int.reduceMul,Int.reducePow,Nat.reducePow,Int.reduceGT,Int.reduceGE,if_true,if_false,ite_true,ite_false,beq_self_eq_true,BEq.rfl,reduceCtorEq,eq_self,ne_eq,Function.comp_def,beq_iff_eq]
    rw [List.take_length] at i5
    refine hK _ _ (i5.of fun j o hj ho => ?_) (fun j o ho => ?_) fun j hj => ?_
    · have := i7 _ hj
      rw [List.getElem?_set_ne (by omega)]; exact ho
    · have lj : j < st.length := (List.getElem?_eq_some_iff.1 ho).1
      rw [List.getElem?_set_ne (by omega)]; exact i8 _ _ ho
    · have := i7 _ hj; omega
theorem w_Collect (hw : Wd st wd a b WW HH tv dv us os) (hb : st[rb]? = some (.cells [.ref wd 0])) (hr : Rel WW HH us os L) (hs : Srt L) (hl : L.length ≤ 256) (hm : 300 < m)
    (hK : ∀ bv s, Gl s 90 bv (L.flatMap B4.v) L.length → Grw st s → (∀ j, rowOf bv = some j → st.length ≤ j) → K bv s) :
    acallF Try.prog pl (n + 6) m 70 [.fn (.func 78) [.ref rb 0]] st K := by
  refine acallF_inF Try.func70 rfl rfl Try.ntmps70 (by simp) ?_
  simp only [evf,↓evp,evq,evr,fxa0,fxa1,fxa2,fxa3,fxa4,fxu,fxn,fxl,↓fxp,lgc,absL,fitL,flatL,ares,ares1,ofVal,unSc,aload,afill,splice,abound,asI,elems,IntKind.bits,sortT,eqNil,closedL,allByte,patch,pendOK,numA,Value.cells,Value.oneCell',ibin,List.replicate,Option.elim,Nat.reduceAdd,Nat.reduceSub,Nat.reduceMul,Nat.reduceLT,Nat.reduceEqDiff,Nat.reduceLeDiff,Nat.reduceBEq,Int.reduceLE,Int.reduceLT,Int.reduceToNat,Int.reduceBNe,Int.reduceBEq,Int.reduceNeg,Int.reduceEq,Int.reduceNe,Nat.reduceBNe,Int.reduceAdd,Int.reduceSub,Int.reduceMul,Int.reducePow,Nat.reducePow,Int.reduceGT,Int.reduceGE,if_true,if_false,ite_true,ite_false,beq_self_eq_true,BEq.rfl,reduceCtorEq,eq_self,ne_eq,Function.comp_def,beq_iff_eq]
  refine w_Append (n := n) hw hb hr hs hl hm fun bv s h1 h2 h3 => ?_
  simp only [evf,↓evp,evq,evr,fxa0,fxa1,fxa2,fxa3,fxa4,fxu,fxn,fxl,↓fxp,lgc,absL,fitL,flatL,ares,ares1,ofVal,unSc,aload,afill,splice,abound,asI,elems,IntKind.bits,sortT,eqNil,closedL,allByte,patch,pendOK,numA,Value.cells,Value.oneCell',ibin,List.replicate,Option.elim,Nat.reduceAdd,Nat.reduceSub,Nat.reduceMul,Nat.reduceLT,Nat.reduceEqDiff,Nat.reduceLeDiff,Nat.reduceBEq,Int.reduceLE,Int.reduceLT,Int.reduceToNat,Int.reduceBNe,Int.reduceBEq,Int.reduceNeg,Int.reduceEq,Int.reduceNe,Nat.reduceBNe,Int.reduceAdd,Int.reduceSub,Int.reduceMul,Int.reducePow,Nat.reducePow,Int.reduceGT,Int.reduceGE,if_true,if_false,ite_true,ite_false,beq_self_eq_true,BEq.rfl,reduceCtorEq,eq_self,ne_eq,Function.comp_def,beq_iff_eq]
  exact hK _ _ h1 h2 h3
end
section
variable {n m : Nat} {st s : List Ob} {K : V → List Ob → Prop} {wd a b rd : Nat} {WW HH : Int} {T : List Int} {tv tv2 dv bv ev : V} {us : List (Int × V)} {os : List ((Int × Int) × V)} {L : List B4} {ds : List R4}
theorem w_BldF (hK : K (.fn (.func 78) [.ref st.length 0]) (st ++ [.cells [.ref wd 0]])) : acallF Try.prog pl (n + 1) m 50 [.ref wd 0] st K := by
  refine acallF_inF Try.func50 rfl rfl Try.ntmps50 (by simp) ?_
  simp only [evf,↓evp,evq,evr,fxa0,fxa1,fxa2,fxa3,fxa4,fxu,fxn,fxl,↓fxp,lgc,absL,fitL,flatL,ares,ares1,ofVal,unSc,aload,afill,splice,abound,asI,elems,IntKind.bits,sortT,eqNil,closedL,allByte,patch,pendOK,numA,Value.cells,Value.oneCell',ibin,List.replicate,Option.elim,Nat.reduceAdd,Nat.reduceSub,Nat.reduceMul,Nat.reduceLT,Nat.reduceEqDiff,Nat.reduceLeDiff,Nat.reduceBEq,Int.reduceLE,Int.reduceLT,Int.reduceToNat,Int.reduceBNe,Int.reduceBEq,Int.reduceNeg,Int.reduceEq,Int.reduceNe,Nat.reduceBNe,Int.reduceAdd,Int.reduceSub,Int.reduceMul,Int.reducePow,Nat.reducePow,Int.reduceGT,Int.reduceGE,if_true,if_false,ite_true,ite_false,beq_self_eq_true,BEq.rfl,reduceCtorEq,eq_self,ne_eq,Function.comp_def,beq_iff_eq]
  exact hK
set_option maxHeartbeats 4000000 in
theorem w_Map1 (hi : Wg st wd a b WW HH tv dv (bs T) us os ds) (hr : Rel WW HH us os L) (hs : Srt L) (hl : L.length ≤ 256) (hm : 300 < m) (hT : T.length ≤ 4000000000000)
    (hK : ∀ tv' bv' s, Gl s 5 tv' (bs T) T.length → Gl s 90 bv' (L.flatMap B4.v) L.length → (∀ j, rowOf tv' = some j → st.length ≤ j) → (∀ j, rowOf bv' = some j → st.length ≤ j) → Grw st s → K (.agg (mp WW HH tv' bv')) s) :
    acallF Try.prog pl (n + 7) m 40 [.ref wd 0] st K := by
  refine acallF_inF Try.func40 rfl rfl Try.ntmps40 (by simp) ?_
  obtain ⟨s1, hs1⟩ : ∃ s1, s1 = st ++ [Ob.cells (mp 0 0 (.tsl [] 0 true true) (.tsl [] 0 true true))] := ⟨_, rfl⟩
  have g1 : Grw st s1 := by rw [hs1]; exact .push _ _
  have c1 : s1[st.length]? = some (.cells (mp 0 0 (.tsl [] 0 true true) (.tsl [] 0 true true))) := by rw [hs1]; exact get_new0 _ _
  simp only [mp] at hs1 c1
  simp only [evf,↓evp,evq,evr,fxa0,fxa1,fxa2,fxa3,fxa4,fxu,fxn,fxl,↓fxp,lgc,absL,fitL,flatL,ares,ares1,ofVal,unSc,aload,afill,splice,abound,asI,elems,IntKind.bits,sortT,eqNil,closedL,allByte,patch,pendOK,numA,Value.cells,Value.oneCell',ibin,List.replicate,Option.elim,Nat.reduceAdd,Nat.reduceSub,Nat.reduceMul,Nat.reduceLT,Nat.reduceEqDiff,Nat.reduceLeDiff,Nat.reduceBEq,Int.reduceLE,Int.reduceLT,Int.reduceToNat,Int.reduceBNe,Int.reduceBEq,Int.reduceNeg,Int.reduceEq,Int.reduceNe,Nat.reduceBNe,Int.reduceAdd,Int.reduceSub,Int.reduceMul,Int.reducePow,Nat.reducePow,Int.reduceGT,Int.reduceGE,if_true,if_false,ite_true,ite_false,beq_self_eq_true,BEq.rfl,reduceCtorEq,eq_self,ne_eq,Function.comp_def,beq_iff_eq]
  rw [← hs1]
  refine w_is1 (n := n + 5) (hi.wd.grw g1) ?_
  have hi1 := hi.grw g1
  have w1 := hi1.wd.w
  have tl1 := hi1.tl
  rw [bs_len] at tl1
  simp only [w1, c1, evf,↓evp,evq,evr,fxa0,fxa1,fxa2,fxa3,fxa4,fxu,fxn,fxl,↓fxp,lgc,absL,fitL,flatL,ares,ares1,ofVal,unSc,aload,afill,splice,abound,asI,elems,IntKind.bits,sortT,eqNil,closedL,allByte,patch,pendOK,numA,Value.cells,Value.oneCell',ibin,List.replicate,Option.elim,Nat.reduceAdd,Nat.reduceSub,Nat.reduceMul,Nat.reduceLT,Nat.reduceEqDiff,Nat.reduceLeDiff,Nat.reduceBEq,Int.reduceLE,Int.reduceLT,Int.reduceToNat,Int.reduceBNe,Int.reduceBEq,Int.reduceNeg,Int.reduceEq,Int.reduceNe,Nat.reduceBNe,Int.reduceAdd,Int.reduceSub,Int.reduceMul,Int.reducePow,Nat.reducePow,Int.reduceGT,Int.reduceGE,if_true,if_false,ite_true,ite_false,beq_self_eq_true,BEq.rfl,reduceCtorEq,eq_self,ne_eq,Function.comp_def,beq_iff_eq]
  refine c_cloneB (n := n + 5) (tl1.rd sz5 (by rw [bs_len]; omega)) (closed_bs _) hT fun tv' s2 gt2 g2 nt2 => ?_
  have hi2 := hi1.grw g2
  have w2 := hi2.wd.w
  have c2 := g2 _ _ c1
  obtain ⟨o1, o2⟩ := gt2.one
  simp only [w1, c1, w2, c2, g2, evf,↓evp,evq,evr,fxa0,fxa1,fxa2,fxa3,fxa4,fxu,fxn,fxl,↓fxp,lgc,absL,fitL,flatL,ares,ares1,ofVal,unSc,aload,afill,splice,abound,asI,elems,IntKind.bits,sortT,eqNil,closedL,allByte,patch,pendOK,numA,Value.cells,Value.oneCell',ibin,List.replicate,Option.elim,Nat.reduceAdd,Nat.reduceSub,Nat.reduceMul,Nat.reduceLT,Nat.reduceEqDiff,Nat.reduceLeDiff,Nat.reduceBEq,Int.reduceLE,Int.reduceLT,Int.reduceToNat,Int.reduceBNe,Int.reduceBEq,Int.reduceNeg,Int.reduceEq,Int.reduceNe,Nat.reduceBNe,Int.reduceAdd,Int.reduceSub,Int.reduceMul,Int.reducePow,Nat.reducePow,Int.reduceGT,Int.reduceGE,if_true,if_false,ite_true,ite_false,beq_self_eq_true,BEq.rfl,reduceCtorEq,eq_self,ne_eq,Function.comp_def,beq_iff_eq]
  refine w_BldF (n := n + 5) ?_
  obtain ⟨s3, hs3⟩ : ∃ s3, s3 = s2 ++ [Ob.cells [.ref wd 0]] := ⟨_, rfl⟩
  have g3 : Grw s2 s3 := by rw [hs3]; exact .push _ _
  have c3' : s3[s2.length]? = some (.cells [.ref wd 0]) := by rw [hs3]; exact get_new0 _ _
  have hi3 := hi2.grw g3
  have w3 := hi3.wd.w
  have c3 := g3 _ _ c2
  rw [← hs3]
  simp only [w1, c1, w2, c2, w3, c3, g2, g3, evf,↓evp,evq,evr,fxa0,fxa1,fxa2,fxa3,fxa4,fxu,fxn,fxl,↓fxp,lgc,absL,fitL,flatL,ares,ares1,ofVal,unSc,aload,afill,splice,abound,asI,elems,IntKind.bits,sortT,eqNil,closedL,allByte,patch,pendOK,numA,Value.cells,Value.oneCell',ibin,List.replicate,Option.elim,Nat.reduceAdd,Nat.reduceSub,Nat.reduceMul,Nat.reduceLT,Nat.reduceEqDiff,Nat.reduceLeDiff,Nat.reduceBEq,Int.reduceLE,Int.reduceLT,Int.reduceToNat,Int.reduceBNe,Int.reduceBEq,Int.reduceNeg,Int.reduceEq,Int.reduceNe,Nat.reduceBNe,Int.reduceAdd,Int.reduceSub,Int.reduceMul,Int.reducePow,Nat.reducePow,Int.reduceGT,Int.reduceGE,if_true,if_false,ite_true,ite_false,beq_self_eq_true,BEq.rfl,reduceCtorEq,eq_self,ne_eq,Function.comp_def,beq_iff_eq]
  refine w_Collect (n := n) hi3.wd c3' hr hs hl hm fun bv' s4 gb4 g4 nb4 => ?_
  have w4 := (hi3.grw g4).wd.w
  have c4 := g4 _ _ c3
  obtain ⟨o3, o4⟩ := gb4.one
  have b5 : ∀ o, (s4.set st.length o)[st.length]? = some o := fun o => get_set c4 o
  simp only [w1, c1, w2, c2, w3, c3, w4, c4, g2, g3, g4, o1, o2, o3, o4, b5, evf,↓evp,evq,evr,fxa0,fxa1,fxa2,fxa3,fxa4,fxu,fxn,fxl,↓fxp,lgc,absL,fitL,flatL,ares,ares1,ofVal,unSc,aload,afill,splice,abound,asI,elems,IntKind.bits,sortT,eqNil,closedL,allByte,patch,pendOK,numA,Value.cells,Value.oneCell',ibin,List.replicate,Option.elim,Nat.reduceAdd,Nat.reduceSub,Nat.reduceMul,Nat.reduceLT,Nat.reduceEqDiff,Nat.reduceLeDiff,Nat.reduceBEq,Int.reduceLE,Int.reduceLT,Int.reduceToNat,Int.reduceBNe,Int.reduceBEq,Int.reduceNeg,Int.reduceEq,Int.reduceNe,Nat.reduceBNe,Int.reduceAdd,Int.reduceSub,Int.reduceMul,Int.reducePow,Nat.reducePow,Int.reduceGT,Int.reduceGE,if_true,if_false,ite_true,ite_false,beq_self_eq_true,BEq.rfl,reduceCtorEq,eq_self,ne_eq,Function.comp_def,beq_iff_eq]
  have l1 : s1.length = st.length + 1 := by rw [hs1]; simp
  have l2 := g2.le
  have l3 := g3.le
  refine hK _ _ _ (gt2.of fun j o hj ho => ?_) (gb4.of fun j o hj ho => ?_) (fun j hj => by have := nt2 j hj; omega) (fun j hj => by have := nb4 j hj; omega) ((((g1.trans g2).trans g3).trans g4).set (Nat.le_refl _) _)
  · have := nt2 j hj
    rw [List.getElem?_set_ne (by omega)]
    exact g4 _ _ (g3 _ _ ho)
  · have := nb4 j hj
    rw [List.getElem?_set_ne (by omega)]
    exact ho
set_option maxHeartbeats 4000000 in
theorem q_Map (hy : Wr st rd WW HH tv bv ev (bs T) L ds) (hl : L.length ≤ 256) (hT : T.length ≤ 4000000000000)
    (hK : ∀ tv' bv' s, Gl s 5 tv' (bs T) T.length → Gl s 90 bv' (L.flatMap B4.v) L.length → (∀ j, rowOf tv' = some j → st.length ≤ j) → (∀ j, rowOf bv' = some j → st.length ≤ j) → Grw st s → K (.agg (mp WW HH tv' bv')) s) :
    acallF Try.prog pl (n + 1) m 68 [.ref rd 0] st K := by
  refine acallF_inF Try.func68 rfl rfl Try.ntmps68 (by simp) ?_
  obtain ⟨s1, hs1⟩ : ∃ s1, s1 = st ++ [Ob.cells (mp 0 0 (.tsl [] 0 true true) (.tsl [] 0 true true)), Ob.cells (mp WW HH (.tsl [] 0 true true) (.tsl [] 0 true true))] := ⟨_, rfl⟩
  have g1 : Grw st s1 := by rw [hs1]; exact .push _ _
  have c1 : s1[st.length]? = some (.cells (mp 0 0 (.tsl [] 0 true true) (.tsl [] 0 true true))) := by rw [hs1]; exact get_new0 _ _
  have d1 : s1[st.length + 1]? = some (.cells (mp WW HH (.tsl [] 0 true true) (.tsl [] 0 true true))) := by rw [hs1]; exact get_new _ _ 1
  have l1 : s1.length = st.length + 2 := by rw [hs1]; simp
  have w0 := hy.w
  have w0X := fun X => Grw.push st X _ _ w0
  have hy1 := hy.grw g1
  have w1 := hy1.w
  have tl1 := hy1.tl
  rw [bs_len] at tl1
  obtain ⟨tv', s2, ap1, gt2, g2, nt2⟩ := nil_app (t := 62) Try.underlying62 sz5 by5 ze5 (by omega) rfl (tl1.rd sz5 (by rw [bs_len]; omega)) (closed_bs _) (by omega) (by omega)
  have l2 := g2.le
  obtain ⟨o1, o2⟩ := gt2.one
  have c2 := g2 _ _ c1
  have d2 := g2 _ _ d1
  obtain ⟨s3, hs3⟩ : ∃ s3, s3 = s2.set (st.length + 1) (Ob.cells (mp WW HH tv' (.tsl [] 0 true true))) := ⟨_, rfl⟩
  have d3 : s3[st.length + 1]? = some (.cells (mp WW HH tv' (.tsl [] 0 true true))) := by rw [hs3]; exact get_set d2 _
  have g3 : Grw st s3 := by rw [hs3]; exact (g1.trans g2).set (by omega) _
  have c3 : s3[st.length]? = some (.cells (mp 0 0 (.tsl [] 0 true true) (.tsl [] 0 true true))) := by rw [hs3, List.getElem?_set_ne (by omega)]; exact c2
  have l3 : s3.length = s2.length := by rw [hs3, List.length_set]
  have hy3 := hy.grw g3
  have w3 := hy3.w
  obtain ⟨bv', s4, ap2, gb4, g4, nb4⟩ := nil_app (t := 63) Try.underlying63 sz90 by90 ze90 (by omega) rfl hy3.rb (closed_bd _) (by omega) (by omega)
  obtain ⟨o3, o4⟩ := gb4.one
  have c4 := g4 _ _ c3
  have d4 := g4 _ _ d3
  have l4 := g4.le
  obtain ⟨s5, hs5⟩ : ∃ s5, s5 = s4.set (st.length + 1) (Ob.cells (mp WW HH tv' bv')) := ⟨_, rfl⟩
  have d5 : s5[st.length + 1]? = some (.cells (mp WW HH tv' bv')) := by rw [hs5]; exact get_set d4 _
  have c5 : s5[st.length]? = some (.cells (mp 0 0 (.tsl [] 0 true true) (.tsl [] 0 true true))) := by rw [hs5, List.getElem?_set_ne (by omega)]; exact c4
  have b6 : ∀ o, (s5.set st.length o)[st.length]? = some o := fun o => get_set c5 o
  simp only [mp] at hs1 c1 d1 c2 d2 hs3 c3 d3 c4 d4 hs5 c5 d5
  simp only [w0, w0X, evf,↓evp,evq,evr,fxa0,fxa1,fxa2,fxa3,fxa4,fxu,fxn,fxl,↓fxp,lgc,absL,fitL,flatL,ares,ares1,ofVal,unSc,aload,afill,splice,abound,asI,elems,IntKind.bits,sortT,eqNil,closedL,allByte,patch,pendOK,numA,Value.cells,Value.oneCell',ibin,List.replicate,Option.elim,Nat.reduceAdd,Nat.reduceSub,Nat.reduceMul,Nat.reduceLT,Nat.reduceEqDiff,Nat.reduceLeDiff,Nat.reduceBEq,Int.reduceLE,Int.reduceLT,Int.reduceToNat,Int.reduceBNe,Int.reduceBEq,Int.reduceNeg,Int.reduceEq,Int.reduceNe,Nat.reduceBNe,Int.reduceAdd,Int.reduceSub,Int.reduceMul,Int.reducePow,Nat.reducePow,Int.reduceGT,Int.reduceGE,if_true,if_false,ite_true,ite_false,beq_self_eq_true,BEq.rfl,reduceCtorEq,eq_self,ne_eq,Function.comp_def,beq_iff_eq]
  rw [← hs1]
  simp only [w1, d1, ap1, d2, c2, o1, o2, g2, evf,↓evp,evq,evr,fxa0,fxa1,fxa2,fxa3,fxa4,fxu,fxn,fxl,↓fxp,lgc,absL,fitL,flatL,ares,ares1,ofVal,unSc,aload,afill,splice,abound,asI,elems,IntKind.bits,sortT,eqNil,closedL,allByte,patch,pendOK,numA,Value.cells,Value.oneCell',ibin,List.replicate,Option.elim,Nat.reduceAdd,Nat.reduceSub,Nat.reduceMul,Nat.reduceLT,Nat.reduceEqDiff,Nat.reduceLeDiff,Nat.reduceBEq,Int.reduceLE,Int.reduceLT,Int.reduceToNat,Int.reduceBNe,Int.reduceBEq,Int.reduceNeg,Int.reduceEq,Int.reduceNe,Nat.reduceBNe,Int.reduceAdd,Int.reduceSub,Int.reduceMul,Int.reducePow,Nat.reducePow,Int.reduceGT,Int.reduceGE,if_true,if_false,ite_true,ite_false,beq_self_eq_true,BEq.rfl,reduceCtorEq,eq_self,ne_eq,Function.comp_def,beq_iff_eq]
  rw [← hs3]
  simp only [w3, d3, ap2, d4, c4, o1, o2, o3, o4, g4, evf,↓evp,evq,evr,fxa0,fxa1,fxa2,fxa3,fxa4,fxu,fxn,fxl,↓fxp,lgc,absL,fitL,flatL,ares,ares1,ofVal,unSc,aload,afill,splice,abound,asI,elems,IntKind.bits,sortT,eqNil,closedL,allByte,patch,pendOK,numA,Value.cells,Value.oneCell',ibin,List.replicate,Option.elim,Nat.reduceAdd,Nat.reduceSub,Nat.reduceMul,Nat.reduceLT,Nat.reduceEqDiff,Nat.reduceLeDiff,Nat.reduceBEq,Int.reduceLE,Int.reduceLT,Int.reduceToNat,Int.reduceBNe,Int.reduceBEq,Int.reduceNeg,Int.reduceEq,Int.reduceNe,Nat.reduceBNe,Int.reduceAdd,Int.reduceSub,Int.reduceMul,Int.reducePow,Nat.reducePow,Int.reduceGT,Int.reduceGE,if_true,if_false,ite_true,ite_false,beq_self_eq_true,BEq.rfl,reduceCtorEq,eq_self,ne_eq,Function.comp_def,beq_iff_eq]
  rw [← hs5]
  simp only [c5, d5, b6, o1, o2, o3, o4, evf,↓evp,evq,evr,fxa0,fxa1,fxa2,fxa3,fxa4,fxu,fxn,fxl,↓fxp,lgc,absL,fitL,flatL,ares,ares1,ofVal,unSc,aload,afill,splice,abound,asI,elems,IntKind.bits,sortT,eqNil,closedL,allByte,patch,pendOK,numA,Value.cells,Value.oneCell',ibin,List.replicate,Option.elim,Nat.reduceAdd,Nat.reduceSub,Nat.reduceMul,Nat.reduceLT,Nat.reduceEqDiff,Nat.reduceLeDiff,Nat.reduceBEq,Int.reduceLE,Int.reduceLT,Int.reduceToNat,Int.reduceBNe,Int.reduceBEq,Int.reduceNeg,Int.reduceEq,Int.reduceNe,Nat.reduceBNe,Int.reduceAdd,Int.reduceSub,Int.reduceMul,Int.reducePow,Nat.reducePow,Int.reduceGT,Int.reduceGE,if_true,if_false,ite_true,ite_false,beq_self_eq_true,BEq.rfl,reduceCtorEq,eq_self,ne_eq,Function.comp_def,beq_iff_eq]
  refine hK _ _ _ (gt2.of fun j o hj ho => ?_) (gb4.of fun j o hj ho => ?_) (fun j hj => by have := nt2 j hj; omega) (fun j hj => by have := nb4 j hj; omega) ?_
  · have := nt2 j hj
    rw [List.getElem?_set_ne (by omega), hs5, List.getElem?_set_ne (by omega)]
    refine g4 _ _ ?_
    rw [hs3, List.getElem?_set_ne (by omega)]
    exact ho
  · have := nb4 j hj
    rw [List.getElem?_set_ne (by omega), hs5, List.getElem?_set_ne (by omega)]
    exact ho
  · rw [hs5]
    exact ((g3.trans g4).set (by omega) _).set (Nat.le_refl _) _
end
section
variable {n m : Nat} {st s : List Ob} {K : V → List Ob → Prop} {WW HH : Int} {T : List Int} {t1 t2 b1 b2 : V} {L : List B4}
set_option maxHeartbeats 4000000 in
theorem q_Same (ht1 : Rd Try.prog st 5 t1 (bs T) T.length) (ht2 : Rd Try.prog st 5 t2 (bs T) T.length) (hb1 : Rd Try.prog st 90 b1 (L.flatMap B4.v) L.length) (hb2 : Rd Try.prog st 90 b2 (L.flatMap B4.v) L.length)
    (o1 : M.one t1 = true ∧ cellsV t1 = [t1]) (o2 : M.one t2 = true ∧ cellsV t2 = [t2]) (o3 : M.one b1 = true ∧ cellsV b1 = [b1]) (o4 : M.one b2 = true ∧ cellsV b2 = [b2]) (hl : L.length ≤ 256) (hm : 300 < m)
    (hK : ∀ s, Grw st s → K (.sc (.bool true)) s) :
    acallF Try.prog pl (n + 1) m 45 [.agg (mp WW HH t1 b1), .agg (mp WW HH t2 b2)] st K := by
  refine acallF_inF Try.func45 rfl rfl Try.ntmps45 (by simp) ?_
  obtain ⟨s1, hs1⟩ : ∃ s1, s1 = st ++ [Ob.cells (mp WW HH t1 b1), Ob.cells (mp WW HH t2 b2)] := ⟨_, rfl⟩
  have g1 : Grw st s1 := by rw [hs1]; exact .push _ _
  have c1 : s1[st.length]? = some (.cells (mp WW HH t1 b1)) := by rw [hs1]; exact get_new0 _ _
  have d1 : s1[st.length + 1]? = some (.cells (mp WW HH t2 b2)) := by rw [hs1]; exact get_new _ _ 1
  obtain ⟨B, cx, cy⟩ : ∃ B, aconvert Try.prog s1 62 9 t1 = some (.sc (.string B)) ∧ aconvert Try.prog s1 62 9 t2 = some (.sc (.string B)) :=
    ⟨_, aconv_b (d := 9) (e' := 0) (ht1.grw g1) Try.underlying62 Try.underlying5 Try.underlying9 sz5,
     aconv_b (d := 9) (e' := 0) (ht2.grw g1) Try.underlying62 Try.underlying5 Try.underlying9 sz5⟩
  have al1 := alen_rd (hb1.grw g1) Try.underlying63
  have al2 := alen_rd (hb2.grw g1) Try.underlying63
  simp only [mp] at hs1 c1 d1
  simp only [mp, o1.1, o1.2, o2.1, o2.2, o3.1, o3.2, o4.1, o4.2, evf,↓evp,evq,evr,fxa0,fxa1,fxa2,fxa3,fxa4,fxu,fxn,fxl,↓fxp,lgc,absL,fitL,flatL,ares,ares1,ofVal,unSc,aload,afill,splice,abound,asI,elems,IntKind.bits,sortT,eqNil,closedL,allByte,patch,pendOK,numA,Value.cells,Value.oneCell',ibin,List.replicate,Option.elim,Nat.reduceAdd,Nat.reduceSub,Nat.reduceMul,Nat.reduceLT,Nat.reduceEqDiff,Nat.reduceLeDiff,Nat.reduceBEq,Int.reduceLE,Int.reduceLT,Int.reduceToNat,Int.reduceBNe,Int.reduceBEq,Int.reduceNeg,Int.reduceEq,Int.reduceNe,Nat.reduceBNe,Int.reduceAdd,Int.reduceSub,Int.reduceMul,Int.reducePow,Nat.reducePow,Int.reduceGT,Int.reduceGE,if_true,if_false,ite_true,ite_false,beq_self_eq_true,BEq.rfl,reduceCtorEq,eq_self,ne_eq,Function.comp_def,beq_iff_eq]
  rw [← hs1]
  have e0 : ((L.length : Int) != L.length) = false := by simp
  have e1 : (WW != WW) = false := by simp
  have e2 : (HH != HH) = false := by simp
  simp only [c1, d1, cx, cy, al1, al2, e0, e1, e2, bne_self_eq_false, beq_self_eq_true, evf,↓evp,evq,evr,fxa0,fxa1,fxa2,fxa3,fxa4,fxu,fxn,fxl,↓fxp,lgc,absL,fitL,flatL,ares,ares1,ofVal,unSc,aload,afill,splice,abound,asI,elems,IntKind.bits,sortT,eqNil,closedL,allByte,patch,pendOK,numA,Value.cells,Value.oneCell',ibin,List.replicate,Option.elim,Nat.reduceAdd,Nat.reduceSub,Nat.reduceMul,Nat.reduceLT,Nat.reduceEqDiff,Nat.reduceLeDiff,Nat.reduceBEq,Int.reduceLE,Int.reduceLT,Int.reduceToNat,Int.reduceBNe,Int.reduceBEq,Int.reduceNeg,Int.reduceEq,Int.reduceNe,Nat.reduceBNe,Int.reduceAdd,Int.reduceSub,Int.reduceMul,Int.reducePow,Nat.reducePow,Int.reduceGT,Int.reduceGE,if_true,if_false,ite_true,ite_false,beq_self_eq_true,BEq.rfl,reduceCtorEq,eq_self,ne_eq,Function.comp_def,beq_iff_eq]
  refine aloop_forF (fun k f s => s = s1 ∧ ∃ i : Nat, k + i = m ∧ i ≤ L.length ∧ f 2 = .ref st.length 0 ∧ f 3 = .ref (st.length + 1) 0 ∧ f 5 = .sc (.int .i64 i)) ⟨rfl, 0, by omega, by omega, by simp only [evf, ne_eq, Nat.reduceEqDiff, Nat.reduceLT, not_false_eq_true], by simp only [evf, ne_eq, Nat.reduceEqDiff, Nat.reduceLT, not_false_eq_true], by simp only [evf, ne_eq, Nat.reduceEqDiff, Nat.reduceLT, not_false_eq_true]; rfl⟩ ?_
  rintro I' hI' k f s ⟨rfl, i, hk, hi, f2, f3, f5⟩
  refine ⟨k - 1, by omega, ?_⟩
  by_cases hil : i < L.length
  · have d : decide ((i : Int) < L.length) = true := decide_eq_true (by omega)
    have e3 : IntKind.i64.wrap ((i : Int) + 1) = ((i + 1 : Nat) : Int) := by rw [IntWalk.i64_in _ (by omega)]; rfl
    obtain ⟨p1, p2⟩ := ix_flat (f := B4.v) (fun a => rfl) (hb1.grw g1) Try.underlying63 sz90 ag90 (by omega) hil
    obtain ⟨p3, p4⟩ := ix_flat (f := B4.v) (fun a => rfl) (hb2.grw g1) Try.underlying63 sz90 ag90 (by omega) hil
    have cm := fun p q => cmp_bdN p q L[i].id L[i].x L[i].y L[i].w L[i].h L[i].id L[i].x L[i].y L[i].w L[i].h
    have eq1 : eqR L[i].x L[i].y L[i].w L[i].h L[i].x L[i].y L[i].w L[i].h = true := by simp [eqR]
    have eq : (L[i].id == L[i].id && eqR L[i].x L[i].y L[i].w L[i].h L[i].x L[i].y L[i].w L[i].h) = true := by simp [eqR]
    generalize hu : L[i] = u at p2 p4 cm eq eq1
    simp only [B4.v, bd, rc] at p2 p4
    simp only [f2, f3, f5, c1, d1, al1, d, p1, p2, p3, p4, cm, eq, eq1, beq_self_eq_true, Bool.and_self, Bool.not_true, e3, evf,↓evp,evq,evr,fxa0,fxa1,fxa2,fxa3,fxa4,fxu,fxn,fxl,↓fxp,lgc,absL,fitL,flatL,ares,ares1,ofVal,unSc,aload,afill,splice,abound,asI,elems,IntKind.bits,sortT,eqNil,closedL,allByte,patch,pendOK,numA,Value.cells,Value.oneCell',ibin,List.replicate,Option.elim,Nat.reduceAdd,Nat.reduceSub,Nat.reduceMul,Nat.reduceLT,Nat.reduceEqDiff,Nat.reduceLeDiff,Nat.reduceBEq,Int.reduceLE,Int.reduceLT,Int.reduceToNat,Int.reduceBNe,Int.reduceBEq,Int.reduceNeg,Int.reduceEq,Int.reduceNe,Nat.reduceBNe,Int.reduceAdd,Int.reduceSub,Int.reduceMul,Int.reducePow,Nat.reducePow,Int.reduceGT,Int.reduceGE,if_true,if_false,ite_true,ite_false,beq_self_eq_true,BEq.rfl,reduceCtorEq,eq_self,ne_eq,Function.comp_def,beq_iff_eq]
    refine hI' _ _ _ ⟨rfl, i + 1, by omega, by omega, by simp only [f2, evf, ne_eq, Nat.reduceEqDiff, Nat.reduceLT, not_false_eq_true], by simp only [f3, evf, ne_eq, Nat.reduceEqDiff, Nat.reduceLT, not_false_eq_true], by simp only [evf, ne_eq, Nat.reduceEqDiff, Nat.reduceLT, not_false_eq_true]⟩
  · have d : decide ((i : Int) < L.length) = false := decide_eq_false (by omega)
    simp only [f2, f3, f5, c1, d1, al1, d, evf,↓evp,evq,evr,fxa0,fxa1,fxa2,fxa3,fxa4,fxu,fxn,fxl,↓fxp,lgc,absL,fitL,flatL,ares,ares1,ofVal,unSc,aload,afill,splice,abound,asI,elems,IntKind.bits,sortT,eqNil,closedL,allByte,patch,pendOK,numA,Value.cells,Value.oneCell',ibin,List.replicate,Option.elim,Nat.reduceAdd,Nat.reduceSub,Nat.reduceMul,Nat.reduceLT,Nat.reduceEqDiff,Nat.reduceLeDiff,Nat.reduceBEq,Int.reduceLE,Int.reduceLT,Int.reduceToNat,Int.reduceBNe,Int.reduceBEq,Int.reduceNeg,Int.reduceEq,Int.reduceNe,Nat.reduceBNe,Int.reduceAdd,Int.reduceSub,Int.reduceMul,Int.reducePow,Nat.reducePow,Int.reduceGT,Int.reduceGE,if_true,if_false,ite_true,ite_false,beq_self_eq_true,BEq.rfl,reduceCtorEq,eq_self,ne_eq,Function.comp_def,beq_iff_eq]
    exact hK _ g1
end
section
variable {n m : Nat} {st s : List Ob} {K : V → List Ob → Prop} {wd a b rd : Nat} {WW HH : Int} {T : List Int} {tv tv2 dv bv ev : V} {us : List (Int × V)} {os : List ((Int × Int) × V)} {L : List B4} {ds : List R4} {ts : List V}
set_option maxHeartbeats 4000000 in
/-- A round of 'Is'. -/
theorem is_yl {ps : Array Tmp} {asg body : Code} (hc : frf (Try.f39.body.getD .skip) = some (ps, asg, body)) {F : Nat → V} {t1 t4 lid i : Nat} {p : Option Code} (q1 : F 1 = .ref t1 0) (q4 : F 4 = .ref t4 0)
    (h1 : s[t1]? = some (.cells [.ref wd 0, .ref rd 0])) (h4 : s[t4]? = some (.cells [.sc (.int .i64 i)])) (hy : Wr s rd WW HH tv bv ev ts L ds) (hi : i < L.length) (hl : L.length ≤ 256)
    (hlp : s[lid]? = some (.loop .ready p (pl 39) (ofF 76 F) ps.toList asg body))
    (hK : ∀ s', s'[t4]? = some (.cells [.sc (.int .i64 (i + 1 : Nat))]) → s'[lid]? = some (.loop .ready none (pl 39) (ofF 76 F) ps.toList asg body) → (∀ j o, j ≠ t4 → j ≠ lid → s[j]? = some o → s'[j]? = some o) → s.length ≤ s'.length → K (.sc (.bool true)) s') :
    acallF Try.prog pl (n + 1) m Try.prog.funcs.size [.yl lid, .agg (B4.v L[i])] s K := by
  simp only [Try.f39, Option.getD_some, frf, Option.some.injEq, Prod.mk.injEq] at hc
  obtain ⟨rfl, rfl, rfl⟩ := hc
  refine acallF_yl hlp rfl ?_
  rw [show (#[45] : Array Tmp).toList = [45] from rfl, aputs_one (by decide)]
  simp only [B4.v, bd, rc, evf,↓evp,evq,evr,fxa0,fxa1,fxa2,fxa3,fxa4,fxu,fxn,fxl,↓fxp,lgc,absL,fitL,flatL,ares,ares1,ofVal,unSc,aload,afill,splice,abound,asI,elems,IntKind.bits,sortT,eqNil,closedL,allByte,patch,pendOK,numA,Value.cells,Value.oneCell',ibin,List.replicate,Option.elim,Nat.reduceAdd,Nat.reduceSub,Nat.reduceMul,Nat.reduceLT,Nat.reduceEqDiff,Nat.reduceLeDiff,Nat.reduceBEq,Int.reduceLE,Int.reduceLT,Int.reduceToNat,Int.reduceBNe,Int.reduceBEq,Int.reduceNeg,Int.reduceEq,Int.reduceNe,Nat.reduceBNe,Int.reduceAdd,Int.reduceSub,Int.reduceMul,Int.reducePow,Nat.reducePow,Int.reduceGT,Int.reduceGE,if_true,if_false,ite_true,ite_false,beq_self_eq_true,BEq.rfl,reduceCtorEq,eq_self,ne_eq,Function.comp_def,beq_iff_eq]
  have g0 := Grw.push s [.cells (B4.v L[i])]
  have c6 : (s ++ [Ob.cells (B4.v L[i])])[s.length]? = some (.cells (B4.v L[i])) := get_new0 _ _
  simp only [B4.v, bd, rc] at g0 c6
  refine rdMid_ok (g0 _ _ hlp) ?_
  generalize hs1 : (s ++ [Ob.cells _]) = s1 at g0 c6
  have l1 : s1.length = s.length + 1 := by rw [← hs1]; simp
  have nl : s.length ≠ lid := fun he => by subst he; rw [List.getElem?_eq_none (Nat.le_refl _)] at hlp; cases hlp
  have lt : lid < s1.length := (List.getElem?_eq_some_iff.1 (g0 _ _ hlp)).1
  have nc : ∀ (j : Nat) (c : List V), s[j]? = some (.cells c) → j ≠ lid := fun j c hj he => by subst he; rw [hlp] at hj; cases hj
  have nrl : rowOf bv ≠ some lid := fun he => by
    rcases hy.bl with ⟨rfl, _, _⟩ | ⟨id, lo, rfl, h1, _⟩
    · cases he
    · simp only [rowOf, Option.some.injEq] at he
      subst he
      rw [hlp] at h1; cases h1
  generalize hs2 : s1.set lid _ = s2
  have k : ∀ j o, j ≠ lid → s1[j]? = some o → s2[j]? = some o := fun j o hj ho => by rw [← hs2, List.getElem?_set_ne (Ne.symm hj)]; exact ho
  have d1 := k _ _ (nc _ _ h1) (g0 _ _ h1)
  have d4 := k _ _ (nc _ _ h4) (g0 _ _ h4)
  have d6 := k _ _ nl c6
  have dr := k _ _ (nc _ _ hy.w) (g0 _ _ hy.w)
  have dl : ∀ o, s1.set lid o = s2 → s2[lid]? = some o := fun o ho => by rw [← ho]; exact List.getElem?_set_self lt
  have dl := dl _ hs2
  have gl2 : Gl s2 90 bv (L.flatMap B4.v) L.length := hy.bl.of fun j o hj ho => k _ _ (fun he => nrl (by rw [← he]; exact hj)) (g0 _ _ ho)
  have rb2 := gl2.rd sz90 (flatMap_len (f := B4.v) (s := 5) (fun _ => rfl) _)
  have l2 : s2.length = s1.length := by rw [← hs2, List.length_set]
  have al := alen_rd rb2 Try.underlying63
  have d : decide ((i : Int) ≥ L.length) = false := decide_eq_false (by omega)
  have e3 : IntKind.i64.wrap ((i : Int) + 1) = ((i + 1 : Nat) : Int) := by rw [IntWalk.i64_in _ (by omega)]; rfl
  obtain ⟨p3, p4⟩ := ix_flat (f := B4.v) (fun a => rfl) rb2 Try.underlying63 sz90 ag90 (by omega) hi
  have cm := fun p q => cmp_bdN p q L[i].id L[i].x L[i].y L[i].w L[i].h L[i].id L[i].x L[i].y L[i].w L[i].h
  have eq1 : eqR L[i].x L[i].y L[i].w L[i].h L[i].x L[i].y L[i].w L[i].h = true := by simp [eqR]
  generalize hu : L[i] = u at p4 cm eq1 d6 hs1 c6
  simp only [B4.v, bd, rc] at p4
  have b4 : ∀ o, (s2.set t4 o)[t4]? = some o := fun o => get_set d4 o
  simp only [q1, q4, d1, d4, d6, dr, al, d, p3, p4, cm, eq1, beq_self_eq_true, Bool.and_self, Bool.not_true, e3, b4, evf,↓evp,evq,evr,fxa0,fxa1,fxa2,fxa3,fxa4,fxu,fxn,fxl,↓fxp,lgc,absL,fitL,flatL,ares,ares1,ofVal,unSc,aload,afill,splice,abound,asI,elems,IntKind.bits,sortT,eqNil,closedL,allByte,patch,pendOK,numA,Value.cells,Value.oneCell',ibin,List.replicate,Option.elim,Nat.reduceAdd,Nat.reduceSub,Nat.reduceMul,Nat.reduceLT,Nat.reduceEqDiff,Nat.reduceLeDiff,Nat.reduceBEq,Int.reduceLE,Int.reduceLT,Int.reduceToNat,Int.reduceBNe,Int.reduceBEq,Int.reduceNeg,Int.reduceEq,Int.reduceNe,Nat.reduceBNe,Int.reduceAdd,Int.reduceSub,Int.reduceMul,Int.reducePow,Nat.reducePow,Int.reduceGT,Int.reduceGE,if_true,if_false,ite_true,ite_false,beq_self_eq_true,BEq.rfl,reduceCtorEq,eq_self,ne_eq,Function.comp_def,beq_iff_eq]
  have nt := nc _ _ h4
  have lt4 : t4 < s2.length := (List.getElem?_eq_some_iff.1 d4).1
  have ll2 : lid < s2.length := (List.getElem?_eq_some_iff.1 dl).1
  refine rdEnd_normal (by rw [List.getElem?_set_ne nt]; exact dl) ?_
  refine hK _ ?_ ?_ ?_ ?_
  · rw [List.getElem?_set_ne (Ne.symm nt), List.getElem?_set_self lt4]
  · rw [List.getElem?_set_self (by rw [List.length_set]; exact ll2)]
  · intro j o j1 j2 ho
    rw [List.getElem?_set_ne (Ne.symm j2), List.getElem?_set_ne (Ne.symm j1)]
    exact k _ _ j2 (g0 _ _ ho)
  · rw [List.length_set, List.length_set]
    omega
set_option maxHeartbeats 4000000 in
theorem l_Is (hb : Bo st wd a b rd WW HH tv tv2 dv bv ev T us os L ds) (hl : L.length ≤ 256) (hm : 300 < m) (hT : T.length ≤ 4000000000000)
    (hK : ∀ s, Grw st s → K (.sc (.bool true)) s) :
    acallF Try.prog pl (n + 8) m 39 [.agg [.ref wd 0, .ref rd 0]] st K := by
  refine acallF_inF Try.func39 rfl rfl Try.ntmps39 (by simp) ?_
  obtain ⟨s1, hs1⟩ : ∃ s1, s1 = st ++ [Ob.cells [.ref wd 0, .ref rd 0], Ob.cells [.sc (.bool false)]] := ⟨_, rfl⟩
  have g1 : Grw st s1 := by rw [hs1]; exact .push _ _
  have c1 : s1[st.length]? = some (.cells [.ref wd 0, .ref rd 0]) := by rw [hs1]; exact get_new0 _ _
  have d1 : s1[st.length + 1]? = some (.cells [.sc (.bool false)]) := by rw [hs1]; exact get_new _ _ 1
  have l1 : s1.length = st.length + 2 := by rw [hs1]; simp
  have hb1 := hb.grw g1
  simp only [evf,↓evp,evq,evr,fxa0,fxa1,fxa2,fxa3,fxa4,fxu,fxn,fxl,↓fxp,lgc,absL,fitL,flatL,ares,ares1,ofVal,unSc,aload,afill,splice,abound,asI,elems,IntKind.bits,sortT,eqNil,closedL,allByte,patch,pendOK,numA,Value.cells,Value.oneCell',ibin,List.replicate,Option.elim,Nat.reduceAdd,Nat.reduceSub,Nat.reduceMul,Nat.reduceLT,Nat.reduceEqDiff,Nat.reduceLeDiff,Nat.reduceBEq,Int.reduceLE,Int.reduceLT,Int.reduceToNat,Int.reduceBNe,Int.reduceBEq,Int.reduceNeg,Int.reduceEq,Int.reduceNe,Nat.reduceBNe,Int.reduceAdd,Int.reduceSub,Int.reduceMul,Int.reducePow,Nat.reducePow,Int.reduceGT,Int.reduceGE,if_true,if_false,ite_true,ite_false,beq_self_eq_true,BEq.rfl,reduceCtorEq,eq_self,ne_eq,Function.comp_def,beq_iff_eq]
  rw [← hs1]
  refine q_All (n := n + 6) hb1.r fun s2 g2 => ?_
  obtain ⟨s3, hs3⟩ : ∃ s3, s3 = s2 ++ [Ob.cells (rc 0 0 WW HH)] := ⟨_, rfl⟩
  have g3 : Grw s2 s3 := by rw [hs3]; exact .push _ _
  have e3 : s3[s2.length]? = some (.cells (rc 0 0 WW HH)) := by rw [hs3]; exact get_new0 _ _
  have c3 := g3 _ _ (g2 _ _ c1)
  have hb3 := (hb1.grw g2).grw g3
  simp only [rc] at hs3 e3
  simp only [rc, evf,↓evp,evq,evr,fxa0,fxa1,fxa2,fxa3,fxa4,fxu,fxn,fxl,↓fxp,lgc,absL,fitL,flatL,ares,ares1,ofVal,unSc,aload,afill,splice,abound,asI,elems,IntKind.bits,sortT,eqNil,closedL,allByte,patch,pendOK,numA,Value.cells,Value.oneCell',ibin,List.replicate,Option.elim,Nat.reduceAdd,Nat.reduceSub,Nat.reduceMul,Nat.reduceLT,Nat.reduceEqDiff,Nat.reduceLeDiff,Nat.reduceBEq,Int.reduceLE,Int.reduceLT,Int.reduceToNat,Int.reduceBNe,Int.reduceBEq,Int.reduceNeg,Int.reduceEq,Int.reduceNe,Nat.reduceBNe,Int.reduceAdd,Int.reduceSub,Int.reduceMul,Int.reducePow,Nat.reducePow,Int.reduceGT,Int.reduceGE,if_true,if_false,ite_true,ite_false,beq_self_eq_true,BEq.rfl,reduceCtorEq,eq_self,ne_eq,Function.comp_def,beq_iff_eq]
  rw [← hs3]
  simp only [c3, evf,↓evp,evq,evr,fxa0,fxa1,fxa2,fxa3,fxa4,fxu,fxn,fxl,↓fxp,lgc,absL,fitL,flatL,ares,ares1,ofVal,unSc,aload,afill,splice,abound,asI,elems,IntKind.bits,sortT,eqNil,closedL,allByte,patch,pendOK,numA,Value.cells,Value.oneCell',ibin,List.replicate,Option.elim,Nat.reduceAdd,Nat.reduceSub,Nat.reduceMul,Nat.reduceLT,Nat.reduceEqDiff,Nat.reduceLeDiff,Nat.reduceBEq,Int.reduceLE,Int.reduceLT,Int.reduceToNat,Int.reduceBNe,Int.reduceBEq,Int.reduceNeg,Int.reduceEq,Int.reduceNe,Nat.reduceBNe,Int.reduceAdd,Int.reduceSub,Int.reduceMul,Int.reducePow,Nat.reducePow,Int.reduceGT,Int.reduceGE,if_true,if_false,ite_true,ite_false,beq_self_eq_true,BEq.rfl,reduceCtorEq,eq_self,ne_eq,Function.comp_def,beq_iff_eq]
  refine w_All1 (n := n + 5) hb3.p.wd fun s4 g4 => ?_
  have c4 := g4 _ _ c3
  have e4 := g4 _ _ e3
  have hb4 := hb3.grw g4
  have cr := fun p q => cmp_rectN p q 0 0 WW HH 0 0 WW HH
  have eqr : eqR 0 0 WW HH 0 0 WW HH = true := by simp [eqR]
  have q4 := hb4.r.w
  have al4 := alen_rd hb4.r.re Try.underlying83
  simp only [rc, c3, e3, c4, e4, g4, cr, eqr, Bool.not_true, q4, al4, evf,↓evp,evq,evr,fxa0,fxa1,fxa2,fxa3,fxa4,fxu,fxn,fxl,↓fxp,lgc,absL,fitL,flatL,ares,ares1,ofVal,unSc,aload,afill,splice,abound,asI,elems,IntKind.bits,sortT,eqNil,closedL,allByte,patch,pendOK,numA,Value.cells,Value.oneCell',ibin,List.replicate,Option.elim,Nat.reduceAdd,Nat.reduceSub,Nat.reduceMul,Nat.reduceLT,Nat.reduceEqDiff,Nat.reduceLeDiff,Nat.reduceBEq,Int.reduceLE,Int.reduceLT,Int.reduceToNat,Int.reduceBNe,Int.reduceBEq,Int.reduceNeg,Int.reduceEq,Int.reduceNe,Nat.reduceBNe,Int.reduceAdd,Int.reduceSub,Int.reduceMul,Int.reducePow,Nat.reducePow,Int.reduceGT,Int.reduceGE,if_true,if_false,ite_true,ite_false,beq_self_eq_true,BEq.rfl,reduceCtorEq,eq_self,ne_eq,Function.comp_def,beq_iff_eq]
  refine w_Epoch1 (n := n + 5) hb4.p ?_
  simp only [rc, c3, e3, c4, e4, g4, cr, eqr, Bool.not_true, q4, al4, bne_self_eq_false, evf,↓evp,evq,evr,fxa0,fxa1,fxa2,fxa3,fxa4,fxu,fxn,fxl,↓fxp,lgc,absL,fitL,flatL,ares,ares1,ofVal,unSc,aload,afill,splice,abound,asI,elems,IntKind.bits,sortT,eqNil,closedL,allByte,patch,pendOK,numA,Value.cells,Value.oneCell',ibin,List.replicate,Option.elim,Nat.reduceAdd,Nat.reduceSub,Nat.reduceMul,Nat.reduceLT,Nat.reduceEqDiff,Nat.reduceLeDiff,Nat.reduceBEq,Int.reduceLE,Int.reduceLT,Int.reduceToNat,Int.reduceBNe,Int.reduceBEq,Int.reduceNeg,Int.reduceEq,Int.reduceNe,Nat.reduceBNe,Int.reduceAdd,Int.reduceSub,Int.reduceMul,Int.reducePow,Nat.reducePow,Int.reduceGT,Int.reduceGE,if_true,if_false,ite_true,ite_false,beq_self_eq_true,BEq.rfl,reduceCtorEq,eq_self,ne_eq,Function.comp_def,beq_iff_eq]
  refine w_Map1 (n := n) hb4.p hb4.rel hb4.srt hl hm hT fun tm bm s5 gt5 gb5 nt5 nb5 g5 => ?_
  have c5 := g5 _ _ c4
  have e5 := g5 _ _ e4
  have hb5 := hb4.grw g5
  have q5 := hb5.r.w
  simp only [mp, gt5.one.1, gt5.one.2, gb5.one.1, gb5.one.2, rc, c3, e3, c4, e4, c5, e5, g4, g5, cr, eqr, Bool.not_true, q4, q5, al4, bne_self_eq_false, evf,↓evp,evq,evr,fxa0,fxa1,fxa2,fxa3,fxa4,fxu,fxn,fxl,↓fxp,lgc,absL,fitL,flatL,ares,ares1,ofVal,unSc,aload,afill,splice,abound,asI,elems,IntKind.bits,sortT,eqNil,closedL,allByte,patch,pendOK,numA,Value.cells,Value.oneCell',ibin,List.replicate,Option.elim,Nat.reduceAdd,Nat.reduceSub,Nat.reduceMul,Nat.reduceLT,Nat.reduceEqDiff,Nat.reduceLeDiff,Nat.reduceBEq,Int.reduceLE,Int.reduceLT,Int.reduceToNat,Int.reduceBNe,Int.reduceBEq,Int.reduceNeg,Int.reduceEq,Int.reduceNe,Nat.reduceBNe,Int.reduceAdd,Int.reduceSub,Int.reduceMul,Int.reducePow,Nat.reducePow,Int.reduceGT,Int.reduceGE,if_true,if_false,ite_true,ite_false,beq_self_eq_true,BEq.rfl,reduceCtorEq,eq_self,ne_eq,Function.comp_def,beq_iff_eq]
  refine q_Map (n := n + 6) hb5.r hl hT fun tn bn s6 gt6 gb6 nt6 nb6 g6 => ?_
  have c6 := g6 _ _ c5
  have e6 := g6 _ _ e5
  have hb6 := hb5.grw g6
  simp only [mp, gt5.one.1, gt5.one.2, gb5.one.1, gb5.one.2, gt6.one.1, gt6.one.2, gb6.one.1, gb6.one.2, rc, c3, e3, c4, e4, c5, e5, c6, e6, g4, g5, g6, cr, eqr, Bool.not_true, q4, q5, al4, bne_self_eq_false, evf,↓evp,evq,evr,fxa0,fxa1,fxa2,fxa3,fxa4,fxu,fxn,fxl,↓fxp,lgc,absL,fitL,flatL,ares,ares1,ofVal,unSc,aload,afill,splice,abound,asI,elems,IntKind.bits,sortT,eqNil,closedL,allByte,patch,pendOK,numA,Value.cells,Value.oneCell',ibin,List.replicate,Option.elim,Nat.reduceAdd,Nat.reduceSub,Nat.reduceMul,Nat.reduceLT,Nat.reduceEqDiff,Nat.reduceLeDiff,Nat.reduceBEq,Int.reduceLE,Int.reduceLT,Int.reduceToNat,Int.reduceBNe,Int.reduceBEq,Int.reduceNeg,Int.reduceEq,Int.reduceNe,Nat.reduceBNe,Int.reduceAdd,Int.reduceSub,Int.reduceMul,Int.reducePow,Nat.reducePow,Int.reduceGT,Int.reduceGE,if_true,if_false,ite_true,ite_false,beq_self_eq_true,BEq.rfl,reduceCtorEq,eq_self,ne_eq,Function.comp_def,beq_iff_eq]
  have rT := fun {s : List Ob} {v : V} (h : Gl s 5 v (bs T) T.length) => h.rd (P := Try.prog) sz5 (by rw [bs_len]; omega)
  have rB := fun {s : List Ob} {v : V} (h : Gl s 90 v (L.flatMap B4.v) L.length) => h.rd (P := Try.prog) sz90 (flatMap_len (f := B4.v) (s := 5) (fun _ => rfl) _)
  refine q_Same (n := n + 6) (rT (gt5.grw g6)) (rT gt6) (rB (gb5.grw g6)) (rB gb6) gt5.one gt6.one gb5.one gb6.one hl hm fun s7 g7 => ?_
  have c7 := g7 _ _ c6
  have e7 := g7 _ _ e6
  have hb7 := hb6.grw g7
  simp only [mp, gt5.one.1, gt5.one.2, gb5.one.1, gb5.one.2, gt6.one.1, gt6.one.2, gb6.one.1, gb6.one.2, rc, c3, e3, c4, e4, c5, e5, c6, e6, c7, e7, g4, g5, g6, g7, cr, eqr, Bool.not_true, q4, q5, al4, bne_self_eq_false, evf,↓evp,evq,evr,fxa0,fxa1,fxa2,fxa3,fxa4,fxu,fxn,fxl,↓fxp,lgc,absL,fitL,flatL,ares,ares1,ofVal,unSc,aload,afill,splice,abound,asI,elems,IntKind.bits,sortT,eqNil,closedL,allByte,patch,pendOK,numA,Value.cells,Value.oneCell',ibin,List.replicate,Option.elim,Nat.reduceAdd,Nat.reduceSub,Nat.reduceMul,Nat.reduceLT,Nat.reduceEqDiff,Nat.reduceLeDiff,Nat.reduceBEq,Int.reduceLE,Int.reduceLT,Int.reduceToNat,Int.reduceBNe,Int.reduceBEq,Int.reduceNeg,Int.reduceEq,Int.reduceNe,Nat.reduceBNe,Int.reduceAdd,Int.reduceSub,Int.reduceMul,Int.reducePow,Nat.reducePow,Int.reduceGT,Int.reduceGE,if_true,if_false,ite_true,ite_false,beq_self_eq_true,BEq.rfl,reduceCtorEq,eq_self,ne_eq,Function.comp_def,beq_iff_eq]
  refine w_BldF (n := n + 6) ?_
  obtain ⟨s8, hs8⟩ : ∃ s8, s8 = s7 ++ [Ob.cells [.ref wd 0]] := ⟨_, rfl⟩
  have g8 : Grw s7 s8 := by rw [hs8]; exact .push _ _
  have c8 := g8 _ _ c7
  have e8 := g8 _ _ e7
  rw [← hs8]
  simp only [mp, gt5.one.1, gt5.one.2, gb5.one.1, gb5.one.2, gt6.one.1, gt6.one.2, gb6.one.1, gb6.one.2, rc, c3, e3, c4, e4, c5, e5, c6, e6, c7, e7, c8, e8, g4, g5, g6, g7, g8, cr, eqr, Bool.not_true, q4, q5, al4, bne_self_eq_false, evf,↓evp,evq,evr,fxa0,fxa1,fxa2,fxa3,fxa4,fxu,fxn,fxl,↓fxp,lgc,absL,fitL,flatL,ares,ares1,ofVal,unSc,aload,afill,splice,abound,asI,elems,IntKind.bits,sortT,eqNil,closedL,allByte,patch,pendOK,numA,Value.cells,Value.oneCell',ibin,List.replicate,Option.elim,Nat.reduceAdd,Nat.reduceSub,Nat.reduceMul,Nat.reduceLT,Nat.reduceEqDiff,Nat.reduceLeDiff,Nat.reduceBEq,Int.reduceLE,Int.reduceLT,Int.reduceToNat,Int.reduceBNe,Int.reduceBEq,Int.reduceNeg,Int.reduceEq,Int.reduceNe,Nat.reduceBNe,Int.reduceAdd,Int.reduceSub,Int.reduceMul,Int.reducePow,Nat.reducePow,Int.reduceGT,Int.reduceGE,if_true,if_false,ite_true,ite_false,beq_self_eq_true,BEq.rfl,reduceCtorEq,eq_self,ne_eq,Function.comp_def,beq_iff_eq]
  obtain ⟨s9, hs9⟩ : ∃ s9, s9 = s8 ++ [Ob.cells [.sc (.int .i64 0)]] := ⟨_, rfl⟩
  have g9 : Grw s8 s9 := by rw [hs9]; exact .push _ _
  have c9 := g9 _ _ c8
  have n9 : s9[s8.length]? = some (.cells [.sc (.int .i64 0)]) := by rw [hs9]; exact get_new0 _ _
  have hb9 := (hb7.grw g8).grw g9
  rw [← hs9]
  simp only [c9, evf,↓evp,evq,evr,fxa0,fxa1,fxa2,fxa3,fxa4,fxu,fxn,fxl,↓fxp,lgc,absL,fitL,flatL,ares,ares1,ofVal,unSc,aload,afill,splice,abound,asI,elems,IntKind.bits,sortT,eqNil,closedL,allByte,patch,pendOK,numA,Value.cells,Value.oneCell',ibin,List.replicate,Option.elim,Nat.reduceAdd,Nat.reduceSub,Nat.reduceMul,Nat.reduceLT,Nat.reduceEqDiff,Nat.reduceLeDiff,Nat.reduceBEq,Int.reduceLE,Int.reduceLT,Int.reduceToNat,Int.reduceBNe,Int.reduceBEq,Int.reduceNeg,Int.reduceEq,Int.reduceNe,Nat.reduceBNe,Int.reduceAdd,Int.reduceSub,Int.reduceMul,Int.reducePow,Nat.reducePow,Int.reduceGT,Int.reduceGE,if_true,if_false,ite_true,ite_false,beq_self_eq_true,BEq.rfl,reduceCtorEq,eq_self,ne_eq,Function.comp_def,beq_iff_eq]
  refine w_BldF (n := n + 6) ?_
  obtain ⟨sa, hsa⟩ : ∃ sa, sa = s9 ++ [Ob.cells [.ref wd 0]] := ⟨_, rfl⟩
  have ga : Grw s9 sa := by rw [hsa]; exact .push _ _
  have ca := ga _ _ c9
  have na := ga _ _ n9
  have va : sa[s9.length]? = some (.cells [.ref wd 0]) := by rw [hsa]; exact get_new0 _ _
  have hba := hb9.grw ga
  rw [← hsa]
  simp only [evf,↓evp,evq,evr,fxa0,fxa1,fxa2,fxa3,fxa4,fxu,fxn,fxl,↓fxp,lgc,absL,fitL,flatL,ares,ares1,ofVal,unSc,aload,afill,splice,abound,asI,elems,IntKind.bits,sortT,eqNil,closedL,allByte,patch,pendOK,numA,Value.cells,Value.oneCell',ibin,List.replicate,Option.elim,Nat.reduceAdd,Nat.reduceSub,Nat.reduceMul,Nat.reduceLT,Nat.reduceEqDiff,Nat.reduceLeDiff,Nat.reduceBEq,Int.reduceLE,Int.reduceLT,Int.reduceToNat,Int.reduceBNe,Int.reduceBEq,Int.reduceNeg,Int.reduceEq,Int.reduceNe,Nat.reduceBNe,Int.reduceAdd,Int.reduceSub,Int.reduceMul,Int.reducePow,Nat.reducePow,Int.reduceGT,Int.reduceGE,if_true,if_false,ite_true,ite_false,beq_self_eq_true,BEq.rfl,reduceCtorEq,eq_self,ne_eq,Function.comp_def,beq_iff_eq]
  have gst : Grw st sa := (((((((((g1.trans g2).trans g3).trans g4).trans g5).trans g6).trans g7).trans g8).trans g9).trans ga)
  have da : sa[st.length + 1]? = some (.cells [.sc (.bool false)]) := ((((((((g2.trans g3).trans g4).trans g5).trans g6).trans g7).trans g8).trans g9).trans ga) _ _ d1
  have ls1 : s1.length ≤ s8.length := ((((((g2.trans g3).trans g4).trans g5).trans g6).trans g7).trans g8).le
  have ls9 : s9.length = s8.length + 1 := by rw [hs9]; simp
  have lsa : sa.length = s9.length + 1 := by rw [hsa]; simp
  generalize hS : (sa ++ [_]) = S
  have gS : Grw sa S := by rw [← hS]; exact .push _ _
  have lS : S.length = sa.length + 1 := by rw [← hS]; simp
  obtain ⟨F, ps, asg, body, hc, q1, q4', hl0⟩ : ∃ F ps asg body, frf (Try.f39.body.getD .skip) = some (ps, asg, body) ∧ F 1 = .ref st.length 0 ∧ F 4 = .ref s8.length 0 ∧ S[sa.length]? = some (.loop .ready none (pl 39) (ofF 76 F) ps.toList asg body) := by
    refine ⟨_, _, _, _, rfl, ?_, ?_, (by rw [← hS]; exact get_new0 sa _)⟩
    · simp only [evf, ne_eq, Nat.reduceEqDiff, Nat.reduceLT, not_false_eq_true]
    · simp only [evf, ne_eq, Nat.reduceEqDiff, Nat.reduceLT, not_false_eq_true]
  have gSt := gst.trans gS
  refine w_Blds (n := n + 3) (l := sa.length) (rb := s9.length) (J := fun _ => False)
    (I := fun r ro k s => s[r]? = some ro ∧ S.length ≤ r ∧ s[s8.length]? = some (.cells [.sc (.int .i64 k)]) ∧ s[sa.length]? = some (.loop .ready none (pl 39) (ofF 76 F) ps.toList asg body) ∧ s[st.length]? = some (.cells [.ref wd 0, .ref rd 0]) ∧ s[s9.length]? = some (.cells [.ref wd 0]) ∧ s[st.length + 1]? = some (.cells [.sc (.bool false)]) ∧ Grw st s)
    (hb.grw gSt).p.wd (gS _ _ va) hb.rel hb.srt hl hm ?_ ?_ ?_ ?_ (fun _ h => h.elim)
  · rintro r ro k s ⟨i1, i2, i3, i4, i5, i6, i7, i8⟩
    exact ⟨i6, (hb.grw i8).p.wd, i1⟩
  · intro r ro s g hr1 hr2
    exact ⟨hr2, hr1, g _ _ (gS _ _ na), g _ _ hl0, g _ _ (gS _ _ ca), g _ _ (gS _ _ va), g _ _ (gS _ _ da), gSt.trans g⟩
  · rintro r ro i hi s K' ⟨i1, i2, i3, i4, i5, i6, i7, i8⟩ hK1 _
    refine is_yl (n := n + 5) (t1 := st.length) (t4 := s8.length) (lid := sa.length) (F := F) (p := none) hc q1 q4' i5 i3 (hb.grw i8).r hi hl i4 ?_
    intro s' k1 k2 k3 k4
    exact hK1 _ ⟨k3 _ _ (by omega) (by omega) i1, i2, k1, k2, k3 _ _ (by omega) (by omega) i5, k3 _ _ (by omega) (by omega) i6, k3 _ _ (by omega) (by omega) i7, fun j o ho => by
      have lj : j < st.length := (List.getElem?_eq_some_iff.1 ho).1
      exact k3 _ _ (by omega) (by omega) (i8 _ _ ho)⟩
  · rintro r ro s ⟨i1, i2, i3, i4, i5, i6, i7, i8⟩
    refine rfEnd_normal i4 (by decide) ?_
    have lsl : sa.length < s.length := (List.getElem?_eq_some_iff.1 i4).1
    generalize hsz : s.set sa.length _ = sz
    have kz : ∀ j o, j ≠ sa.length → s[j]? = some o → sz[j]? = some o := fun j o hj ho => by rw [← hsz, List.getElem?_set_ne (Ne.symm hj)]; exact ho
    have z3 := kz _ _ (by omega) i3
    have z5 := kz _ _ (by omega) i5
    have z7 := kz _ _ (by omega) i7
    have gz : Grw st sz := fun j o ho => by
      have lj : j < st.length := (List.getElem?_eq_some_iff.1 ho).1
      exact kz _ _ (by omega) (i8 _ _ ho)
    have hyz := (hb.grw gz).r
    have wz := hyz.w
    have alz := alen_rd hyz.rb Try.underlying63
    have ez : ((L.length : Int) == L.length) = true := by simp
    have bz : ∀ o, (sz.set (st.length + 1) o)[st.length + 1]? = some o := fun o => get_set z7 o
    simp only [z3, z5, z7, q4', q1, wz, alz, ez, bz, beq_self_eq_true, evf,↓evp,evq,evr,fxa0,fxa1,fxa2,fxa3,fxa4,fxu,fxn,fxl,↓fxp,lgc,absL,fitL,flatL,ares,ares1,ofVal,unSc,aload,afill,splice,abound,asI,elems,IntKind.bits,sortT,eqNil,closedL,allByte,patch,pendOK,numA,Value.cells,Value.oneCell',ibin,List.replicate,Option.elim,Nat.reduceAdd,Nat.reduceSub,Nat.reduceMul,Nat.reduceLT,Nat.reduceEqDiff,Nat.reduceLeDiff,Nat.reduceBEq,Int.reduceLE,Int.reduceLT,Int.reduceToNat,Int.reduceBNe,Int.reduceBEq,Int.reduceNeg,Int.reduceEq,Int.reduceNe,Nat.reduceBNe,Int.reduceAdd,Int.reduceSub,Int.reduceMul,Int.reducePow,Nat.reducePow,Int.reduceGT,Int.reduceGE,if_true,if_false,ite_true,ite_false,beq_self_eq_true,BEq.rfl,reduceCtorEq,eq_self,ne_eq,Function.comp_def,beq_iff_eq]
    exact hK _ (gz.set (by omega) _)
end
end Go.Proofs.Ytndjhaeeldegfaa
