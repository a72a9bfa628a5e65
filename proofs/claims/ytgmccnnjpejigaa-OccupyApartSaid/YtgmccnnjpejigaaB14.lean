/- Chapter 5's reference: Put. -/
import Derived.Test.YtgmccnnjpejigaaB13
set_option linter.unusedVariables false
set_option linter.unusedSimpArgs false
set_option maxRecDepth 10000
namespace Go.Proofs.Ytgmccnnjpejigaa
open Go Go.M Go.RowKit
attribute [local congr] acallF_cong aloop_cong bcase_cong resK_cong valK_cong wantK_cong callK_cong xputK_cong qputK_cong resM_cong rfK_cong
attribute [local irreducible] seqK blockK loopK nextK bcase resK valK wantK funK putK dputK xputK qputK callK aops aop acode adraw aloop acallF acall invK resM rfK rfEnd rdEnd rdMid around
/-- Where a unit is to go. -/
def atI' (id : Int) : List U → Nat
  | [] => 0
  | u :: L => if u.id < id then atI' id L + 1 else 0
theorem atI'_le (id : Int) : ∀ L : List U, atI' id L ≤ L.length
  | [] => Nat.le_refl _
  | u :: L => by
    simp only [atI', List.length_cons]
    have := atI'_le id L
    split <;> omega
theorem atI'_lt (id : Int) : ∀ (L : List U) (i : Nat) (h : i < L.length), (∀ j (h : j < i), L[j].id < id) → (L[i].id < id ↔ i < atI' id L)
  | [], i, h, _ => by simp at h
  | u :: L, 0, h, _ => by
    simp only [List.getElem_cons_zero, atI']
    split <;> simp_all
  | u :: L, i + 1, h, k => by
    have h0 := k 0 (by omega)
    simp only [List.getElem_cons_zero] at h0
    simp only [List.getElem_cons_succ, atI', h0, if_true]
    rw [atI'_lt id L i (by simpa using h) fun j hj => by have := k (j + 1) (by omega); simpa using this]
    omega
def insU (u : U) (L : List U) : List U := L.take (atI' u.id L) ++ u :: L.drop (atI' u.id L)
theorem flat_take (L : List U) (k : Nat) : (L.flatMap U.v).take (k * 5) = (L.take k).flatMap U.v := by
  induction L generalizing k with
  | nil => simp
  | cons u L ih =>
    cases k with
    | zero => simp
    | succ k =>
      have := ih k
      simp only [List.flatMap_cons, List.take_succ_cons, U.v, rc, List.cons_append, List.nil_append, Nat.succ_mul, this]
theorem closed_us : ∀ L : List U, closedL (L.flatMap U.v) = true
  | [] => rfl
  | u :: L => by
    have := closed_us L
    simp only [List.flatMap_cons, U.v, rc, List.cons_append, List.nil_append, closedL, closed, Bool.true_and]
    exact this
theorem slice_start {P : Program} {st : List Ob} {e t : TypeId} {v : V} {xs : List V} {n : Nat} (h : Cut P st e v xs n) (ht : P.underlying t = some (.slice e)) {s : Nat} (hs : szOf P e = some s) {hi : Nat} (h1 : hi ≤ n) :
    ∃ v', aslice P st t v none (some (.sc (.int .i64 hi))) none = some v' ∧ Cut P st e v' (xs.take (hi * s)) hi := by
  obtain ⟨v', k1, k2⟩ := slice_mid h ht hs (Nat.zero_le hi) h1
  rw [Nat.zero_mul, List.drop_zero, Nat.sub_zero] at k2
  refine ⟨v', ?_, k2⟩
  rw [← k1]
  rcases h.1.cases with ⟨nil, full, rfl⟩ | ⟨id, off, full, gg, ys, m, l0, fz, s', rfl, _, _, _, _⟩
  · simp only [aslice, abound_nat _ _ _ _ h1]; rfl
  · simp only [aslice, abound_nat _ _ _ _ h1]; rfl
theorem aslice_grw {P : Program} {s s' : List Ob} {t : TypeId} {v r : V} {lo hi mx : Option V} (k : Grw s s') (h : aslice P s t v lo hi mx = some r) : aslice P s' t v lo hi mx = some r := by
  cases v with
  | sl id off n full gg =>
    rw [aslice_sl] at h ⊢
    split at h
    · split at h
      · rename_i h1 h2
        rw [k _ _ h1]
        simp only [h2]
        exact h
      · cases h
    · cases h
  | tsl xs n nil full => rw [aslice_tsl] at h ⊢; exact h
  | sc x =>
    cases x with
    | string b => rw [aslice_str] at h ⊢; exact h
    | _ => exact h
  | _ => exact h
/-- An append to a row of one's own. -/
theorem own_app {P : Program} {s : List Ob} {e t : TypeId} {A zs : List V} {a k : Nat} {o : Ob} {x : V} (ht : P.underlying t = some (.slice e)) {sz by_ : Nat} {z : Value} (hs : szOf P e = some sz) (hb : bytesOf P e = some by_) (hz : zeroOf P e = some z) (h0 : 0 < sz) (hzs : z.cells.size = sz)
    (hx : elems P (s ++ [.row e A a 0 false, o]) e x = some (zs, k)) (hc : closedL zs = true) (hl : zs.length = k * sz) (h1 : (a + k) * by_ ≤ 140737488355328) (h2 : a + k ≤ 9223372036854775807) :
    aappend P (s ++ [.row e A a 0 false, o]) t (.sl s.length 0 a false a) x = some (.sl s.length 0 (a + k) false (a + k), s ++ [.row e (A ++ zs) (a + k) 0 false, o]) := by
  have := append_own (st := s ++ [.row e A a 0 false, o]) (id := s.length) (get_new0 _ _) (Nat.zero_le _) ht hs hb hz h0 hzs hx hc hl h1 h2
  rw [this, M.set_new0]
  rfl
section
variable {n m : Nat} {st s : List Ob} {K : V → List Ob → Prop} {x y w h id : Int} {sv : V} {L : List U} {iy : Nat}
set_option maxHeartbeats 2000000 in
theorem r_Put (hy : Ri st iy sv L) (hm : L.length < m) (hl : L.length < 1000000)
    (h1 : (mayB x y w h = false ∨ w > 4 ∨ h > 4) → ∀ s, Grw st s → K (.sc (.int .i64 1)) s)
    (h8 : mayB x y w h = true → w ≤ 4 → h ≤ 4 → placeI id L 0 ≥ 0 → ∀ s, Grw st s → K (.sc (.int .i64 8)) s)
    (h2 : mayB x y w h = true → w ≤ 4 → h ≤ 4 → placeI id L 0 < 0 → 256 ≤ L.length → ∀ s, Grw st s → K (.sc (.int .i64 2)) s)
    (h6 : mayB x y w h = true → w ≤ 4 → h ≤ 4 → placeI id L 0 < 0 → L.length < 256 → L.any (meetsR x y w h) = true → ∀ s, Grw st s → K (.sc (.int .i64 6)) s)
    (h0 : mayB x y w h = true → w ≤ 4 → h ≤ 4 → placeI id L 0 < 0 → L.length < 256 → L.any (meetsR x y w h) = false → ∀ sv' s, Ri s iy sv' (insU ⟨id, x, y, w, h⟩ L) → (∀ j o, j ≠ iy → st[j]? = some o → s[j]? = some o) → K (.sc (.int .i64 0)) s) :
    acallF Try.prog pl (n + 7) m 56 [.ref iy 0, .sc (.int .i64 id), .agg (rc x y w h)] st K := by
  refine acallF_inF Try.func56 rfl rfl Try.ntmps56 (by simp) ?_
  have g0 := Grw.push st [.cells (rc x y w h)]
  have c0 : (st ++ [Ob.cells (rc x y w h)])[st.length]? = some (.cells (rc x y w h)) := get_new _ _ 0
  simp only [rc] at g0 c0
  simp only [rc, c0, evf,↓evp,evq,evr,fxa0,fxa1,fxa2,fxa3,fxa4,fxu,fxn,fxl,↓fxp,lgc,absL,fitL,flatL,ares,ares1,ofVal,unSc,aload,afill,splice,abound,asI,elems,IntKind.bits,sortT,eqNil,closedL,allByte,patch,pendOK,numA,Value.cells,Value.oneCell',ibin,List.replicate,Option.elim,Nat.reduceAdd,Nat.reduceSub,Nat.reduceMul,Nat.reduceLT,Nat.reduceEqDiff,Nat.reduceLeDiff,Nat.reduceBEq,Int.reduceLE,Int.reduceLT,Int.reduceToNat,Int.reduceBNe,Int.reduceBEq,Int.reduceNeg,Int.reduceEq,Int.reduceNe,Nat.reduceBNe,Int.reduceAdd,Int.reduceSub,Int.reduceMul,Int.reducePow,Nat.reducePow,Int.reduceGT,Int.reduceGE,if_true,if_false,ite_true,ite_false,beq_self_eq_true,BEq.rfl,reduceCtorEq,eq_self,ne_eq,Function.comp_def,beq_iff_eq]
  refine r_May (n := n + 3) fun s1 j1 => ?_
  have c1 := j1 _ _ c0
  have g1 := g0.trans j1
  cases e1 : mayB x y w h
  · simp only [c1, evf,↓evp,evq,evr,fxa0,fxa1,fxa2,fxa3,fxa4,fxu,fxn,fxl,↓fxp,lgc,absL,fitL,flatL,ares,ares1,ofVal,unSc,aload,afill,splice,abound,asI,elems,IntKind.bits,sortT,eqNil,closedL,allByte,patch,pendOK,numA,Value.cells,Value.oneCell',ibin,List.replicate,Option.elim,Nat.reduceAdd,Nat.reduceSub,Nat.reduceMul,Nat.reduceLT,Nat.reduceEqDiff,Nat.reduceLeDiff,Nat.reduceBEq,Int.reduceLE,Int.reduceLT,Int.reduceToNat,Int.reduceBNe,Int.reduceBEq,Int.reduceNeg,Int.reduceEq,Int.reduceNe,Nat.reduceBNe,Int.reduceAdd,Int.reduceSub,Int.reduceMul,Int.reducePow,Nat.reducePow,Int.reduceGT,Int.reduceGE,if_true,if_false,ite_true,ite_false,beq_self_eq_true,BEq.rfl,reduceCtorEq,eq_self,ne_eq,Function.comp_def,beq_iff_eq]
    exact h1 (.inl e1) _ g1
  cases e2 : decide (w > 4)
  case true =>
    simp only [c1, e2, evf,↓evp,evq,evr,fxa0,fxa1,fxa2,fxa3,fxa4,fxu,fxn,fxl,↓fxp,lgc,absL,fitL,flatL,ares,ares1,ofVal,unSc,aload,afill,splice,abound,asI,elems,IntKind.bits,sortT,eqNil,closedL,allByte,patch,pendOK,numA,Value.cells,Value.oneCell',ibin,List.replicate,Option.elim,Nat.reduceAdd,Nat.reduceSub,Nat.reduceMul,Nat.reduceLT,Nat.reduceEqDiff,Nat.reduceLeDiff,Nat.reduceBEq,Int.reduceLE,Int.reduceLT,Int.reduceToNat,Int.reduceBNe,Int.reduceBEq,Int.reduceNeg,Int.reduceEq,Int.reduceNe,Nat.reduceBNe,Int.reduceAdd,Int.reduceSub,Int.reduceMul,Int.reducePow,Nat.reducePow,Int.reduceGT,Int.reduceGE,if_true,if_false,ite_true,ite_false,beq_self_eq_true,BEq.rfl,reduceCtorEq,eq_self,ne_eq,Function.comp_def,beq_iff_eq]
    exact h1 (.inr (.inl (of_decide_eq_true e2))) _ g1
  cases e3 : decide (h > 4)
  case true =>
    simp only [c1, e2, e3, evf,↓evp,evq,evr,fxa0,fxa1,fxa2,fxa3,fxa4,fxu,fxn,fxl,↓fxp,lgc,absL,fitL,flatL,ares,ares1,ofVal,unSc,aload,afill,splice,abound,asI,elems,IntKind.bits,sortT,eqNil,closedL,allByte,patch,pendOK,numA,Value.cells,Value.oneCell',ibin,List.replicate,Option.elim,Nat.reduceAdd,Nat.reduceSub,Nat.reduceMul,Nat.reduceLT,Nat.reduceEqDiff,Nat.reduceLeDiff,Nat.reduceBEq,Int.reduceLE,Int.reduceLT,Int.reduceToNat,Int.reduceBNe,Int.reduceBEq,Int.reduceNeg,Int.reduceEq,Int.reduceNe,Nat.reduceBNe,Int.reduceAdd,Int.reduceSub,Int.reduceMul,Int.reducePow,Nat.reducePow,Int.reduceGT,Int.reduceGE,if_true,if_false,ite_true,ite_false,beq_self_eq_true,BEq.rfl,reduceCtorEq,eq_self,ne_eq,Function.comp_def,beq_iff_eq]
    exact h1 (.inr (.inr (of_decide_eq_true e3))) _ g1
  have w4 : w ≤ 4 := by have := of_decide_eq_false e2; omega
  have h4 : h ≤ 4 := by have := of_decide_eq_false e3; omega
  simp only [c1, e2, e3, evf,↓evp,evq,evr,fxa0,fxa1,fxa2,fxa3,fxa4,fxu,fxn,fxl,↓fxp,lgc,absL,fitL,flatL,ares,ares1,ofVal,unSc,aload,afill,splice,abound,asI,elems,IntKind.bits,sortT,eqNil,closedL,allByte,patch,pendOK,numA,Value.cells,Value.oneCell',ibin,List.replicate,Option.elim,Nat.reduceAdd,Nat.reduceSub,Nat.reduceMul,Nat.reduceLT,Nat.reduceEqDiff,Nat.reduceLeDiff,Nat.reduceBEq,Int.reduceLE,Int.reduceLT,Int.reduceToNat,Int.reduceBNe,Int.reduceBEq,Int.reduceNeg,Int.reduceEq,Int.reduceNe,Nat.reduceBNe,Int.reduceAdd,Int.reduceSub,Int.reduceMul,Int.reducePow,Nat.reducePow,Int.reduceGT,Int.reduceGE,if_true,if_false,ite_true,ite_false,beq_self_eq_true,BEq.rfl,reduceCtorEq,eq_self,ne_eq,Function.comp_def,beq_iff_eq]
  have hy1 := hy.grw g1
  refine r_place (n := n + 5) hy1 hm hl ?_
  cases e4 : decide (placeI id L 0 ≥ 0)
  case true =>
    simp only [c1, e4, evf,↓evp,evq,evr,fxa0,fxa1,fxa2,fxa3,fxa4,fxu,fxn,fxl,↓fxp,lgc,absL,fitL,flatL,ares,ares1,ofVal,unSc,aload,afill,splice,abound,asI,elems,IntKind.bits,sortT,eqNil,closedL,allByte,patch,pendOK,numA,Value.cells,Value.oneCell',ibin,List.replicate,Option.elim,Nat.reduceAdd,Nat.reduceSub,Nat.reduceMul,Nat.reduceLT,Nat.reduceEqDiff,Nat.reduceLeDiff,Nat.reduceBEq,Int.reduceLE,Int.reduceLT,Int.reduceToNat,Int.reduceBNe,Int.reduceBEq,Int.reduceNeg,Int.reduceEq,Int.reduceNe,Nat.reduceBNe,Int.reduceAdd,Int.reduceSub,Int.reduceMul,Int.reducePow,Nat.reducePow,Int.reduceGT,Int.reduceGE,if_true,if_false,ite_true,ite_false,beq_self_eq_true,BEq.rfl,reduceCtorEq,eq_self,ne_eq,Function.comp_def,beq_iff_eq]
    exact h8 e1 w4 h4 (of_decide_eq_true e4) _ g1
  have p4 : placeI id L 0 < 0 := by have := of_decide_eq_false e4; omega
  have y1 := hy1.at_
  have hal := alen_rd hy1.rd.1 Try.underlying27
  cases e5 : decide ((L.length : Int) ≥ 256)
  case true =>
    simp only [c1, y1, hal, e4, e5, evf,↓evp,evq,evr,fxa0,fxa1,fxa2,fxa3,fxa4,fxu,fxn,fxl,↓fxp,lgc,absL,fitL,flatL,ares,ares1,ofVal,unSc,aload,afill,splice,abound,asI,elems,IntKind.bits,sortT,eqNil,closedL,allByte,patch,pendOK,numA,Value.cells,Value.oneCell',ibin,List.replicate,Option.elim,Nat.reduceAdd,Nat.reduceSub,Nat.reduceMul,Nat.reduceLT,Nat.reduceEqDiff,Nat.reduceLeDiff,Nat.reduceBEq,Int.reduceLE,Int.reduceLT,Int.reduceToNat,Int.reduceBNe,Int.reduceBEq,Int.reduceNeg,Int.reduceEq,Int.reduceNe,Nat.reduceBNe,Int.reduceAdd,Int.reduceSub,Int.reduceMul,Int.reducePow,Nat.reducePow,Int.reduceGT,Int.reduceGE,if_true,if_false,ite_true,ite_false,beq_self_eq_true,BEq.rfl,reduceCtorEq,eq_self,ne_eq,Function.comp_def,beq_iff_eq]
    exact h2 e1 w4 h4 p4 (by have := of_decide_eq_true e5; omega) _ g1
  have p5 : L.length < 256 := by have := of_decide_eq_false e5; omega
  simp only [c1, y1, hal, e4, e5, evf,↓evp,evq,evr,fxa0,fxa1,fxa2,fxa3,fxa4,fxu,fxn,fxl,↓fxp,lgc,absL,fitL,flatL,ares,ares1,ofVal,unSc,aload,afill,splice,abound,asI,elems,IntKind.bits,sortT,eqNil,closedL,allByte,patch,pendOK,numA,Value.cells,Value.oneCell',ibin,List.replicate,Option.elim,Nat.reduceAdd,Nat.reduceSub,Nat.reduceMul,Nat.reduceLT,Nat.reduceEqDiff,Nat.reduceLeDiff,Nat.reduceBEq,Int.reduceLE,Int.reduceLT,Int.reduceToNat,Int.reduceBNe,Int.reduceBEq,Int.reduceNeg,Int.reduceEq,Int.reduceNe,Nat.reduceBNe,Int.reduceAdd,Int.reduceSub,Int.reduceMul,Int.reducePow,Nat.reducePow,Int.reduceGT,Int.reduceGE,if_true,if_false,ite_true,ite_false,beq_self_eq_true,BEq.rfl,reduceCtorEq,eq_self,ne_eq,Function.comp_def,beq_iff_eq]
  refine r_anybody (n := n) hy1 hm hl fun s2 j2 => ?_
  have c2 := j2 _ _ c1
  have g2 := g1.trans j2
  cases e6 : L.any (meetsR x y w h)
  case true =>
    simp only [evf,↓evp,evq,evr,fxa0,fxa1,fxa2,fxa3,fxa4,fxu,fxn,fxl,↓fxp,lgc,absL,fitL,flatL,ares,ares1,ofVal,unSc,aload,afill,splice,abound,asI,elems,IntKind.bits,sortT,eqNil,closedL,allByte,patch,pendOK,numA,Value.cells,Value.oneCell',ibin,List.replicate,Option.elim,Nat.reduceAdd,Nat.reduceSub,Nat.reduceMul,Nat.reduceLT,Nat.reduceEqDiff,Nat.reduceLeDiff,Nat.reduceBEq,Int.reduceLE,Int.reduceLT,Int.reduceToNat,Int.reduceBNe,Int.reduceBEq,Int.reduceNeg,Int.reduceEq,Int.reduceNe,Nat.reduceBNe,Int.reduceAdd,Int.reduceSub,Int.reduceMul,Int.reducePow,Nat.reducePow,Int.reduceGT,Int.reduceGE,if_true,if_false,ite_true,ite_false,beq_self_eq_true,BEq.rfl,reduceCtorEq,eq_self,ne_eq,Function.comp_def,beq_iff_eq]
    exact h6 e1 w4 h4 p4 p5 e6 _ g2
  simp only [evf,↓evp,evq,evr,fxa0,fxa1,fxa2,fxa3,fxa4,fxu,fxn,fxl,↓fxp,lgc,absL,fitL,flatL,ares,ares1,ofVal,unSc,aload,afill,splice,abound,asI,elems,IntKind.bits,sortT,eqNil,closedL,allByte,patch,pendOK,numA,Value.cells,Value.oneCell',ibin,List.replicate,Option.elim,Nat.reduceAdd,Nat.reduceSub,Nat.reduceMul,Nat.reduceLT,Nat.reduceEqDiff,Nat.reduceLeDiff,Nat.reduceBEq,Int.reduceLE,Int.reduceLT,Int.reduceToNat,Int.reduceBNe,Int.reduceBEq,Int.reduceNeg,Int.reduceEq,Int.reduceNe,Nat.reduceBNe,Int.reduceAdd,Int.reduceSub,Int.reduceMul,Int.reducePow,Nat.reducePow,Int.reduceGT,Int.reduceGE,if_true,if_false,ite_true,ite_false,beq_self_eq_true,BEq.rfl,reduceCtorEq,eq_self,ne_eq,Function.comp_def,beq_iff_eq]
  refine aloop_forF (fun k f s => s = s2 ∧ ∃ i : Nat, k + i = m ∧ i ≤ atI' id L ∧ (∀ j (h : j < L.length), j < i → L[j].id < id) ∧ f 0 = .ref iy 0 ∧ f 1 = .sc (.int .i64 id) ∧ f 5 = .ref st.length 0 ∧ f 7 = .sc (.int .i64 i)) ⟨rfl, 0, by omega, by omega, fun j _ h => by omega, by simp only [evf, ne_eq, Nat.reduceEqDiff, Nat.reduceLT, not_false_eq_true], by simp only [evf, ne_eq, Nat.reduceEqDiff, Nat.reduceLT, not_false_eq_true], by simp only [evf, ne_eq, Nat.reduceEqDiff, Nat.reduceLT, not_false_eq_true], by simp only [evf, ne_eq, Nat.reduceEqDiff, Nat.reduceLT, not_false_eq_true]; rfl⟩ ?_
  rintro I' hI' k f s ⟨rfl, i, hk, hi, hp, f0, f1, f5, f7⟩
  have hle := atI'_le id L
  refine ⟨k - 1, by omega, ?_⟩
  have hy2 := hy1.grw j2
  have y2 := hy2.at_
  have hv := hy2.rd.1
  have hal2 := alen_rd hv Try.underlying27
  have e9 : IntKind.i64.wrap ((i : Int) + 1) = ((i + 1 : Nat) : Int) := by rw [IntWalk.i64_in _ (by omega)]; rfl
  have next : ∀ hil : i < L.length, L[i].id < id → i < atI' id L := fun hil h => (atI'_lt id L i hil fun j hj => hp j (by omega) hj).1 h
  have stop : (i = L.length ∨ ∃ hil : i < L.length, ¬ L[i].id < id) → i = atI' id L := by
    rintro (h | ⟨hil, h⟩)
    · omega
    · have := (atI'_lt id L i hil fun j hj => hp j (by omega) hj)
      omega
  have y3 : ∀ X, (s ++ X)[iy]? = some (.cells [sv]) := fun X => Grw.push s X _ _ y2
  have c3 := fun X => Grw.push s X _ _ c2
  obtain ⟨va, ka, na⟩ := slice_start hy2.rd Try.underlying27 sz48 (atI'_le id L)
  obtain ⟨vb, kb, nb⟩ := slice_end hy2.rd Try.underlying27 sz48 (atI'_le id L)
  have ka' := fun X => aslice_grw (Grw.push s X) ka
  have kb' := fun X => aslice_grw (Grw.push s X) kb
  have a1 := own_app (A := []) (a := 0) (o := Ob.gone) Try.underlying27 sz48 by48 ze48 (by omega) rfl (na.1.grw (.push s _)).1 (by rw [flat_take]; exact closed_us _) (na.1.2.2 _ sz48) (by omega) (by omega)
  have a2 := own_app (s := s) (P := Try.prog) (A := [] ++ (L.flatMap U.v).take (atI' id L * 5)) (a := 0 + atI' id L) (o := Ob.row 48 (U.v ⟨id, x, y, w, h⟩) 1 0 false) (zs := U.v ⟨id, x, y, w, h⟩) (k := 1) (x := .sl (s.length + 1) 0 1 false 1) Try.underlying27 sz48 by48 ze48 (by omega) rfl (by simp only [elems, get_new, sz48]; rfl) rfl rfl (by omega) (by omega)
  have a3 := own_app (s := s) (P := Try.prog) (A := (L.flatMap U.v).take (atI' id L * 5) ++ U.v ⟨id, x, y, w, h⟩) (a := atI' id L + 1) (o := Ob.row 48 (U.v ⟨id, x, y, w, h⟩) 1 0 false) Try.underlying27 sz48 by48 ze48 (by omega) rfl (nb.1.grw (.push s _)).1 (by rw [flatMap_drop (f := U.v) (s := 5) fun _ => rfl]; exact closed_us _) (nb.1.2.2 _ sz48) (by omega) (by omega)
  simp only [Nat.zero_add, List.nil_append, U.v, rc] at a1 a2 a3
  have hiy : iy < s.length := (List.getElem?_eq_some_iff.1 y2).1
  have so : ∀ X o, (s ++ X).set iy o = s.set iy o ++ X := fun X o => M.set_old hiy X o
  have q1 : ∀ o X, (s.set iy o ++ X)[s.length]? = X[0]? := fun o X => by have := get_new0 (s.set iy o) X; rwa [List.length_set] at this
  have q2 : ∀ o X, (s.set iy o ++ X)[s.length + 1]? = X[1]? := fun o X => by have := get_new (s.set iy o) X 1; rwa [List.length_set] at this
  have last : i = atI' id L → ∀ S, S = s.set iy (Ob.cells [V.sl s.length 0 (atI' id L + 1 + (L.length - atI' id L)) false (atI' id L + 1 + (L.length - atI' id L))]) ++ [Ob.row 48 ((L.flatMap U.v).take (atI' id L * 5) ++ V.sc (.int .i64 id) :: V.sc (.int .i64 x) :: V.sc (.int .i64 y) :: V.sc (.int .i64 w) :: V.sc (.int .i64 h) :: (L.flatMap U.v).drop (atI' id L * 5)) (atI' id L + 1 + (L.length - atI' id L)) 0 false, Ob.row 48 [V.sc (.int .i64 id), V.sc (.int .i64 x), V.sc (.int .i64 y), V.sc (.int .i64 w), V.sc (.int .i64 h)] 1 0 false] → K (.sc (.int .i64 0)) S := by
    rintro rfl S rfl
    have hlen : (insU ⟨id, x, y, w, h⟩ L).length = atI' id L + 1 + (L.length - atI' id L) := by simp only [insU, List.length_append, List.length_take, List.length_cons, List.length_drop]; omega
    have hfl : (insU ⟨id, x, y, w, h⟩ L).flatMap U.v = (L.flatMap U.v).take (atI' id L * 5) ++ V.sc (.int .i64 id) :: V.sc (.int .i64 x) :: V.sc (.int .i64 y) :: V.sc (.int .i64 w) :: V.sc (.int .i64 h) :: (L.flatMap U.v).drop (atI' id L * 5) := by
      simp only [insU, List.flatMap_append, List.flatMap_cons, U.v, rc, List.cons_append, List.nil_append]
      rw [show (L.flatMap U.v).drop (atI' id L * 5) = (L.drop (atI' id L)).flatMap U.v from flatMap_drop (f := U.v) (s := 5) (fun _ => rfl) _ _, flat_take]
    refine h0 e1 w4 h4 p4 p5 e6 (.sl s.length 0 (atI' id L + 1 + (L.length - atI' id L)) false (atI' id L + 1 + (L.length - atI' id L))) _ ⟨?_, ?_⟩ ?_
    · rw [List.getElem?_append_left (by rw [List.length_set]; exact hiy), List.getElem?_set_self hiy]
    · rw [hlen, hfl]
      refine ⟨⟨?_, ⟨fun b hb => (by cases hb), fun hh => by cases hh⟩, fun s' hs' => ?_⟩, .inr ⟨_, _, _, _, rfl⟩, fun hh => by cases hh⟩
      · simp only [elems, q1, sz48, List.getElem?_cons_zero]
        rw [if_pos ⟨trivial, Nat.zero_le _, by omega⟩, Nat.zero_mul, List.drop_zero, ← hfl, ← hlen, ← flatMap_len (f := U.v) (s := 5) (fun _ => rfl), List.take_length]
      · rw [sz48] at hs'
        cases hs'
        rw [← hfl, ← hlen, flatMap_len (f := U.v) (s := 5) (fun _ => rfl)]
    · intro j o hj ho
      have := (g2 _ _ ho)
      have lj : j < s.length := (List.getElem?_eq_some_iff.1 this).1
      rw [List.getElem?_append_left (by rw [List.length_set]; exact lj), List.getElem?_set_ne (Ne.symm hj)]
      exact this
  by_cases hil : i < L.length
  · have d : decide ((i : Int) < L.length) = true := decide_eq_true (by omega)
    obtain ⟨p1, p2⟩ := ix_flat (f := U.v) (fun a => rfl) hv Try.underlying27 sz48 ag48 (by omega) hil
    obtain ⟨p3, p4⟩ := u_id hv hil
    cases q : decide (L[i].id < id)
    · obtain rfl := stop (.inr ⟨hil, of_decide_eq_false q⟩)
      simp only [f0, f1, f5, f7, y2, hal2, d, p1, p3, p4, q, y3, c3, ka', kb', a1, a2, a3, so, q1, q2, evf,↓evp,evq,evr,fxa0,fxa1,fxa2,fxa3,fxa4,fxu,fxn,fxl,↓fxp,lgc,absL,fitL,flatL,ares,ares1,ofVal,unSc,aload,afill,splice,abound,asI,elems,IntKind.bits,sortT,eqNil,closedL,allByte,patch,pendOK,numA,Value.cells,Value.oneCell',ibin,List.replicate,Option.elim,Nat.reduceAdd,Nat.reduceSub,Nat.reduceMul,Nat.reduceLT,Nat.reduceEqDiff,Nat.reduceLeDiff,Nat.reduceBEq,Int.reduceLE,Int.reduceLT,Int.reduceToNat,Int.reduceBNe,Int.reduceBEq,Int.reduceNeg,Int.reduceEq,Int.reduceNe,Nat.reduceBNe,Int.reduceAdd,Int.reduceSub,Int.reduceMul,Int.reducePow,Nat.reducePow,Int.reduceGT,Int.reduceGE,if_true,if_false,ite_true,ite_false,beq_self_eq_true,BEq.rfl,reduceCtorEq,eq_self,ne_eq,Function.comp_def,beq_iff_eq]
      exact last rfl _ rfl
    · simp only [f0, f1, f5, f7, y2, hal2, d, p1, p3, p4, q, e9, evf,↓evp,evq,evr,fxa0,fxa1,fxa2,fxa3,fxa4,fxu,fxn,fxl,↓fxp,lgc,absL,fitL,flatL,ares,ares1,ofVal,unSc,aload,afill,splice,abound,asI,elems,IntKind.bits,sortT,eqNil,closedL,allByte,patch,pendOK,numA,Value.cells,Value.oneCell',ibin,List.replicate,Option.elim,Nat.reduceAdd,Nat.reduceSub,Nat.reduceMul,Nat.reduceLT,Nat.reduceEqDiff,Nat.reduceLeDiff,Nat.reduceBEq,Int.reduceLE,Int.reduceLT,Int.reduceToNat,Int.reduceBNe,Int.reduceBEq,Int.reduceNeg,Int.reduceEq,Int.reduceNe,Nat.reduceBNe,Int.reduceAdd,Int.reduceSub,Int.reduceMul,Int.reducePow,Nat.reducePow,Int.reduceGT,Int.reduceGE,if_true,if_false,ite_true,ite_false,beq_self_eq_true,BEq.rfl,reduceCtorEq,eq_self,ne_eq,Function.comp_def,beq_iff_eq]
      have hn := next hil (of_decide_eq_true q)
      refine hI' _ _ _ ⟨rfl, i + 1, by omega, by omega, fun j h hj => ?_, by simp only [f0, evf, ne_eq, Nat.reduceEqDiff, Nat.reduceLT, not_false_eq_true], by simp only [f1, evf, ne_eq, Nat.reduceEqDiff, Nat.reduceLT, not_false_eq_true], by simp only [f5, evf, ne_eq, Nat.reduceEqDiff, Nat.reduceLT, not_false_eq_true], by simp only [evf, ne_eq, Nat.reduceEqDiff, Nat.reduceLT, not_false_eq_true]⟩
      by_cases hji : j = i
      · subst hji; exact of_decide_eq_true q
      · exact hp j h (by omega)
  · have d : decide ((i : Int) < L.length) = false := decide_eq_false (by omega)
    obtain rfl := stop (.inl (by omega))
    simp only [f0, f1, f5, f7, y2, hal2, d, y3, c3, ka', kb', a1, a2, a3, so, q1, q2, evf,↓evp,evq,evr,fxa0,fxa1,fxa2,fxa3,fxa4,fxu,fxn,fxl,↓fxp,lgc,absL,fitL,flatL,ares,ares1,ofVal,unSc,aload,afill,splice,abound,asI,elems,IntKind.bits,sortT,eqNil,closedL,allByte,patch,pendOK,numA,Value.cells,Value.oneCell',ibin,List.replicate,Option.elim,Nat.reduceAdd,Nat.reduceSub,Nat.reduceMul,Nat.reduceLT,Nat.reduceEqDiff,Nat.reduceLeDiff,Nat.reduceBEq,Int.reduceLE,Int.reduceLT,Int.reduceToNat,Int.reduceBNe,Int.reduceBEq,Int.reduceNeg,Int.reduceEq,Int.reduceNe,Nat.reduceBNe,Int.reduceAdd,Int.reduceSub,Int.reduceMul,Int.reducePow,Nat.reducePow,Int.reduceGT,Int.reduceGE,if_true,if_false,ite_true,ite_false,beq_self_eq_true,BEq.rfl,reduceCtorEq,eq_self,ne_eq,Function.comp_def,beq_iff_eq]
    exact last rfl _ rfl
end
end Go.Proofs.Ytgmccnnjpejigaa
