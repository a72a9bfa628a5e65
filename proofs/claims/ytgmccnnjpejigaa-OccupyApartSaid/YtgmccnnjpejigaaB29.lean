/- Chapter 5: has an index just these units? -/
import Derived.Test.YtgmccnnjpejigaaB28
import Derived.Test.YtgmccnnjpejigaaBE
set_option linter.unusedVariables false
set_option linter.unusedSimpArgs false
set_option maxRecDepth 10000
namespace Go.Proofs.Ytgmccnnjpejigaa
open Go Go.M Go.RowKit
attribute [local congr] acallF_cong aloop_cong bcase_cong resK_cong valK_cong wantK_cong callK_cong xputK_cong qputK_cong resM_cong rfK_cong
attribute [local irreducible] seqK blockK loopK nextK bcase resK valK wantK funK putK dputK xputK qputK callK aops aop acode adraw aloop acallF acall invK resM rfK rfEnd rdEnd rdMid around
/-- By rising numbers, not many. -/
structure Gd (L : List U) : Prop where
  srt : Srt L
  rng : ∀ u ∈ L, inR u.id
  len : L.length ≤ 256
/-- Rows stay. -/
def Kr (s s' : List Ob) : Prop := ∀ (j : Nat) (e : TypeId) (xs : List V) (n lo : Nat) (fz : Bool), s[j]? = some (.row e xs n lo fz) → s'[j]? = some (.row e xs n lo fz)
theorem rd_kr {P : Program} {st s : List Ob} {e : TypeId} {v : V} {xs : List V} {n : Nat} (h : Rd P st e v xs n) (k : Kr st s) : Rd P s e v xs n := by
  rcases h.cases with ⟨nil, full, rfl⟩ | ⟨id, off, full, gg, ys, m, lo, fz, sz, rfl, k1, k2, k3, hxs⟩
  · exact h
  · refine ⟨?_, h.2⟩
    have := h.1
    simp only [elems, k1, k2] at this
    simp only [elems, k _ _ _ _ _ _ k1, k2]
    exact this
theorem cut_kr {P : Program} {st s : List Ob} {e : TypeId} {v : V} {xs : List V} {n : Nat} (h : Cut P st e v xs n) (k : Kr st s) : Cut P s e v xs n := by
  refine ⟨rd_kr h.1 k, ?_, h.2.2⟩
  rcases h.2.1 with ⟨xs, n, nil, f, rfl⟩ | ⟨id, off, n, gg, rfl⟩
  · exact .inl ⟨_, _, _, _, rfl⟩
  · exact .inr ⟨_, _, _, _, rfl⟩
section
variable {us : List (Int × V)} {os : List ((Int × Int) × V)} {L : List U}
theorem Rel.mem (h : Rel us os L) (i : Int) : (getI i us).isSome = true ↔ i ∈ L.map U.id := by
  rw [isSome_of, List.mem_map]
  constructor
  · rintro ⟨v, hv⟩
    obtain ⟨u, hu, he, _⟩ := (h.gu _ _).1 hv
    exact ⟨u, hu, he⟩
  · rintro ⟨u, hu, he⟩
    exact ⟨_, (h.gu _ _).2 ⟨u, hu, he, rfl⟩⟩
theorem Gd.pw (h : Gd L) : (L.map U.id).Pairwise (· < ·) := List.pairwise_map.2 h.srt
theorem Gd.ir (h : Gd L) : ∀ i ∈ L.map U.id, inR i := fun i hi => by
  obtain ⟨u, hu, rfl⟩ := List.mem_map.1 hi
  exact h.rng u hu
theorem Rel.at_id (h : Rel us os L) {i : Nat} (hi : i < L.length) {v : V} (hv : getI L[i].id us = some v) : v = .agg (rc L[i].x L[i].y L[i].w L[i].h) := by
  obtain ⟨p, hp, he, rfl⟩ := (h.gu _ _).1 hv
  rw [nodup_in h.ids hp (List.getElem_mem hi) he]
end
section
variable {n m : Nat} {st s : List Ob} {K : V → List Ob → Prop} {ix a b iy : Nat} {us : List (Int × V)} {os : List ((Int × Int) × V)} {L : List U} {sv : V}
theorem Ri.keep (hy : Ri st iy sv L) (k : Grw st s) : Ri s iy sv L := hy.grw k
set_option maxHeartbeats 4000000 in
theorem same_yl {ps : Array Tmp} {asg body : Code} (hc : frf (Try.f18.body.getD .skip) = some (ps, asg, body)) {F : Nat → V} {t3 t5 lid i : Nat} {p : Option Code} (q3 : F 3 = .ref t3 0) (q5 : F 5 = .ref t5 0)
    (h3 : s[t3]? = some (.cells [.ref iy 0])) (h5 : s[t5]? = some (.cells [.sc (.int .i64 i)])) (hy : Ri s iy sv L) (hi : i < L.length) (hl : L.length ≤ 256)
    (hlp : s[lid]? = some (.loop .ready p (pl 18) (ofF 58 F) ps.toList asg body))
    (hK : ∀ s', s'[t5]? = some (.cells [.sc (.int .i64 (i + 1 : Nat))]) → s'[lid]? = some (.loop .ready none (pl 18) (ofF 58 F) ps.toList asg body) → (∀ j o, j ≠ t5 → j ≠ lid → s[j]? = some o → s'[j]? = some o) → s.length ≤ s'.length → K (.sc (.bool true)) s') :
    acallF Try.prog pl (n + 1) m Try.prog.funcs.size [.yl lid, .sc (.int .i64 L[i].id), .agg (rc L[i].x L[i].y L[i].w L[i].h)] s K := by
  simp only [Try.f18, Option.getD_some, frf, Option.some.injEq, Prod.mk.injEq] at hc
  obtain ⟨rfl, rfl, rfl⟩ := hc
  refine acallF_yl hlp rfl ?_
  rw [show (#[10, 11] : Array Tmp).toList = [10, 11] from rfl, aputs_two (by decide) (by decide)]
  simp only [rc, evf,↓evp,evq,evr,fxa0,fxa1,fxa2,fxa3,fxa4,fxu,fxn,fxl,↓fxp,lgc,absL,fitL,flatL,ares,ares1,ofVal,unSc,aload,afill,splice,abound,asI,elems,IntKind.bits,sortT,eqNil,closedL,allByte,patch,pendOK,numA,Value.cells,Value.oneCell',ibin,List.replicate,Option.elim,Nat.reduceAdd,Nat.reduceSub,Nat.reduceMul,Nat.reduceLT,Nat.reduceEqDiff,Nat.reduceLeDiff,Nat.reduceBEq,Int.reduceLE,Int.reduceLT,Int.reduceToNat,Int.reduceBNe,Int.reduceBEq,Int.reduceNeg,Int.reduceEq,Int.reduceNe,Nat.reduceBNe,Int.reduceAdd,Int.reduceSub,Int.reduceMul,Int.reducePow,Nat.reducePow,Int.reduceGT,Int.reduceGE,if_true,if_false,ite_true,ite_false,beq_self_eq_true,BEq.rfl,reduceCtorEq,eq_self,ne_eq,Function.comp_def,beq_iff_eq]
  have g0 := Grw.push s [.cells (rc L[i].x L[i].y L[i].w L[i].h)]
  have c6 : (s ++ [Ob.cells (rc L[i].x L[i].y L[i].w L[i].h)])[s.length]? = some (.cells (rc L[i].x L[i].y L[i].w L[i].h)) := get_new0 _ _
  simp only [rc] at g0 c6
  refine rdMid_ok (g0 _ _ hlp) ?_
  generalize hs1 : (s ++ [Ob.cells _]) = s1 at g0 c6
  have l1 : s1.length = s.length + 1 := by rw [← hs1]; simp
  have nl : s.length ≠ lid := fun he => by subst he; rw [List.getElem?_eq_none (Nat.le_refl _)] at hlp; cases hlp
  have lt : lid < s1.length := (List.getElem?_eq_some_iff.1 (g0 _ _ hlp)).1
  have nc : ∀ (j : Nat) (c : List V), s[j]? = some (.cells c) → j ≠ lid := fun j c hj he => by subst he; rw [hlp] at hj; cases hj
  generalize hs2 : s1.set lid _ = s2
  have k : ∀ j o, j ≠ lid → s1[j]? = some o → s2[j]? = some o := fun j o hj ho => by rw [← hs2, List.getElem?_set_ne (Ne.symm hj)]; exact ho
  have kr : Kr s s2 := fun j e xs n lo fz hj => k _ _ (fun he => by rw [he, hlp] at hj; cases hj) (g0 _ _ hj)
  have d3 := k _ _ (nc _ _ h3) (g0 _ _ h3)
  have d5 := k _ _ (nc _ _ h5) (g0 _ _ h5)
  have d6 := k _ _ nl c6
  have dr := k _ _ (nc _ _ hy.at_) (g0 _ _ hy.at_)
  have dl : ∀ o, s1.set lid o = s2 → s2[lid]? = some o := fun o ho => by rw [← ho]; exact List.getElem?_set_self lt
  have dl := dl _ hs2
  have rb2 := rd_kr hy.rd.1 kr
  have l2 : s2.length = s1.length := by rw [← hs2, List.length_set]
  have al := alen_rd rb2 Try.underlying27
  have d : decide ((i : Int) ≥ L.length) = false := decide_eq_false (by omega)
  have e3 : IntKind.i64.wrap ((i : Int) + 1) = ((i + 1 : Nat) : Int) := by rw [IntWalk.i64_in _ (by omega)]; rfl
  obtain ⟨p1, p2⟩ := ix_flat (f := U.v) (fun a => rfl) rb2 Try.underlying27 sz48 ag48 (by omega) hi
  obtain ⟨p3, p4⟩ := u_id rb2 hi
  obtain ⟨p5, p6⟩ := u_r rb2 hi
  have cm := fun p q => cmp_rectN p q L[i].x L[i].y L[i].w L[i].h L[i].x L[i].y L[i].w L[i].h
  have eq1 : eqR L[i].x L[i].y L[i].w L[i].h L[i].x L[i].y L[i].w L[i].h = true := by simp [eqR]
  have ne1 : (L[i].id != L[i].id) = false := by simp
  simp only [rc] at p6
  have b5 : ∀ o, (s2.set t5 o)[t5]? = some o := fun o => get_set d5 o
  simp only [q3, q5, d3, d5, d6, dr, al, d, p1, p3, p4, p5, p6, cm, eq1, ne1, Bool.not_true, e3, b5, evf,↓evp,evq,evr,fxa0,fxa1,fxa2,fxa3,fxa4,fxu,fxn,fxl,↓fxp,lgc,absL,fitL,flatL,ares,ares1,ofVal,unSc,aload,afill,splice,abound,asI,elems,IntKind.bits,sortT,eqNil,closedL,allByte,patch,pendOK,numA,Value.cells,Value.oneCell',ibin,List.replicate,Option.elim,Nat.reduceAdd,Nat.reduceSub,Nat.reduceMul,Nat.reduceLT,Nat.reduceEqDiff,Nat.reduceLeDiff,Nat.reduceBEq,Int.reduceLE,Int.reduceLT,Int.reduceToNat,Int.reduceBNe,Int.reduceBEq,Int.reduceNeg,Int.reduceEq,Int.reduceNe,Nat.reduceBNe,Int.reduceAdd,Int.reduceSub,Int.reduceMul,Int.reducePow,Nat.reducePow,Int.reduceGT,Int.reduceGE,if_true,if_false,ite_true,ite_false,beq_self_eq_true,BEq.rfl,reduceCtorEq,eq_self,ne_eq,Function.comp_def,beq_iff_eq]
  have nt := nc _ _ h5
  have lt5 : t5 < s2.length := (List.getElem?_eq_some_iff.1 d5).1
  have ll2 : lid < s2.length := (List.getElem?_eq_some_iff.1 dl).1
  refine rdEnd_normal (by rw [List.getElem?_set_ne nt]; exact dl) ?_
  refine hK _ ?_ ?_ ?_ ?_
  · rw [List.getElem?_set_ne (Ne.symm nt), List.getElem?_set_self lt5]
  · rw [List.getElem?_set_self (by rw [List.length_set]; exact ll2)]
  · intro j o j1 j2 ho
    rw [List.getElem?_set_ne (Ne.symm j2), List.getElem?_set_ne (Ne.symm j1)]
    exact k _ _ j2 (g0 _ _ ho)
  · rw [List.length_set, List.length_set]
    omega
set_option maxHeartbeats 4000000 in
theorem l5_same (hr : Rel us os L) (hg : Gd L) (hi : Ix st ix a b us os) (hy : Ri st iy sv L) (hm : 300 < m)
    (hK : ∀ s, Grw st s → K (.sc (.bool true)) s) : acallF Try.prog pl (n + 5) m 18 [.ref ix 0, .ref iy 0] st K := by
  refine acallF_inF Try.func18 rfl rfl Try.ntmps18 (by simp) ?_
  obtain ⟨s2, hs2⟩ : ∃ s2, s2 = st ++ [Ob.cells [.ref iy 0], Ob.cells [.sc (.bool false)], Ob.cells [.sc (.int .i64 0)]] := ⟨_, rfl⟩
  have g2 : Grw st s2 := by rw [hs2]; exact .push _ _
  have c2 : s2[st.length]? = some (.cells [.ref iy 0]) := by rw [hs2]; exact get_new0 _ _
  have d2 : s2[st.length + 1]? = some (.cells [.sc (.bool false)]) := by rw [hs2]; exact get_new _ _ 1
  have k2 : s2[st.length + 2]? = some (.cells [.sc (.int .i64 0)]) := by rw [hs2]; exact get_new _ _ 2
  have l2 : s2.length = st.length + 3 := by rw [hs2]; simp
  simp only [evf,↓evp,evq,evr,fxa0,fxa1,fxa2,fxa3,fxa4,fxu,fxn,fxl,↓fxp,lgc,absL,fitL,flatL,ares,ares1,ofVal,unSc,aload,afill,splice,abound,asI,elems,IntKind.bits,sortT,eqNil,closedL,allByte,patch,pendOK,numA,Value.cells,Value.oneCell',ibin,List.replicate,Option.elim,Nat.reduceAdd,Nat.reduceSub,Nat.reduceMul,Nat.reduceLT,Nat.reduceEqDiff,Nat.reduceLeDiff,Nat.reduceBEq,Int.reduceLE,Int.reduceLT,Int.reduceToNat,Int.reduceBNe,Int.reduceBEq,Int.reduceNeg,Int.reduceEq,Int.reduceNe,Nat.reduceBNe,Int.reduceAdd,Int.reduceSub,Int.reduceMul,Int.reducePow,Nat.reducePow,Int.reduceGT,Int.reduceGE,if_true,if_false,ite_true,ite_false,beq_self_eq_true,BEq.rfl,reduceCtorEq,eq_self,ne_eq,Function.comp_def,beq_iff_eq]
  rw [← hs2]
  refine o_All (n := n + 3) rfl rfl ?_
  obtain ⟨sa, hsa⟩ : ∃ sa, sa = s2 ++ [Ob.cells [.ref ix 0]] := ⟨_, rfl⟩
  have ga : Grw s2 sa := by rw [hsa]; exact .push _ _
  have va : sa[s2.length]? = some (.cells [.ref ix 0]) := by rw [hsa]; exact get_new0 _ _
  have lsa : sa.length = s2.length + 1 := by rw [hsa]; simp
  have ca := ga _ _ c2
  have da := ga _ _ d2
  have ka := ga _ _ k2
  have gst := g2.trans ga
  rw [← hsa]
  simp only [evf,↓evp,evq,evr,fxa0,fxa1,fxa2,fxa3,fxa4,fxu,fxn,fxl,↓fxp,lgc,absL,fitL,flatL,ares,ares1,ofVal,unSc,aload,afill,splice,abound,asI,elems,IntKind.bits,sortT,eqNil,closedL,allByte,patch,pendOK,numA,Value.cells,Value.oneCell',ibin,List.replicate,Option.elim,Nat.reduceAdd,Nat.reduceSub,Nat.reduceMul,Nat.reduceLT,Nat.reduceEqDiff,Nat.reduceLeDiff,Nat.reduceBEq,Int.reduceLE,Int.reduceLT,Int.reduceToNat,Int.reduceBNe,Int.reduceBEq,Int.reduceNeg,Int.reduceEq,Int.reduceNe,Nat.reduceBNe,Int.reduceAdd,Int.reduceSub,Int.reduceMul,Int.reducePow,Nat.reducePow,Int.reduceGT,Int.reduceGE,if_true,if_false,ite_true,ite_false,beq_self_eq_true,BEq.rfl,reduceCtorEq,eq_self,ne_eq,Function.comp_def,beq_iff_eq]
  generalize hS : (sa ++ [_]) = S
  have gS : Grw sa S := by rw [← hS]; exact .push _ _
  have lS : S.length = sa.length + 1 := by rw [← hS]; simp
  obtain ⟨F, ps, asg, body, hc, q3, q5, hl0⟩ : ∃ F ps asg body, frf (Try.f18.body.getD .skip) = some (ps, asg, body) ∧ F 3 = .ref st.length 0 ∧ F 5 = .ref (st.length + 2) 0 ∧ S[sa.length]? = some (.loop .ready none (pl 18) (ofF 58 F) ps.toList asg body) := by
    refine ⟨_, _, _, _, rfl, ?_, ?_, (by rw [← hS]; exact get_new0 sa _)⟩
    · simp only [evf, ne_eq, Nat.reduceEqDiff, Nat.reduceLT, not_false_eq_true]
    · simp only [evf, ne_eq, Nat.reduceEqDiff, Nat.reduceLT, not_false_eq_true]
  have gSt := gst.trans gS
  have eL : (L.map U.id).length = L.length := List.length_map _
  refine o_Each (n := n) (l := sa.length) (rb := s2.length) (ids := L.map U.id) (J := fun _ => False)
    (I := fun r ro k s => s[r]? = some ro ∧ S.length ≤ r ∧ s[st.length + 2]? = some (.cells [.sc (.int .i64 k)]) ∧ s[sa.length]? = some (.loop .ready none (pl 18) (ofF 58 F) ps.toList asg body) ∧ s[st.length]? = some (.cells [.ref iy 0]) ∧ s[s2.length]? = some (.cells [.ref ix 0]) ∧ s[st.length + 1]? = some (.cells [.sc (.bool false)]) ∧ Grw st s)
    (hi.grw gSt) (gS _ _ va) hr.ni hr.mem hg.pw hg.ir (by rw [eL]; exact hg.len) hm ?_ ?_ ?_ ?_ (fun _ h => h.elim)
  · rintro r ro k s ⟨i1, i2, i3, i4, i5, i6, i7, i8⟩
    exact ⟨i6, hi.grw i8, i1⟩
  · intro r ro s g hr1 hr2
    exact ⟨hr2, hr1, g _ _ (gS _ _ ka), g _ _ hl0, g _ _ (gS _ _ ca), g _ _ (gS _ _ va), g _ _ (gS _ _ da), gSt.trans g⟩
  · rintro r ro i hil v s K' hv ⟨i1, i2, i3, i4, i5, i6, i7, i8⟩ hK1 _
    have hil' : i < L.length := by rw [eL] at hil; exact hil
    simp only [List.getElem_map] at hv ⊢
    rw [hr.at_id hil' hv]
    refine same_yl (n := n + 2) (t3 := st.length) (t5 := st.length + 2) (lid := sa.length) (F := F) (p := none) hc q3 q5 i5 i3 (hy.grw i8) hil' hg.len i4 ?_
    intro s' k1 k2 k3 k4
    exact hK1 _ ⟨k3 _ _ (by omega) (by omega) i1, i2, k1, k2, k3 _ _ (by omega) (by omega) i5, k3 _ _ (by omega) (by omega) i6, k3 _ _ (by omega) (by omega) i7, fun j o ho => by
      have lj : j < st.length := (List.getElem?_eq_some_iff.1 ho).1
      exact k3 _ _ (by omega) (by omega) (i8 _ _ ho)⟩
  · rintro r ro s ⟨i1, i2, i3, i4, i5, i6, i7, i8⟩
    rw [eL] at i3
    refine rfEnd_normal i4 (by decide) ?_
    have lsl : sa.length < s.length := (List.getElem?_eq_some_iff.1 i4).1
    generalize hsz : s.set sa.length _ = sz
    have kz : ∀ j o, j ≠ sa.length → s[j]? = some o → sz[j]? = some o := fun j o hj ho => by rw [← hsz, List.getElem?_set_ne (Ne.symm hj)]; exact ho
    have z3 := kz _ _ (by omega) i3
    have z5 := kz _ _ (by omega) i5
    have z7 := kz _ _ (by omega) i7
    have gz : Grw st sz := fun j o ho => by
      have lj : j < st.length := (List.getElem?_eq_some_iff.1 ho).1
      exact kz _ _ (by omega) (i8 _ _ ho)
    have hyz := hy.grw gz
    have wz := hyz.at_
    have alz := alen_rd hyz.rd.1 Try.underlying27
    have bz : ∀ o, (sz.set (st.length + 1) o)[st.length + 1]? = some o := fun o => get_set z7 o
    simp only [z3, z5, z7, wz, alz, bz, beq_self_eq_true, evf,↓evp,evq,evr,fxa0,fxa1,fxa2,fxa3,fxa4,fxu,fxn,fxl,↓fxp,lgc,absL,fitL,flatL,ares,ares1,ofVal,unSc,aload,afill,splice,abound,asI,elems,IntKind.bits,sortT,eqNil,closedL,allByte,patch,pendOK,numA,Value.cells,Value.oneCell',ibin,List.replicate,Option.elim,Nat.reduceAdd,Nat.reduceSub,Nat.reduceMul,Nat.reduceLT,Nat.reduceEqDiff,Nat.reduceLeDiff,Nat.reduceBEq,Int.reduceLE,Int.reduceLT,Int.reduceToNat,Int.reduceBNe,Int.reduceBEq,Int.reduceNeg,Int.reduceEq,Int.reduceNe,Nat.reduceBNe,Int.reduceAdd,Int.reduceSub,Int.reduceMul,Int.reducePow,Nat.reducePow,Int.reduceGT,Int.reduceGE,if_true,if_false,ite_true,ite_false,beq_self_eq_true,BEq.rfl,reduceCtorEq,eq_self,ne_eq,Function.comp_def,beq_iff_eq]
    refine o_Len1 (n := n + 2) (hi.grw gz) ?_
    rw [hr.len]
    simp only [z3, z5, z7, wz, alz, bz, beq_self_eq_true, evf,↓evp,evq,evr,fxa0,fxa1,fxa2,fxa3,fxa4,fxu,fxn,fxl,↓fxp,lgc,absL,fitL,flatL,ares,ares1,ofVal,unSc,aload,afill,splice,abound,asI,elems,IntKind.bits,sortT,eqNil,closedL,allByte,patch,pendOK,numA,Value.cells,Value.oneCell',ibin,List.replicate,Option.elim,Nat.reduceAdd,Nat.reduceSub,Nat.reduceMul,Nat.reduceLT,Nat.reduceEqDiff,Nat.reduceLeDiff,Nat.reduceBEq,Int.reduceLE,Int.reduceLT,Int.reduceToNat,Int.reduceBNe,Int.reduceBEq,Int.reduceNeg,Int.reduceEq,Int.reduceNe,Nat.reduceBNe,Int.reduceAdd,Int.reduceSub,Int.reduceMul,Int.reducePow,Nat.reducePow,Int.reduceGT,Int.reduceGE,if_true,if_false,ite_true,ite_false,beq_self_eq_true,BEq.rfl,reduceCtorEq,eq_self,ne_eq,Function.comp_def,beq_iff_eq]
    exact hK _ (gz.set (by omega) _)
end
end Go.Proofs.Ytgmccnnjpejigaa
