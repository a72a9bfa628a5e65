/- Chapter 4: the buildings, collected; a world as a map. -/
import Derived.Test.YtndjhaeeldegfaaG26
set_option linter.unusedVariables false
set_option linter.unusedSimpArgs false
set_option maxRecDepth 10000
namespace Go.Proofs.Ytndjhaeeldegfaa
open Go Go.M Go.RowKit
attribute [local congr] acallF_cong aloop_cong bcase_cong resK_cong valK_cong wantK_cong callK_cong xputK_cong qputK_cong resM_cong rfK_cong
attribute [local irreducible] seqK blockK loopK nextK bcase resK valK wantK funK putK dputK xputK qputK callK aops aop acode adraw aloop acallF acall invK resM rfK rfEnd rdEnd rdMid around
section
variable {n m : Nat} {st s : List Ob} {K : V → List Ob → Prop} {bv' : V} {pre : List B4} {u : B4}
set_option maxHeartbeats 4000000 in
/-- A round of 'AppendSeq'. -/
theorem coll_yl {ps : Array Tmp} {asg body : Code} (hc : frf (Try.f93.body.getD .skip) = some (ps, asg, body)) {F : Nat → V} {t2 lid : Nat} {p : Option Code} (q2 : F 2 = .ref t2 0)
    (h2 : s[t2]? = some (.cells [bv'])) (gl : Gl s 90 bv' (pre.flatMap B4.v) pre.length) (hp : pre.length < 1000000)
    (hl : s[lid]? = some (.loop .ready p (pl 93) (ofF 13 F) ps.toList asg body))
    (hK : ∀ bv2 s', Gl s' 90 bv2 ((pre ++ [u]).flatMap B4.v) (pre.length + 1) → s'[t2]? = some (.cells [bv2]) → s'[lid]? = some (.loop .ready none (pl 93) (ofF 13 F) ps.toList asg body) → (∀ j o, j ≠ t2 → j ≠ lid → rowOf bv' ≠ some j → s[j]? = some o → s'[j]? = some o) → s.length ≤ s'.length → (∀ j, rowOf bv2 = some j → rowOf bv' = some j ∨ s.length ≤ j) → K (.sc (.bool true)) s') :
    acallF Try.prog pl (n + 1) m Try.prog.funcs.size [.yl lid, .agg (B4.v u)] s K := by
  simp only [Try.f93, Option.getD_some, frf, Option.some.injEq, Prod.mk.injEq] at hc
  obtain ⟨rfl, rfl, rfl⟩ := hc
  refine acallF_yl hl rfl ?_
  rw [show (#[7] : Array Tmp).toList = [7] from rfl, aputs_one (by decide)]
  simp only [B4.v, bd, rc, evf,↓evp,evq,evr,fxa0,fxa1,fxa2,fxa3,fxa4,fxu,fxn,fxl,↓fxp,lgc,absL,fitL,flatL,ares,ares1,ofVal,unSc,aload,afill,splice,abound,asI,elems,IntKind.bits,sortT,eqNil,closedL,allByte,patch,pendOK,numA,Value.cells,Value.oneCell',ibin,List.replicate,Option.elim,Nat.reduceAdd,Nat.reduceSub,Nat.reduceMul,Nat.reduceLT,Nat.reduceEqDiff,Nat.reduceLeDiff,Nat.reduceBEq,Int.reduceLE,Int.reduceLT,Int.reduceToNat,Int.reduceBNe,Int.reduceBEq,Int.reduceNeg,Int.reduceEq,Int.reduceNe,Nat.reduceBNe,Int.reduceAdd,Int.reduceSub,Int.reduceMul,Int.reducePow,Nat.reducePow,Int.reduceGT,Int.reduceGE,if_true,if_false,ite_true,ite_false,beq_self_eq_true,BEq.rfl,reduceCtorEq,eq_self,ne_eq,Function.comp_def,beq_iff_eq]
  have g0 := Grw.push s [.cells (B4.v u)]
  have c6 : (s ++ [Ob.cells (B4.v u)])[s.length]? = some (.cells (B4.v u)) := get_new0 _ _
  simp only [B4.v, bd, rc] at g0 c6
  refine rdMid_ok (g0 _ _ hl) ?_
  generalize hs1 : (s ++ [Ob.cells _]) = s1 at g0 c6
  have l1 : s1.length = s.length + 1 := by rw [← hs1]; simp
  have nl : s.length ≠ lid := fun he => by subst he; rw [List.getElem?_eq_none (Nat.le_refl _)] at hl; cases hl
  have lt : lid < s1.length := (List.getElem?_eq_some_iff.1 (g0 _ _ hl)).1
  have nc : ∀ (j : Nat) (c : List V), s[j]? = some (.cells c) → j ≠ lid := fun j c hj he => by subst he; rw [hl] at hj; cases hj
  have nrl : rowOf bv' ≠ some lid := fun he => by
    rcases gl with ⟨rfl, _, _⟩ | ⟨id, lo, rfl, h1, _⟩
    · cases he
    · simp only [rowOf, Option.some.injEq] at he
      subst he
      rw [hl] at h1; cases h1
  generalize hs2 : s1.set lid _ = s2
  have k : ∀ j o, j ≠ lid → s1[j]? = some o → s2[j]? = some o := fun j o hj ho => by rw [← hs2, List.getElem?_set_ne (Ne.symm hj)]; exact ho
  have d2 := k _ _ (nc _ _ h2) (g0 _ _ h2)
  have d6 := k _ _ nl c6
  have dl : ∀ o, s1.set lid o = s2 → s2[lid]? = some o := fun o ho => by rw [← ho]; exact List.getElem?_set_self lt
  have dl := dl _ hs2
  have gl2 : Gl s2 90 bv' (pre.flatMap B4.v) pre.length := gl.of fun j o hj ho => k _ _ (fun he => nrl (by rw [← he]; exact hj)) (g0 _ _ ho)
  have l2 : s2.length = s1.length := by rw [← hs2, List.length_set]
  have gX := fun X => Grw.push s2 X
  obtain ⟨bv2, s3, ap, gl3, tr3, nw3⟩ := gl_app (P := Try.prog) (t := 63) (s := s2 ++ [.row 90 (B4.v u) 1 0 false]) (x := .sl s2.length 0 1 false 1) (zs := B4.v u) (k := 1) (gl2.grw (gX _)) Try.underlying63 sz90 by90 ze90 (by omega) rfl (flatMap_len (f := B4.v) (s := 5) (fun _ => rfl) _) (by simp only [elems, get_new0, List.getElem?_cons_zero, sz90]; rfl) rfl rfl (by omega) (by omega)
  have n2 : rowOf bv' ≠ some t2 := gl.ncells h2
  have d23 := tr3.2 _ _ n2 (gX _ _ _ d2)
  have dl3 := tr3.2 _ _ nrl (gX _ _ _ dl)
  have lt3 : t2 < s3.length := (List.getElem?_eq_some_iff.1 d23).1
  have ll3 : lid < s3.length := (List.getElem?_eq_some_iff.1 dl3).1
  obtain ⟨o1, o2⟩ := gl3.one
  have nt := nc _ _ h2
  simp only [B4.v, bd, rc] at ap
  simp only [q2, d2, d6, ap, d23, o1, o2, evf,↓evp,evq,evr,fxa0,fxa1,fxa2,fxa3,fxa4,fxu,fxn,fxl,↓fxp,lgc,absL,fitL,flatL,ares,ares1,ofVal,unSc,aload,afill,splice,abound,asI,elems,IntKind.bits,sortT,eqNil,closedL,allByte,patch,pendOK,numA,Value.cells,Value.oneCell',ibin,List.replicate,Option.elim,Nat.reduceAdd,Nat.reduceSub,Nat.reduceMul,Nat.reduceLT,Nat.reduceEqDiff,Nat.reduceLeDiff,Nat.reduceBEq,Int.reduceLE,Int.reduceLT,Int.reduceToNat,Int.reduceBNe,Int.reduceBEq,Int.reduceNeg,Int.reduceEq,Int.reduceNe,Nat.reduceBNe,Int.reduceAdd,Int.reduceSub,Int.reduceMul,Int.reducePow,Nat.reducePow,Int.reduceGT,Int.reduceGE,if_true,if_false,ite_true,ite_false,beq_self_eq_true,BEq.rfl,reduceCtorEq,eq_self,ne_eq,Function.comp_def,beq_iff_eq]
  refine rdEnd_normal (by rw [List.getElem?_set_ne nt]; exact dl3) ?_
  have ls2 : s.length < s2.length := by omega
  have new3 : ∀ j, rowOf bv2 = some j → rowOf bv' = some j ∨ s.length ≤ j := fun j hj => by
    rcases nw3 j hj with h | h
    · exact .inl h
    · exact .inr (by simp only [List.length_append] at h; omega)
  have nbt : ∀ j, rowOf bv2 = some j → j ≠ t2 ∧ j ≠ lid := fun j hj => by
    rcases nw3 j hj with h | h
    · exact ⟨fun he => n2 (by rw [← he]; exact h), fun he => nrl (by rw [← he]; exact h)⟩
    · simp only [List.length_append, List.length_cons, List.length_nil] at h
      have a1 : t2 < s2.length := (List.getElem?_eq_some_iff.1 d2).1
      omega
  refine hK bv2 _ ?_ ?_ ?_ ?_ ?_ new3
  · have e : (pre ++ [u]).flatMap B4.v = pre.flatMap B4.v ++ B4.v u := by simp [List.flatMap_append]
    rw [e]
    refine gl3.of fun j o hj ho => ?_
    obtain ⟨j1, j2⟩ := nbt j hj
    rw [List.getElem?_set_ne (Ne.symm j2), List.getElem?_set_ne (Ne.symm j1)]
    exact ho
  · rw [List.getElem?_set_ne (Ne.symm nt), List.getElem?_set_self lt3]
  · rw [List.getElem?_set_self (by rw [List.length_set]; exact ll3)]
  · intro j o j1 j2 j3 ho
    rw [List.getElem?_set_ne (Ne.symm j2), List.getElem?_set_ne (Ne.symm j1)]
    exact tr3.2 _ _ j3 (gX _ _ _ (k _ _ j2 (g0 _ _ ho)))
  · rw [List.length_set, List.length_set]
    have := tr3.1
    simp only [List.length_append] at this
    omega
end
section
variable {n m : Nat} {st s : List Ob} {K : V → List Ob → Prop} {wd a b rb : Nat} {WW HH : Int} {tv dv : V} {us : List (Int × V)} {os : List ((Int × Int) × V)} {L : List B4}
set_option maxHeartbeats 4000000 in
theorem w_Append (hw : Wd st wd a b WW HH tv dv us os) (hb : st[rb]? = some (.cells [.ref wd 0])) (hr : Rel WW HH us os L) (hs : Srt L) (hl : L.length ≤ 256) (hm : 300 < m)
    (hK : ∀ bv s, Gl s 90 bv (L.flatMap B4.v) L.length → Grw st s → (∀ j, rowOf bv = some j → st.length ≤ j) → K bv s) :
    acallF Try.prog pl (n + 5) m 93 [.tsl [] 0 true true, .fn (.func 78) [.ref rb 0]] st K := by
  refine acallF_inF Try.func93 rfl rfl Try.ntmps93 (by simp) ?_
  simp only [evf,↓evp,evq,evr,fxa0,fxa1,fxa2,fxa3,fxa4,fxu,fxn,fxl,↓fxp,lgc,absL,fitL,flatL,ares,ares1,ofVal,unSc,aload,afill,splice,abound,asI,elems,IntKind.bits,sortT,eqNil,closedL,allByte,patch,pendOK,numA,Value.cells,Value.oneCell',ibin,List.replicate,Option.elim,Nat.reduceAdd,Nat.reduceSub,Nat.reduceMul,Nat.reduceLT,Nat.reduceEqDiff,Nat.reduceLeDiff,Nat.reduceBEq,Int.reduceLE,Int.reduceLT,Int.reduceToNat,Int.reduceBNe,Int.reduceBEq,Int.reduceNeg,Int.reduceEq,Int.reduceNe,Nat.reduceBNe,Int.reduceAdd,Int.reduceSub,Int.reduceMul,Int.reducePow,Nat.reducePow,Int.reduceGT,Int.reduceGE,if_true,if_false,ite_true,ite_false,beq_self_eq_true,BEq.rfl,reduceCtorEq,eq_self,ne_eq,Function.comp_def,beq_iff_eq]
  have g1 := Grw.push st [Ob.cells [V.tsl [] 0 true true]]
  have c1 : (st ++ [Ob.cells [V.tsl [] 0 true true]])[st.length]? = some (.cells [V.tsl [] 0 true true]) := get_new0 _ _
  have ls1 : (st ++ [Ob.cells [V.tsl [] 0 true true]]).length = st.length + 1 := by simp
  have hwst : wd < st.length := (List.getElem?_eq_some_iff.1 hw.w).1
  have hast : a < st.length := (List.getElem?_eq_some_iff.1 hw.us).1
  have hbst : b < st.length := (List.getElem?_eq_some_iff.1 hw.os).1
  have hrst : rb < st.length := (List.getElem?_eq_some_iff.1 hb).1
  generalize hS : (st ++ [Ob.cells [V.tsl [] 0 true true], _]) = S
  have gS : Grw st S := by rw [← hS]; exact .push _ _
  have cS : S[st.length]? = some (.cells [.tsl [] 0 true true]) := by rw [← hS]; exact get_new _ _ 0
  have lS : S.length = st.length + 2 := by rw [← hS]; simp
  obtain ⟨F, ps, asg, body, hc, q2, hl0⟩ : ∃ F ps asg body, frf (Try.f93.body.getD .skip) = some (ps, asg, body) ∧ F 2 = .ref st.length 0 ∧ S[st.length + 1]? = some (.loop .ready none (pl 93) (ofF 13 F) ps.toList asg body) := by
    refine ⟨_, _, _, _, rfl, ?_, (by rw [← hS]; exact get_new st _ 1)⟩
    simp only [evf, ne_eq, Nat.reduceEqDiff, Nat.reduceLT, not_false_eq_true]
  refine w_Blds (n := n) (l := st.length + 1) (rb := rb) (J := fun _ => False)
    (I := fun r ro k s => ∃ bv', S.length ≤ r ∧ s[r]? = some ro ∧ rowOf bv' ≠ some r ∧ s[st.length]? = some (.cells [bv']) ∧ Gl s 90 bv' ((L.take k).flatMap B4.v) k ∧ s[st.length + 1]? = some (.loop .ready none (pl 93) (ofF 13 F) ps.toList asg body) ∧ (∀ j, rowOf bv' = some j → S.length ≤ j) ∧ Grw st s ∧ S.length ≤ s.length)
    (hw.grw gS) (gS _ _ hb) hr hs hl hm ?_ ?_ ?_ ?_ (fun _ h => h.elim)
  · rintro r ro k s ⟨bv', i1, i2, i3, i4, i5, i6, i7, i8, i9⟩
    exact ⟨i8 _ _ hb, hw.grw i8, i2⟩
  · intro r ro s g hr1 hr2
    exact ⟨_, hr1, hr2, (fun h => by cases h), g _ _ cS, .inl ⟨rfl, rfl, rfl⟩, g _ _ hl0, (fun j h => by cases h), gS.trans g, g.le⟩
  · rintro r ro i hi s K' ⟨bv', i1, i2, i3, i4, i5, i6, i7, i8, i9⟩ hK1 _
    have e : (L.take i).length = i := by simp; omega
    have e2 : L.take i ++ [L[i]] = L.take (i + 1) := by rw [List.take_append_getElem]
    refine coll_yl (n := n + 2) (bv' := bv') (pre := L.take i) (t2 := st.length) (lid := st.length + 1) (F := F) (p := none) hc q2 i4 (by rw [e]; exact i5) (by omega) i6 ?_
    intro bv2 s' k1 k2 k3 k4 k5 k6
    rw [e, e2] at k1
    have rs : r < s.length := (List.getElem?_eq_some_iff.1 i2).1
    refine hK1 _ ⟨bv2, i1, k4 _ _ (by omega) (by omega) i3 i2, (fun h => ?_), k2, k1, k3, (fun j h => ?_), (fun j o ho => ?_), by omega⟩
    · rcases k6 _ h with h | h
      · exact i3 h
      · omega
    · rcases k6 _ h with h | h
      · exact i7 _ h
      · omega
    · have lj : j < st.length := (List.getElem?_eq_some_iff.1 ho).1
      exact k4 _ _ (by omega) (by omega) (fun h => by have := i7 _ h; omega) (i8 _ _ ho)
  · rintro r ro s ⟨bv', i1, i2, i3, i4, i5, i6, i7, i8, i9⟩
    refine rfEnd_normal i6 (by decide) ?_
    have o1 := i5.one
    have n4 : ∀ o, (s.set (st.length + 1) o)[st.length]? = some (.cells [bv']) := fun o => by rw [List.getElem?_set_ne (by omega)]; exact i4
    simp only [n4, o1.1, o1.2, q2, evf,↓evp,evq,evr,fxa0,fxa1,fxa2,fxa3,fxa4,fxu,fxn,fxl,↓fxp,lgc,absL,fitL,flatL,ares,ares1,ofVal,unSc,aload,afill,splice,abound,asI,elems,IntKind.bits,sortT,eqNil,closedL,allByte,patch,pendOK,numA,Value.cells,Value.oneCell',ibin,List.replicate,Option.elim,Nat.reduceAdd,Nat.reduceSub,Nat.reduceMul,Nat.reduceLT,Nat.reduceEqDiff,Nat.reduceLeDiff,Nat.reduceBEq,Int.reduceLE,Int.reduceLT,Int.reduceToNat,Int.reduceBNe,Int.reduceBEq,Int.reduceNeg,Int.reduceEq,Int.reduceNe,Nat.reduceBNe,Int.reduceAdd,Int.reduceSub,Int.reduceMul,Int.reducePow,Nat.reducePow,Int.reduceGT,Int.reduceGE,if_true,if_false,ite_true,ite_false,beq_self_eq_true,BEq.rfl,reduceCtorEq,eq_self,ne_eq,Function.comp_def,beq_iff_eq]
    rw [List.take_length] at i5
    refine hK _ _ (i5.of fun j o hj ho => ?_) (fun j o ho => ?_) fun j hj => ?_
    · have := i7 _ hj
      rw [List.getElem?_set_ne (by omega)]; exact ho
    · have lj : j < st.length := (List.getElem?_eq_some_iff.1 ho).1
      rw [List.getElem?_set_ne (by omega)]; exact i8 _ _ ho
    · have := i7 _ hj; omega
theorem w_Collect (hw : Wd st wd a b WW HH tv dv us os) (hb : st[rb]? = some (.cells [.ref wd 0])) (hr : Rel WW HH us os L) (hs : Srt L) (hl : L.length ≤ 256) (hm : 300 < m)
    (hK : ∀ bv s, Gl s 90 bv (L.flatMap B4.v) L.length → Grw st s → (∀ j, rowOf bv = some j → st.length ≤ j) → K bv s) :
    acallF Try.prog pl (n + 6) m 70 [.fn (.func 78) [.ref rb 0]] st K := by
  refine acallF_inF Try.func70 rfl rfl Try.ntmps70 (by simp) ?_
  simp only [evf,↓evp,evq,evr,fxa0,fxa1,fxa2,fxa3,fxa4,fxu,fxn,fxl,↓fxp,lgc,absL,fitL,flatL,ares,ares1,ofVal,unSc,aload,afill,splice,abound,asI,elems,IntKind.bits,sortT,eqNil,closedL,allByte,patch,pendOK,numA,Value.cells,Value.oneCell',ibin,List.replicate,Option.elim,Nat.reduceAdd,Nat.reduceSub,Nat.reduceMul,Nat.reduceLT,Nat.reduceEqDiff,Nat.reduceLeDiff,Nat.reduceBEq,Int.reduceLE,Int.reduceLT,Int.reduceToNat,Int.reduceBNe,Int.reduceBEq,Int.reduceNeg,Int.reduceEq,Int.reduceNe,Nat.reduceBNe,Int.reduceAdd,Int.reduceSub,Int.reduceMul,Int.reducePow,Nat.reducePow,Int.reduceGT,Int.reduceGE,if_true,if_false,ite_true,ite_false,beq_self_eq_true,BEq.rfl,reduceCtorEq,eq_self,ne_eq,Function.comp_def,beq_iff_eq]
  refine w_Append (n := n) hw hb hr hs hl hm fun bv s h1 h2 h3 => ?_
  simp only [evf,↓evp,evq,evr,fxa0,fxa1,fxa2,fxa3,fxa4,fxu,fxn,fxl,↓fxp,lgc,absL,fitL,flatL,ares,ares1,ofVal,unSc,aload,afill,splice,abound,asI,elems,IntKind.bits,sortT,eqNil,closedL,allByte,patch,pendOK,numA,Value.cells,Value.oneCell',ibin,List.replicate,Option.elim,Nat.reduceAdd,Nat.reduceSub,Nat.reduceMul,Nat.reduceLT,Nat.reduceEqDiff,Nat.reduceLeDiff,Nat.reduceBEq,Int.reduceLE,Int.reduceLT,Int.reduceToNat,Int.reduceBNe,Int.reduceBEq,Int.reduceNeg,Int.reduceEq,Int.reduceNe,Nat.reduceBNe,Int.reduceAdd,Int.reduceSub,Int.reduceMul,Int.reducePow,Nat.reducePow,Int.reduceGT,Int.reduceGE,if_true,if_false,ite_true,ite_false,beq_self_eq_true,BEq.rfl,reduceCtorEq,eq_self,ne_eq,Function.comp_def,beq_iff_eq]
  exact hK _ _ h1 h2 h3
end
end Go.Proofs.Ytndjhaeeldegfaa
