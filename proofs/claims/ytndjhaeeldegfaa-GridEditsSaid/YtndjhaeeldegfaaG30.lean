/- Chapter 4: is all of a world the same? -/
import Derived.Test.YtndjhaeeldegfaaG29
set_option linter.unusedVariables false
set_option linter.unusedSimpArgs false
set_option maxRecDepth 10000
namespace Go.Proofs.Ytndjhaeeldegfaa
open Go Go.M Go.RowKit
attribute [local congr] acallF_cong aloop_cong bcase_cong resK_cong valK_cong wantK_cong callK_cong xputK_cong qputK_cong resM_cong rfK_cong
attribute [local irreducible] seqK blockK loopK nextK bcase resK valK wantK funK putK dputK xputK qputK callK aops aop acode adraw aloop acallF acall invK resM rfK rfEnd rdEnd rdMid around
section
variable {n m : Nat} {st s : List Ob} {K : V → List Ob → Prop} {wd a b rd : Nat} {WW HH : Int} {T : List Int} {tv tv2 dv bv ev : V} {us : List (Int × V)} {os : List ((Int × Int) × V)} {L : List B4} {ds : List R4} {ts : List V}
set_option maxHeartbeats 4000000 in
/-- A round of 'Is'. -/
theorem is_yl {ps : Array Tmp} {asg body : Code} (hc : frf (Try.f39.body.getD .skip) = some (ps, asg, body)) {F : Nat → V} {t1 t4 lid i : Nat} {p : Option Code} (q1 : F 1 = .ref t1 0) (q4 : F 4 = .ref t4 0)
    (h1 : s[t1]? = some (.cells [.ref wd 0, .ref rd 0])) (h4 : s[t4]? = some (.cells [.sc (.int .i64 i)])) (hy : Wr s rd WW HH tv bv ev ts L ds) (hi : i < L.length) (hl : L.length ≤ 256)
    (hlp : s[lid]? = some (.loop .ready p (pl 39) (ofF 76 F) ps.toList asg body))
    (hK : ∀ s', s'[t4]? = some (.cells [.sc (.int .i64 (i + 1 : Nat))]) → s'[lid]? = some (.loop .ready none (pl 39) (ofF 76 F) ps.toList asg body) → (∀ j o, j ≠ t4 → j ≠ lid → s[j]? = some o → s'[j]? = some o) → s.length ≤ s'.length → K (.sc (.bool true)) s') :
    acallF Try.prog pl (n + 1) m Try.prog.funcs.size [.yl lid, .agg (B4.v L[i])] s K := by
  simp only [Try.f39, Option.getD_some, frf, Option.some.injEq, Prod.mk.injEq] at hc
  obtain ⟨rfl, rfl, rfl⟩ := hc
  refine acallF_yl hlp rfl ?_
  rw [show (#[45] : Array Tmp).toList = [45] from rfl, aputs_one (by decide)]
  simp only [B4.v, bd, rc, evf,↓evp,evq,evr,fxa0,fxa1,fxa2,fxa3,fxa4,fxu,fxn,fxl,↓fxp,lgc,absL,fitL,flatL,ares,ares1,ofVal,unSc,aload,afill,splice,abound,asI,elems,IntKind.bits,sortT,eqNil,closedL,allByte,patch,pendOK,numA,Value.cells,Value.oneCell',ibin,List.replicate,Option.elim,Nat.reduceAdd,Nat.reduceSub,Nat.reduceMul,Nat.reduceLT,Nat.reduceEqDiff,Nat.reduceLeDiff,Nat.reduceBEq,Int.reduceLE,Int.reduceLT,Int.reduceToNat,Int.reduceBNe,Int.reduceBEq,Int.reduceNeg,Int.reduceEq,Int.reduceNe,Nat.reduceBNe,Int.reduceAdd,Int.reduceSub,Int.reduceMul,Int.reducePow,Nat.reducePow,Int.reduceGT,Int.reduceGE,if_true,if_false,ite_true,ite_false,beq_self_eq_true,BEq.rfl,reduceCtorEq,eq_self,ne_eq,Function.comp_def,beq_iff_eq]
  have g0 := Grw.push s [.cells (B4.v L[i])]
  have c6 : (s ++ [Ob.cells (B4.v L[i])])[s.length]? = some (.cells (B4.v L[i])) := get_new0 _ _
  simp only [B4.v, bd, rc] at g0 c6
  refine rdMid_ok (g0 _ _ hlp) ?_
  generalize hs1 : (s ++ [Ob.cells _]) = s1 at g0 c6
  have l1 : s1.length = s.length + 1 := by rw [← hs1]; simp
  have nl : s.length ≠ lid := fun he => by subst he; rw [List.getElem?_eq_none (Nat.le_refl _)] at hlp; cases hlp
  have lt : lid < s1.length := (List.getElem?_eq_some_iff.1 (g0 _ _ hlp)).1
  have nc : ∀ (j : Nat) (c : List V), s[j]? = some (.cells c) → j ≠ lid := fun j c hj he => by subst he; rw [hlp] at hj; cases hj
  have nrl : rowOf bv ≠ some lid := fun he => by
    rcases hy.bl with ⟨rfl, _, _⟩ | ⟨id, lo, rfl, h1, _⟩
    · cases he
    · simp only [rowOf, Option.some.injEq] at he
      subst he
      rw [hlp] at h1; cases h1
  generalize hs2 : s1.set lid _ = s2
  have k : ∀ j o, j ≠ lid → s1[j]? = some o → s2[j]? = some o := fun j o hj ho => by rw [← hs2, List.getElem?_set_ne (Ne.symm hj)]; exact ho
  have d1 := k _ _ (nc _ _ h1) (g0 _ _ h1)
  have d4 := k _ _ (nc _ _ h4) (g0 _ _ h4)
  have d6 := k _ _ nl c6
  have dr := k _ _ (nc _ _ hy.w) (g0 _ _ hy.w)
  have dl : ∀ o, s1.set lid o = s2 → s2[lid]? = some o := fun o ho => by rw [← ho]; exact List.getElem?_set_self lt
  have dl := dl _ hs2
  have gl2 : Gl s2 90 bv (L.flatMap B4.v) L.length := hy.bl.of fun j o hj ho => k _ _ (fun he => nrl (by rw [← he]; exact hj)) (g0 _ _ ho)
  have rb2 := gl2.rd sz90 (flatMap_len (f := B4.v) (s := 5) (fun _ => rfl) _)
  have l2 : s2.length = s1.length := by rw [← hs2, List.length_set]
  have al := alen_rd rb2 Try.underlying63
  have d : decide ((i : Int) ≥ L.length) = false := decide_eq_false (by omega)
  have e3 : IntKind.i64.wrap ((i : Int) + 1) = ((i + 1 : Nat) : Int) := by rw [IntWalk.i64_in _ (by omega)]; rfl
  obtain ⟨p3, p4⟩ := ix_flat (f := B4.v) (fun a => rfl) rb2 Try.underlying63 sz90 ag90 (by omega) hi
  have cm := fun p q => cmp_bdN p q L[i].id L[i].x L[i].y L[i].w L[i].h L[i].id L[i].x L[i].y L[i].w L[i].h
  have eq1 : eqR L[i].x L[i].y L[i].w L[i].h L[i].x L[i].y L[i].w L[i].h = true := by simp [eqR]
  generalize hu : L[i] = u at p4 cm eq1 d6 hs1 c6
  simp only [B4.v, bd, rc] at p4
  have b4 : ∀ o, (s2.set t4 o)[t4]? = some o := fun o => get_set d4 o
  simp only [q1, q4, d1, d4, d6, dr, al, d, p3, p4, cm, eq1, beq_self_eq_true, Bool.and_self, Bool.not_true, e3, b4, evf,↓evp,evq,evr,fxa0,fxa1,fxa2,fxa3,fxa4,fxu,fxn,fxl,↓fxp,lgc,absL,fitL,flatL,ares,ares1,ofVal,unSc,aload,afill,splice,abound,asI,elems,IntKind.bits,sortT,eqNil,closedL,allByte,patch,pendOK,numA,Value.cells,Value.oneCell',ibin,List.replicate,Option.elim,Nat.reduceAdd,Nat.reduceSub,Nat.reduceMul,Nat.reduceLT,Nat.reduceEqDiff,Nat.reduceLeDiff,Nat.reduceBEq,Int.reduceLE,Int.reduceLT,Int.reduceToNat,Int.reduceBNe,Int.reduceBEq,Int.reduceNeg,Int.reduceEq,Int.reduceNe,Nat.reduceBNe,Int.reduceAdd,Int.reduceSub,Int.reduceMul,Int.reducePow,Nat.reducePow,Int.reduceGT,Int.reduceGE,if_true,if_false,ite_true,ite_false,beq_self_eq_true,BEq.rfl,reduceCtorEq,eq_self,ne_eq,Function.comp_def,beq_iff_eq]
  have nt := nc _ _ h4
  have lt4 : t4 < s2.length := (List.getElem?_eq_some_iff.1 d4).1
  have ll2 : lid < s2.length := (List.getElem?_eq_some_iff.1 dl).1
  refine rdEnd_normal (by rw [List.getElem?_set_ne nt]; exact dl) ?_
  refine hK _ ?_ ?_ ?_ ?_
  · rw [List.getElem?_set_ne (Ne.symm nt), List.getElem?_set_self lt4]
  · rw [List.getElem?_set_self (by rw [List.length_set]; exact ll2)]
  · intro j o j1 j2 ho
    rw [List.getElem?_set_ne (Ne.symm j2), List.getElem?_set_ne (Ne.symm j1)]
    exact k _ _ j2 (g0 _ _ ho)
  · rw [List.length_set, List.length_set]
    omega
set_option maxHeartbeats 4000000 in
theorem l_Is (hb : Bo st wd a b rd WW HH tv tv2 dv bv ev T us os L ds) (hl : L.length ≤ 256) (hm : 300 < m) (hT : T.length ≤ 4000000000000)
    (hK : ∀ s, Grw st s → K (.sc (.bool true)) s) :
    acallF Try.prog pl (n + 8) m 39 [.agg [.ref wd 0, .ref rd 0]] st K := by
  refine acallF_inF Try.func39 rfl rfl Try.ntmps39 (by simp) ?_
  obtain ⟨s1, hs1⟩ : ∃ s1, s1 = st ++ [Ob.cells [.ref wd 0, .ref rd 0], Ob.cells [.sc (.bool false)]] := ⟨_, rfl⟩
  have g1 : Grw st s1 := by rw [hs1]; exact .push _ _
  have c1 : s1[st.length]? = some (.cells [.ref wd 0, .ref rd 0]) := by rw [hs1]; exact get_new0 _ _
  have d1 : s1[st.length + 1]? = some (.cells [.sc (.bool false)]) := by rw [hs1]; exact get_new _ _ 1
  have l1 : s1.length = st.length + 2 := by rw [hs1]; simp
  have hb1 := hb.grw g1
  simp only [evf,↓evp,evq,evr,fxa0,fxa1,fxa2,fxa3,fxa4,fxu,fxn,fxl,↓fxp,lgc,absL,fitL,flatL,ares,ares1,ofVal,unSc,aload,afill,splice,abound,asI,elems,IntKind.bits,sortT,eqNil,closedL,allByte,patch,pendOK,numA,Value.cells,Value.oneCell',ibin,List.replicate,Option.elim,Nat.reduceAdd,Nat.reduceSub,Nat.reduceMul,Nat.reduceLT,Nat.reduceEqDiff,Nat.reduceLeDiff,Nat.reduceBEq,Int.reduceLE,Int.reduceLT,Int.reduceToNat,Int.reduceBNe,Int.reduceBEq,Int.reduceNeg,Int.reduceEq,Int.reduceNe,Nat.reduceBNe,Int.reduceAdd,Int.reduceSub,Int.reduceMul,Int.reducePow,Nat.reducePow,Int.reduceGT,Int.reduceGE,if_true,if_false,ite_true,ite_false,beq_self_eq_true,BEq.rfl,reduceCtorEq,eq_self,ne_eq,Function.comp_def,beq_iff_eq]
  rw [← hs1]
  refine q_All (n := n + 6) hb1.r fun s2 g2 => ?_
  obtain ⟨s3, hs3⟩ : ∃ s3, s3 = s2 ++ [Ob.cells (rc 0 0 WW HH)] := ⟨_, rfl⟩
  have g3 : Grw s2 s3 := by rw [hs3]; exact .push _ _
  have e3 : s3[s2.length]? = some (.cells (rc 0 0 WW HH)) := by rw [hs3]; exact get_new0 _ _
  have c3 := g3 _ _ (g2 _ _ c1)
  have hb3 := (hb1.grw g2).grw g3
  simp only [rc] at hs3 e3
  simp only [rc, evf,↓evp,evq,evr,fxa0,fxa1,fxa2,fxa3,fxa4,fxu,fxn,fxl,↓fxp,lgc,absL,fitL,flatL,ares,ares1,ofVal,unSc,aload,afill,splice,abound,asI,elems,IntKind.bits,sortT,eqNil,closedL,allByte,patch,pendOK,numA,Value.cells,Value.oneCell',ibin,List.replicate,Option.elim,Nat.reduceAdd,Nat.reduceSub,Nat.reduceMul,Nat.reduceLT,Nat.reduceEqDiff,Nat.reduceLeDiff,Nat.reduceBEq,Int.reduceLE,Int.reduceLT,Int.reduceToNat,Int.reduceBNe,Int.reduceBEq,Int.reduceNeg,Int.reduceEq,Int.reduceNe,Nat.reduceBNe,Int.reduceAdd,Int.reduceSub,Int.reduceMul,Int.reducePow,Nat.reducePow,Int.reduceGT,Int.reduceGE,if_true,if_false,ite_true,ite_false,beq_self_eq_true,BEq.rfl,reduceCtorEq,eq_self,ne_eq,Function.comp_def,beq_iff_eq]
  rw [← hs3]
  simp only [c3, evf,↓evp,evq,evr,fxa0,fxa1,fxa2,fxa3,fxa4,fxu,fxn,fxl,↓fxp,lgc,absL,fitL,flatL,ares,ares1,ofVal,unSc,aload,afill,splice,abound,asI,elems,IntKind.bits,sortT,eqNil,closedL,allByte,patch,pendOK,numA,Value.cells,Value.oneCell',ibin,List.replicate,Option.elim,Nat.reduceAdd,Nat.reduceSub,Nat.reduceMul,Nat.reduceLT,Nat.reduceEqDiff,Nat.reduceLeDiff,Nat.reduceBEq,Int.reduceLE,Int.reduceLT,Int.reduceToNat,Int.reduceBNe,Int.reduceBEq,Int.reduceNeg,Int.reduceEq,Int.reduceNe,Nat.reduceBNe,Int.reduceAdd,Int.reduceSub,Int.reduceMul,Int.reducePow,Nat.reducePow,Int.reduceGT,Int.reduceGE,if_true,if_false,ite_true,ite_false,beq_self_eq_true,BEq.rfl,reduceCtorEq,eq_self,ne_eq,Function.comp_def,beq_iff_eq]
  refine w_All1 (n := n + 5) hb3.p.wd fun s4 g4 => ?_
  have c4 := g4 _ _ c3
  have e4 := g4 _ _ e3
  have hb4 := hb3.grw g4
  have cr := fun p q => cmp_rectN p q 0 0 WW HH 0 0 WW HH
  have eqr : eqR 0 0 WW HH 0 0 WW HH = true := by simp [eqR]
  have q4 := hb4.r.w
  have al4 := alen_rd hb4.r.re Try.underlying83
  simp only [rc, c3, e3, c4, e4, g4, cr, eqr, Bool.not_true, q4, al4, evf,↓evp,evq,evr,fxa0,fxa1,fxa2,fxa3,fxa4,fxu,fxn,fxl,↓fxp,lgc,absL,fitL,flatL,ares,ares1,ofVal,unSc,aload,afill,splice,abound,asI,elems,IntKind.bits,sortT,eqNil,closedL,allByte,patch,pendOK,numA,Value.cells,Value.oneCell',ibin,List.replicate,Option.elim,Nat.reduceAdd,Nat.reduceSub,Nat.reduceMul,Nat.reduceLT,Nat.reduceEqDiff,Nat.reduceLeDiff,Nat.reduceBEq,Int.reduceLE,Int.reduceLT,Int.reduceToNat,Int.reduceBNe,Int.reduceBEq,Int.reduceNeg,Int.reduceEq,Int.reduceNe,Nat.reduceBNe,Int.reduceAdd,Int.reduceSub,Int.reduceMul,Int.reducePow,Nat.reducePow,Int.reduceGT,Int.reduceGE,if_true,if_false,ite_true,ite_false,beq_self_eq_true,BEq.rfl,reduceCtorEq,eq_self,ne_eq,Function.comp_def,beq_iff_eq]
  refine w_Epoch1 (n := n + 5) hb4.p ?_
  simp only [rc, c3, e3, c4, e4, g4, cr, eqr, Bool.not_true, q4, al4, bne_self_eq_false, evf,↓evp,evq,evr,fxa0,fxa1,fxa2,fxa3,fxa4,fxu,fxn,fxl,↓fxp,lgc,absL,fitL,flatL,ares,ares1,ofVal,unSc,aload,afill,splice,abound,asI,elems,IntKind.bits,sortT,eqNil,closedL,allByte,patch,pendOK,numA,Value.cells,Value.oneCell',ibin,List.replicate,Option.elim,Nat.reduceAdd,Nat.reduceSub,Nat.reduceMul,Nat.reduceLT,Nat.reduceEqDiff,Nat.reduceLeDiff,Nat.reduceBEq,Int.reduceLE,Int.reduceLT,Int.reduceToNat,Int.reduceBNe,Int.reduceBEq,Int.reduceNeg,Int.reduceEq,Int.reduceNe,Nat.reduceBNe,Int.reduceAdd,Int.reduceSub,Int.reduceMul,Int.reducePow,Nat.reducePow,Int.reduceGT,Int.reduceGE,if_true,if_false,ite_true,ite_false,beq_self_eq_true,BEq.rfl,reduceCtorEq,eq_self,ne_eq,Function.comp_def,beq_iff_eq]
  refine w_Map1 (n := n) hb4.p hb4.rel hb4.srt hl hm hT fun tm bm s5 gt5 gb5 nt5 nb5 g5 => ?_
  have c5 := g5 _ _ c4
  have e5 := g5 _ _ e4
  have hb5 := hb4.grw g5
  have q5 := hb5.r.w
  simp only [mp, gt5.one.1, gt5.one.2, gb5.one.1, gb5.one.2, rc, c3, e3, c4, e4, c5, e5, g4, g5, cr, eqr, Bool.not_true, q4, q5, al4, bne_self_eq_false, evf,↓evp,evq,evr,fxa0,fxa1,fxa2,fxa3,fxa4,fxu,fxn,fxl,↓fxp,lgc,absL,fitL,flatL,ares,ares1,ofVal,unSc,aload,afill,splice,abound,asI,elems,IntKind.bits,sortT,eqNil,closedL,allByte,patch,pendOK,numA,Value.cells,Value.oneCell',ibin,List.replicate,Option.elim,Nat.reduceAdd,Nat.reduceSub,Nat.reduceMul,Nat.reduceLT,Nat.reduceEqDiff,Nat.reduceLeDiff,Nat.reduceBEq,Int.reduceLE,Int.reduceLT,Int.reduceToNat,Int.reduceBNe,Int.reduceBEq,Int.reduceNeg,Int.reduceEq,Int.reduceNe,Nat.reduceBNe,Int.reduceAdd,Int.reduceSub,Int.reduceMul,Int.reducePow,Nat.reducePow,Int.reduceGT,Int.reduceGE,if_true,if_false,ite_true,ite_false,beq_self_eq_true,BEq.rfl,reduceCtorEq,eq_self,ne_eq,Function.comp_def,beq_iff_eq]
  refine q_Map (n := n + 6) hb5.r hl hT fun tn bn s6 gt6 gb6 nt6 nb6 g6 => ?_
  have c6 := g6 _ _ c5
  have e6 := g6 _ _ e5
  have hb6 := hb5.grw g6
  simp only [mp, gt5.one.1, gt5.one.2, gb5.one.1, gb5.one.2, gt6.one.1, gt6.one.2, gb6.one.1, gb6.one.2, rc, c3, e3, c4, e4, c5, e5, c6, e6, g4, g5, g6, cr, eqr, Bool.not_true, q4, q5, al4, bne_self_eq_false, evf,↓evp,evq,evr,fxa0,fxa1,fxa2,fxa3,fxa4,fxu,fxn,fxl,↓fxp,lgc,absL,fitL,flatL,ares,ares1,ofVal,unSc,aload,afill,splice,abound,asI,elems,IntKind.bits,sortT,eqNil,closedL,allByte,patch,pendOK,numA,Value.cells,Value.oneCell',ibin,List.replicate,Option.elim,Nat.reduceAdd,Nat.reduceSub,Nat.reduceMul,Nat.reduceLT,Nat.reduceEqDiff,Nat.reduceLeDiff,Nat.reduceBEq,Int.reduceLE,Int.reduceLT,Int.reduceToNat,Int.reduceBNe,Int.reduceBEq,Int.reduceNeg,Int.reduceEq,Int.reduceNe,Nat.reduceBNe,Int.reduceAdd,Int.reduceSub,Int.reduceMul,Int.reducePow,Nat.reducePow,Int.reduceGT,Int.reduceGE,if_true,if_false,ite_true,ite_false,beq_self_eq_true,BEq.rfl,reduceCtorEq,eq_self,ne_eq,Function.comp_def,beq_iff_eq]
  have rT := fun {s : List Ob} {v : V} (h : Gl s 5 v (bs T) T.length) => h.rd (P := Try.prog) sz5 (by rw [bs_len]; omega)
  have rB := fun {s : List Ob} {v : V} (h : Gl s 90 v (L.flatMap B4.v) L.length) => h.rd (P := Try.prog) sz90 (flatMap_len (f := B4.v) (s := 5) (fun _ => rfl) _)
  refine q_Same (n := n + 6) (rT (gt5.grw g6)) (rT gt6) (rB (gb5.grw g6)) (rB gb6) gt5.one gt6.one gb5.one gb6.one hl hm fun s7 g7 => ?_
  have c7 := g7 _ _ c6
  have e7 := g7 _ _ e6
  have hb7 := hb6.grw g7
  simp only [mp, gt5.one.1, gt5.one.2, gb5.one.1, gb5.one.2, gt6.one.1, gt6.one.2, gb6.one.1, gb6.one.2, rc, c3, e3, c4, e4, c5, e5, c6, e6, c7, e7, g4, g5, g6, g7, cr, eqr, Bool.not_true, q4, q5, al4, bne_self_eq_false, evf,↓evp,evq,evr,fxa0,fxa1,fxa2,fxa3,fxa4,fxu,fxn,fxl,↓fxp,lgc,absL,fitL,flatL,ares,ares1,ofVal,unSc,aload,afill,splice,abound,asI,elems,IntKind.bits,sortT,eqNil,closedL,allByte,patch,pendOK,numA,Value.cells,Value.oneCell',ibin,List.replicate,Option.elim,Nat.reduceAdd,Nat.reduceSub,Nat.reduceMul,Nat.reduceLT,Nat.reduceEqDiff,Nat.reduceLeDiff,Nat.reduceBEq,Int.reduceLE,Int.reduceLT,Int.reduceToNat,Int.reduceBNe,Int.reduceBEq,Int.reduceNeg,Int.reduceEq,Int.reduceNe,Nat.reduceBNe,Int.reduceAdd,Int.reduceSub,Int.reduceMul,Int.reducePow,Nat.reducePow,Int.reduceGT,Int.reduceGE,if_true,if_false,ite_true,ite_false,beq_self_eq_true,BEq.rfl,reduceCtorEq,eq_self,ne_eq,Function.comp_def,beq_iff_eq]
  refine w_BldF (n := n + 6) ?_
  obtain ⟨s8, hs8⟩ : ∃ s8, s8 = s7 ++ [Ob.cells [.ref wd 0]] := ⟨_, rfl⟩
  have g8 : Grw s7 s8 := by rw [hs8]; exact .push _ _
  have c8 := g8 _ _ c7
  have e8 := g8 _ _ e7
  rw [← hs8]
  simp only [mp, gt5.one.1, gt5.one.2, gb5.one.1, gb5.one.2, gt6.one.1, gt6.one.2, gb6.one.1, gb6.one.2, rc, c3, e3, c4, e4, c5, e5, c6, e6, c7, e7, c8, e8, g4, g5, g6, g7, g8, cr, eqr, Bool.not_true, q4, q5, al4, bne_self_eq_false, evf,↓evp,evq,evr,fxa0,fxa1,fxa2,fxa3,fxa4,fxu,fxn,fxl,↓fxp,lgc,absL,fitL,flatL,ares,ares1,ofVal,unSc,aload,afill,splice,abound,asI,elems,IntKind.bits,sortT,eqNil,closedL,allByte,patch,pendOK,numA,Value.cells,Value.oneCell',ibin,List.replicate,Option.elim,Nat.reduceAdd,Nat.reduceSub,Nat.reduceMul,Nat.reduceLT,Nat.reduceEqDiff,Nat.reduceLeDiff,Nat.reduceBEq,Int.reduceLE,Int.reduceLT,Int.reduceToNat,Int.reduceBNe,Int.reduceBEq,Int.reduceNeg,Int.reduceEq,Int.reduceNe,Nat.reduceBNe,Int.reduceAdd,Int.reduceSub,Int.reduceMul,Int.reducePow,Nat.reducePow,Int.reduceGT,Int.reduceGE,if_true,if_false,ite_true,ite_false,beq_self_eq_true,BEq.rfl,reduceCtorEq,eq_self,ne_eq,Function.comp_def,beq_iff_eq]
  obtain ⟨s9, hs9⟩ : ∃ s9, s9 = s8 ++ [Ob.cells [.sc (.int .i64 0)]] := ⟨_, rfl⟩
  have g9 : Grw s8 s9 := by rw [hs9]; exact .push _ _
  have c9 := g9 _ _ c8
  have n9 : s9[s8.length]? = some (.cells [.sc (.int .i64 0)]) := by rw [hs9]; exact get_new0 _ _
  have hb9 := (hb7.grw g8).grw g9
  rw [← hs9]
  simp only [c9, evf,↓evp,evq,evr,fxa0,fxa1,fxa2,fxa3,fxa4,fxu,fxn,fxl,↓fxp,lgc,absL,fitL,flatL,ares,ares1,ofVal,unSc,aload,afill,splice,abound,asI,elems,IntKind.bits,sortT,eqNil,closedL,allByte,patch,pendOK,numA,Value.cells,Value.oneCell',ibin,List.replicate,Option.elim,Nat.reduceAdd,Nat.reduceSub,Nat.reduceMul,Nat.reduceLT,Nat.reduceEqDiff,Nat.reduceLeDiff,Nat.reduceBEq,Int.reduceLE,Int.reduceLT,Int.reduceToNat,Int.reduceBNe,Int.reduceBEq,Int.reduceNeg,Int.reduceEq,Int.reduceNe,Nat.reduceBNe,Int.reduceAdd,Int.reduceSub,Int.reduceMul,Int.reducePow,Nat.reducePow,Int.reduceGT,Int.reduceGE,if_true,if_false,ite_true,ite_false,beq_self_eq_true,BEq.rfl,reduceCtorEq,eq_self,ne_eq,Function.comp_def,beq_iff_eq]
  refine w_BldF (n := n + 6) ?_
  obtain ⟨sa, hsa⟩ : ∃ sa, sa = s9 ++ [Ob.cells [.ref wd 0]] := ⟨_, rfl⟩
  have ga : Grw s9 sa := by rw [hsa]; exact .push _ _
  have ca := ga _ _ c9
  have na := ga _ _ n9
  have va : sa[s9.length]? = some (.cells [.ref wd 0]) := by rw [hsa]; exact get_new0 _ _
  have hba := hb9.grw ga
  rw [← hsa]
  simp only [evf,↓evp,evq,evr,fxa0,fxa1,fxa2,fxa3,fxa4,fxu,fxn,fxl,↓fxp,lgc,absL,fitL,flatL,ares,ares1,ofVal,unSc,aload,afill,splice,abound,asI,elems,IntKind.bits,sortT,eqNil,closedL,allByte,patch,pendOK,numA,Value.cells,Value.oneCell',ibin,List.replicate,Option.elim,Nat.reduceAdd,Nat.reduceSub,Nat.reduceMul,Nat.reduceLT,Nat.reduceEqDiff,Nat.reduceLeDiff,Nat.reduceBEq,Int.reduceLE,Int.reduceLT,Int.reduceToNat,Int.reduceBNe,Int.reduceBEq,Int.reduceNeg,Int.reduceEq,Int.reduceNe,Nat.reduceBNe,Int.reduceAdd,Int.reduceSub,Int.reduceMul,Int.reducePow,Nat.reducePow,Int.reduceGT,Int.reduceGE,if_true,if_false,ite_true,ite_false,beq_self_eq_true,BEq.rfl,reduceCtorEq,eq_self,ne_eq,Function.comp_def,beq_iff_eq]
  have gst : Grw st sa := (((((((((g1.trans g2).trans g3).trans g4).trans g5).trans g6).trans g7).trans g8).trans g9).trans ga)
  have da : sa[st.length + 1]? = some (.cells [.sc (.bool false)]) := ((((((((g2.trans g3).trans g4).trans g5).trans g6).trans g7).trans g8).trans g9).trans ga) _ _ d1
  have ls1 : s1.length ≤ s8.length := ((((((g2.trans g3).trans g4).trans g5).trans g6).trans g7).trans g8).le
  have ls9 : s9.length = s8.length + 1 := by rw [hs9]; simp
  have lsa : sa.length = s9.length + 1 := by rw [hsa]; simp
  generalize hS : (sa ++ [_]) = S
  have gS : Grw sa S := by rw [← hS]; exact .push _ _
  have lS : S.length = sa.length + 1 := by rw [← hS]; simp
  obtain ⟨F, ps, asg, body, hc, q1, q4', hl0⟩ : ∃ F ps asg body, frf (Try.f39.body.getD .skip) = some (ps, asg, body) ∧ F 1 = .ref st.length 0 ∧ F 4 = .ref s8.length 0 ∧ S[sa.length]? = some (.loop .ready none (pl 39) (ofF 76 F) ps.toList asg body) := by
    refine ⟨_, _, _, _, rfl, ?_, ?_, (by rw [← hS]; exact get_new0 sa _)⟩
    · simp only [evf, ne_eq, Nat.reduceEqDiff, Nat.reduceLT, not_false_eq_true]
    · simp only [evf, ne_eq, Nat.reduceEqDiff, Nat.reduceLT, not_false_eq_true]
  have gSt := gst.trans gS
  refine w_Blds (n := n + 3) (l := sa.length) (rb := s9.length) (J := fun _ => False)
    (I := fun r ro k s => s[r]? = some ro ∧ S.length ≤ r ∧ s[s8.length]? = some (.cells [.sc (.int .i64 k)]) ∧ s[sa.length]? = some (.loop .ready none (pl 39) (ofF 76 F) ps.toList asg body) ∧ s[st.length]? = some (.cells [.ref wd 0, .ref rd 0]) ∧ s[s9.length]? = some (.cells [.ref wd 0]) ∧ s[st.length + 1]? = some (.cells [.sc (.bool false)]) ∧ Grw st s)
    (hb.grw gSt).p.wd (gS _ _ va) hb.rel hb.srt hl hm ?_ ?_ ?_ ?_ (fun _ h => h.elim)
  · rintro r ro k s ⟨i1, i2, i3, i4, i5, i6, i7, i8⟩
    exact ⟨i6, (hb.grw i8).p.wd, i1⟩
  · intro r ro s g hr1 hr2
    exact ⟨hr2, hr1, g _ _ (gS _ _ na), g _ _ hl0, g _ _ (gS _ _ ca), g _ _ (gS _ _ va), g _ _ (gS _ _ da), gSt.trans g⟩
  · rintro r ro i hi s K' ⟨i1, i2, i3, i4, i5, i6, i7, i8⟩ hK1 _
    refine is_yl (n := n + 5) (t1 := st.length) (t4 := s8.length) (lid := sa.length) (F := F) (p := none) hc q1 q4' i5 i3 (hb.grw i8).r hi hl i4 ?_
    intro s' k1 k2 k3 k4
    exact hK1 _ ⟨k3 _ _ (by omega) (by omega) i1, i2, k1, k2, k3 _ _ (by omega) (by omega) i5, k3 _ _ (by omega) (by omega) i6, k3 _ _ (by omega) (by omega) i7, fun j o ho => by
      have lj : j < st.length := (List.getElem?_eq_some_iff.1 ho).1
      exact k3 _ _ (by omega) (by omega) (i8 _ _ ho)⟩
  · rintro r ro s ⟨i1, i2, i3, i4, i5, i6, i7, i8⟩
    refine rfEnd_normal i4 (by decide) ?_
    have lsl : sa.length < s.length := (List.getElem?_eq_some_iff.1 i4).1
    generalize hsz : s.set sa.length _ = sz
    have kz : ∀ j o, j ≠ sa.length → s[j]? = some o → sz[j]? = some o := fun j o hj ho => by rw [← hsz, List.getElem?_set_ne (Ne.symm hj)]; exact ho
    have z3 := kz _ _ (by omega) i3
    have z5 := kz _ _ (by omega) i5
    have z7 := kz _ _ (by omega) i7
    have gz : Grw st sz := fun j o ho => by
      have lj : j < st.length := (List.getElem?_eq_some_iff.1 ho).1
      exact kz _ _ (by omega) (i8 _ _ ho)
    have hyz := (hb.grw gz).r
    have wz := hyz.w
    have alz := alen_rd hyz.rb Try.underlying63
    have ez : ((L.length : Int) == L.length) = true := by simp
    have bz : ∀ o, (sz.set (st.length + 1) o)[st.length + 1]? = some o := fun o => get_set z7 o
    simp only [z3, z5, z7, q4', q1, wz, alz, ez, bz, beq_self_eq_true, evf,↓evp,evq,evr,fxa0,fxa1,fxa2,fxa3,fxa4,fxu,fxn,fxl,↓fxp,lgc,absL,fitL,flatL,ares,ares1,ofVal,unSc,aload,afill,splice,abound,asI,elems,IntKind.bits,sortT,eqNil,closedL,allByte,patch,pendOK,numA,Value.cells,Value.oneCell',ibin,List.replicate,Option.elim,Nat.reduceAdd,Nat.reduceSub,Nat.reduceMul,Nat.reduceLT,Nat.reduceEqDiff,Nat.reduceLeDiff,Nat.reduceBEq,Int.reduceLE,Int.reduceLT,Int.reduceToNat,Int.reduceBNe,Int.reduceBEq,Int.reduceNeg,Int.reduceEq,Int.reduceNe,Nat.reduceBNe,Int.reduceAdd,Int.reduceSub,Int.reduceMul,Int.reducePow,Nat.reducePow,Int.reduceGT,Int.reduceGE,if_true,if_false,ite_true,ite_false,beq_self_eq_true,BEq.rfl,reduceCtorEq,eq_self,ne_eq,Function.comp_def,beq_iff_eq]
    exact hK _ (gz.set (by omega) _)
end
end Go.Proofs.Ytndjhaeeldegfaa
