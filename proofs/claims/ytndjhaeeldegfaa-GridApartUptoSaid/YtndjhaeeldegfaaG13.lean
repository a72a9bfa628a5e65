/- Chapter 4's reference: a building is placed. -/
import Derived.Test.YtndjhaeeldegfaaG12
set_option linter.unusedVariables false
set_option linter.unusedSimpArgs false
set_option maxRecDepth 10000
namespace Go.Proofs.Ytndjhaeeldegfaa
open Go Go.M Go.RowKit
attribute [local congr] acallF_cong aloop_cong bcase_cong resK_cong valK_cong wantK_cong callK_cong xputK_cong qputK_cong resM_cong rfK_cong
attribute [local irreducible] seqK blockK loopK nextK bcase resK valK wantK funK putK dputK xputK qputK callK aops aop acode adraw aloop acallF acall invK resM rfK rfEnd rdEnd rdMid around
theorem flat_takeB (L : List B4) (k : Nat) : (L.flatMap B4.v).take (k * 5) = (L.take k).flatMap B4.v := by
  induction L generalizing k with
  | nil => simp
  | cons u L ih =>
    cases k with
    | zero => simp
    | succ k =>
      have := ih k
      simp only [List.flatMap_cons, List.take_succ_cons, B4.v, bd, rc, List.cons_append, List.nil_append, Nat.succ_mul, this]
theorem flat_set (L : List B4) (u : B4) (i : Nat) (hi : i < L.length) : splice (L.flatMap B4.v) (B4.v u) (i * 5) = (L.set i u).flatMap B4.v := by
  unfold splice
  rw [flat_takeB, show i * 5 + (B4.v u).length = (i + 1) * 5 by simp [B4.v, bd, rc]; omega, flatMap_drop (f := B4.v) (s := 5) fun _ => rfl, List.set_eq_take_append_cons_drop, if_pos hi, List.flatMap_append, List.flatMap_cons, List.append_assoc]
theorem swap_list (A B : List B4) (a u : B4) : ((A ++ a :: u :: B).set (A.length + 1) a).set A.length u = A ++ u :: a :: B := by
  rw [List.set_append_right _ _ (by omega), Nat.add_sub_cancel_left, List.set_cons_succ, List.set_cons_zero, List.set_append_right _ _ (Nat.le_refl _), Nat.sub_self, List.set_cons_zero]
def insAt (p : Nat) (u : B4) (L : List B4) : List B4 := L.take p ++ u :: L.drop p
theorem insAt_len (p : Nat) (u : B4) (L : List B4) : (insAt p u L).length = L.length + 1 := by
  simp only [insAt, List.length_append, List.length_take, List.length_cons, List.length_drop]; omega
theorem insAt_swap (u : B4) (L : List B4) (i : Nat) (h0 : 0 < i) (hi : i ≤ L.length) : ((insAt i u L).set i (L[i - 1]'(by omega))).set (i - 1) u = insAt (i - 1) u L := by
  obtain ⟨j, rfl⟩ : ∃ j, i = j + 1 := ⟨i - 1, by omega⟩
  have hj : j < L.length := by omega
  simp only [Nat.add_sub_cancel]
  unfold insAt
  rw [List.take_succ_eq_append_getElem hj, List.append_assoc]
  have := swap_list (L.take j) (L.drop (j + 1)) L[j] u
  have hl : (L.take j).length = j := by rw [List.length_take]; omega
  rw [hl] at this
  rw [show ([L[j]] ++ u :: L.drop (j + 1)) = L[j] :: u :: L.drop (j + 1) from rfl, this, List.drop_eq_getElem_cons hj]
theorem insAt_at (u : B4) (L : List B4) (i : Nat) (hi : i ≤ L.length) : (insAt i u L)[i]'(by rw [insAt_len]; omega) = u := by
  unfold insAt
  rw [List.getElem_append_right (by rw [List.length_take]; omega)]
  simp only [List.length_take, Nat.min_eq_left hi, Nat.sub_self, List.getElem_cons_zero]
theorem insAt_pre (u : B4) (L : List B4) (i : Nat) (h0 : 0 < i) (hi : i ≤ L.length) : (insAt i u L)[i - 1]'(by rw [insAt_len]; omega) = L[i - 1]'(by omega) := by
  unfold insAt
  rw [List.getElem_append_left (by rw [List.length_take]; omega), List.getElem_take]
section
variable {s : List Ob} {rid n lo i : Nat} {L : List B4}
theorem row_at (h : s[rid]? = some (.row 90 (L.flatMap B4.v) n lo false)) (hlo : lo ≤ n) (hn : L.length = n) (hi : i < L.length) :
    aix Try.prog s 63 (.sl rid 0 n false n) (.sc (.int .i64 i)) = some (.rref rid (i * 5) n, s) ∧ afa Try.prog s 90 0 (.rref rid (i * 5) n) = some (.rref rid (i * 5) n, s) ∧
    ald Try.prog s 3 (.rref rid (i * 5) n) = some (.sc (.int .i64 L[i].id), s) ∧ ald Try.prog s 90 (.rref rid (i * 5) n) = some (.agg (B4.v L[i]), s) ∧
    ∀ u : B4, asto Try.prog s 90 (.rref rid (i * 5) n) (.agg (B4.v u)) = some (.sc undef, s.set rid (.row 90 ((L.set i u).flatMap B4.v) n n false)) := by
  subst hn
  have gl : Gl s 90 (.sl rid 0 L.length false L.length) (L.flatMap B4.v) L.length := .inr ⟨rid, lo, rfl, h, hlo⟩
  have rd := gl.rd sz90 (flatMap_len (f := B4.v) (s := 5) (fun _ => rfl) _)
  obtain ⟨p1, p2⟩ := ix_flat (f := B4.v) (fun a => rfl) rd Try.underlying63 sz90 ag90 (by omega) hi
  obtain ⟨p3, p4⟩ := b_id rd hi
  have e : ixp 5 (.sl rid 0 L.length false L.length) i 0 = .rref rid (i * 5) L.length := by simp [ixp]
  rw [e] at p1 p2 p3 p4
  refine ⟨p1, p3, p4, p2, fun u => ?_⟩
  rw [asto_rref, h]
  have hl : (L.flatMap B4.v).length = L.length * 5 := flatMap_len (f := B4.v) (s := 5) (fun _ => rfl) _
  have hb : i * 5 + 5 ≤ L.length * 5 := by omega
  have ec : cellsV (.agg (B4.v u)) = B4.v u := rfl
  simp only [ec]
  rw [if_pos ⟨by rw [sz90]; rfl, by rw [hl]; exact hb, trivial, trivial, rfl, rfl⟩, flat_set L u i hi]
end
theorem Gl.nrow {s : List Ob} {e e' : TypeId} {v v' : V} {xs xs' : List V} {n n' : Nat} (h : Gl s e v xs n) (h' : Gl s e' v' xs' n') (he : e ≠ e') : ∀ j, rowOf v = some j → rowOf v' ≠ some j := by
  intro j h1 h2
  rcases h with ⟨rfl, _, _⟩ | ⟨id, lo, rfl, h3, _⟩
  · cases h1
  rcases h' with ⟨rfl, _, _⟩ | ⟨id', lo', rfl, h4, _⟩
  · cases h2
  simp only [rowOf, Option.some.injEq] at h1 h2
  subst h1; subst h2
  rw [h3] at h4
  simp only [Option.some.injEq, Ob.row.injEq] at h4
  exact he h4.1
/-- Nothing has turned but the document's world. -/
def PR (rd : Nat) (bv ev : V) (s s' : List Ob) : Prop := s.length ≤ s'.length ∧ ∀ j o, j ≠ rd → rowOf bv ≠ some j → rowOf ev ≠ some j → s[j]? = some o → s'[j]? = some o
section
variable {n m : Nat} {st s : List Ob} {K : V → List Ob → Prop} {rd : Nat} {WW HH : Int} {tv bv ev : V} {ts : List V} {L : List B4} {ds : List R4} {x y w h id : Int}
set_option maxHeartbeats 4000000000000 in
theorem q_Place (hy : Wr st rd WW HH tv bv ev ts L ds) (hm : 300 < m) (hl : L.length ≤ 256) (hdl : ds.length < 4000000000000)
    (hK1 : mayR L WW HH id x y w h ≠ 0 → ∀ s, Grw st s → K (.sc (.int .i64 (mayR L WW HH id x y w h))) s)
    (hK0 : mayR L WW HH id x y w h = 0 → ∀ p bv' ev' s, p ≤ L.length → (∀ j (hj : j < L.length), p ≤ j → id < L[j].id) → (∀ hp : 0 < p, ∀ hq : p - 1 < L.length, ¬ id < L[p - 1].id) → Wr s rd WW HH tv bv' ev' ts (insAt p ⟨id, x, y, w, h⟩ L) (ds ++ [⟨x, y, w, h⟩]) → PR rd bv ev st s →
      (∀ j, rowOf bv' = some j → rowOf bv = some j ∨ st.length ≤ j) → (∀ j, rowOf ev' = some j → rowOf ev = some j ∨ st.length ≤ j) → K (.sc (.int .i64 0)) s) :
    acallF Try.prog pl (n + 8) m 76 [.ref rd 0, .agg (bd id x y w h)] st K := by
  refine acallF_inF Try.func76 rfl rfl Try.ntmps76 (by simp) ?_
  have g0 := Grw.push st [.cells (bd id x y w h)]
  have c0 : (st ++ [Ob.cells (bd id x y w h)])[st.length]? = some (.cells (bd id x y w h)) := get_new0 _ _
  simp only [bd, rc] at g0 c0
  simp only [bd, rc, evf,↓evp,evq,evr,fxa0,fxa1,fxa2,fxa3,fxa4,fxu,fxn,fxl,↓fxp,lgc,absL,fitL,flatL,ares,ares1,ofVal,unSc,aload,afill,splice,abound,asI,elems,IntKind.bits,sortT,eqNil,closedL,allByte,patch,pendOK,numA,Value.cells,Value.oneCell',ibin,List.replicate,Option.elim,Nat.reduceAdd,Nat.reduceSub,Nat.reduceMul,Nat.reduceLT,Nat.reduceEqDiff,Nat.reduceLeDiff,Nat.reduceBEq,Int.reduceLE,Int.reduceLT,Int.reduceToNat,Int.reduceBNe,Int.reduceBEq,Int.reduceNeg,Int.reduceEq,Int.reduceNe,Nat.reduceBNe,Int.reduceAdd,Int.reduceSub,Int.reduceMul,Int.reducePow,Nat.reducePow,Int.reduceGT,Int.reduceGE,if_true,if_false,ite_true,ite_false,beq_self_eq_true,BEq.rfl,reduceCtorEq,eq_self,ne_eq,Function.comp_def,beq_iff_eq]
  refine q_May (n := n) (hy.grw g0) (by omega) (by omega) fun s1 j1 => ?_
  have c1 := j1 _ _ c0
  have g1 := g0.trans j1
  have hy1 := hy.grw g1
  cases e0 : mayR L WW HH id x y w h != 0
  case true =>
    have e0' : mayR L WW HH id x y w h ≠ 0 := by simpa using e0
    simp only [e0, evf,↓evp,evq,evr,fxa0,fxa1,fxa2,fxa3,fxa4,fxu,fxn,fxl,↓fxp,lgc,absL,fitL,flatL,ares,ares1,ofVal,unSc,aload,afill,splice,abound,asI,elems,IntKind.bits,sortT,eqNil,closedL,allByte,patch,pendOK,numA,Value.cells,Value.oneCell',ibin,List.replicate,Option.elim,Nat.reduceAdd,Nat.reduceSub,Nat.reduceMul,Nat.reduceLT,Nat.reduceEqDiff,Nat.reduceLeDiff,Nat.reduceBEq,Int.reduceLE,Int.reduceLT,Int.reduceToNat,Int.reduceBNe,Int.reduceBEq,Int.reduceNeg,Int.reduceEq,Int.reduceNe,Nat.reduceBNe,Int.reduceAdd,Int.reduceSub,Int.reduceMul,Int.reducePow,Nat.reducePow,Int.reduceGT,Int.reduceGE,if_true,if_false,ite_true,ite_false,beq_self_eq_true,BEq.rfl,reduceCtorEq,eq_self,ne_eq,Function.comp_def,beq_iff_eq]
    exact hK1 e0' _ g1
  have e0' : mayR L WW HH id x y w h = 0 := by simpa using e0
  have hK0 := hK0 e0'
  have y1 := hy1.w
  have g2 := fun X => Grw.push s1 X
  have ndc : ∀ j, st.length ≤ j → rowOf bv ≠ some j := fun j hj h => by
    rcases hy.bl with ⟨rfl, _, _⟩ | ⟨id, lo, rfl, h1, _⟩
    · cases h
    · simp only [rowOf, Option.some.injEq] at h
      have := (List.getElem?_eq_some_iff.1 h1).1
      omega
  have nec : ∀ j, st.length ≤ j → rowOf ev ≠ some j := fun j hj h => by
    rcases hy.el with ⟨rfl, _, _⟩ | ⟨id, lo, rfl, h1, _⟩
    · cases h
    · simp only [rowOf, Option.some.injEq] at h
      have := (List.getElem?_eq_some_iff.1 h1).1
      omega
  have nbr : rowOf bv ≠ some rd := hy.bl.ncells hy.w
  have ner : rowOf ev ≠ some rd := hy.el.ncells hy.w
  have hr0 : rd < st.length := (List.getElem?_eq_some_iff.1 hy.w).1
  have l1 : st.length < s1.length := (List.getElem?_eq_some_iff.1 c1).1
  obtain ⟨bv', s3, ap, bl3, tr3, nw3⟩ := gl_app (P := Try.prog) (t := 63) (s := s1 ++ [.row 90 (bd id x y w h) 1 0 false]) (x := .sl s1.length 0 1 false 1) (zs := bd id x y w h) (k := 1) (hy1.bl.grw (g2 _)) Try.underlying63 sz90 by90 ze90 (by omega) rfl (flatMap_len (f := B4.v) (s := 5) (fun _ => rfl) _) (by simp only [elems, get_new0, List.getElem?_cons_zero, sz90]; rfl) rfl rfl (by omega) (by omega)
  have f3 : ∀ j o, rowOf bv ≠ some j → s1[j]? = some o → s3[j]? = some o := fun j o hj ho => tr3.2 _ _ hj (g2 _ _ _ ho)
  have c3 := f3 _ _ (ndc _ (Nat.le_refl _)) c1
  have y3 := f3 _ _ nbr y1
  have c1X := fun X => g2 X _ _ c1
  have y1X := fun X => g2 X _ _ y1
  obtain ⟨hone, hcell⟩ := bl3.one
  have r3 : s3[s1.length]? = some (.row 90 (bd id x y w h) 1 0 false) := tr3.2 _ _ (ndc _ (by omega)) (get_new0 _ _)
  have r3' : ∀ o, (s3.set rd o)[s1.length]? = some (.row 90 (bd id x y w h) 1 0 false) := fun o => by rw [List.getElem?_set_ne (by omega)]; exact r3
  have lrd : rd < s3.length := (List.getElem?_eq_some_iff.1 y3).1
  have y3' : ∀ o, (s3.set rd o)[rd]? = some o := fun o => List.getElem?_set_self lrd
  have k4 : ∀ (o' : Ob) j o, j ≠ rd → s3[j]? = some o → (s3.set rd o')[j]? = some o := fun o' j o hj ho => by rw [List.getElem?_set_ne (Ne.symm hj)]; exact ho
  have bl4 : ∀ o, Gl (s3.set rd o) 90 bv' ((insAt L.length ⟨id, x, y, w, h⟩ L).flatMap B4.v) (L.length + 1) := fun o => by
    have e : (insAt L.length ⟨id, x, y, w, h⟩ L).flatMap B4.v = L.flatMap B4.v ++ bd id x y w h := by simp [insAt, B4.v]
    rw [e]
    refine bl3.of fun j o' hj ho => k4 _ _ _ (fun hh => ?_) ho
    rcases nw3 j hj with h' | h'
    · exact nbr (by rw [← hh]; exact h')
    · simp only [List.length_append] at h'; omega
  have al4 : ∀ o, alen Try.prog (s3.set rd o) 63 bv' = some (.sc (.int .i64 ((L.length + 1 : Nat) : Int)), s3.set rd o) := fun o => alen_rd ((bl4 o).rd sz90 (by rw [flatMap_len (f := B4.v) (s := 5) (fun _ => rfl), insAt_len])) Try.underlying63
  have e5 : IntKind.i64.wrap (((L.length + 1 : Nat) : Int) - 1) = ((L.length : Nat) : Int) := by rw [IntWalk.i64_in _ (by omega)]; omega
  simp only [bd, rc] at ap r3'
  simp only [c1, y1, c1X, y1X, c3, y3, ap, hone, hcell, r3', y3', al4, e5, e0, evf,↓evp,evq,evr,fxa0,fxa1,fxa2,fxa3,fxa4,fxu,fxn,fxl,↓fxp,lgc,absL,fitL,flatL,ares,ares1,ofVal,unSc,aload,afill,splice,abound,asI,elems,IntKind.bits,sortT,eqNil,closedL,allByte,patch,pendOK,numA,Value.cells,Value.oneCell',ibin,List.replicate,Option.elim,Nat.reduceAdd,Nat.reduceSub,Nat.reduceMul,Nat.reduceLT,Nat.reduceEqDiff,Nat.reduceLeDiff,Nat.reduceBEq,Int.reduceLE,Int.reduceLT,Int.reduceToNat,Int.reduceBNe,Int.reduceBEq,Int.reduceNeg,Int.reduceEq,Int.reduceNe,Nat.reduceBNe,Int.reduceAdd,Int.reduceSub,Int.reduceMul,Int.reducePow,Nat.reducePow,Int.reduceGT,Int.reduceGE,if_true,if_false,ite_true,ite_false,beq_self_eq_true,BEq.rfl,reduceCtorEq,eq_self,ne_eq,Function.comp_def,beq_iff_eq]
  generalize hs4 : s3.set rd _ = s4
  have y4 : s4[rd]? = some (.cells [.sc (.int .i64 WW), .sc (.int .i64 HH), tv, bv', ev]) := by rw [← hs4]; exact y3' _
  have c4 : s4[st.length]? = some (.cells (bd id x y w h)) := by rw [← hs4]; exact k4 _ _ _ (by omega) c3
  have b4 : Gl s4 90 bv' ((insAt L.length ⟨id, x, y, w, h⟩ L).flatMap B4.v) (L.length + 1) := by rw [← hs4]; exact bl4 _
  have fr4 : ∀ j o, j ≠ rd → rowOf bv ≠ some j → s1[j]? = some o → s4[j]? = some o := fun j o hj hb ho => by rw [← hs4]; exact k4 _ _ _ hj (f3 _ _ hb ho)
  obtain ⟨rid, hbv⟩ : ∃ rid, bv' = .sl rid 0 (L.length + 1) false (L.length + 1) := by
    rcases b4 with ⟨_, _, h⟩ | ⟨id, lo, h, _⟩
    · omega
    · exact ⟨id, h⟩
  have nrid : rid ≠ rd := fun hh => b4.ncells y4 (by rw [hbv]; exact congrArg some hh)
  have nric : rid ≠ st.length := fun hh => b4.ncells c4 (by rw [hbv]; exact congrArg some hh)
  have orid : rowOf bv = some rid ∨ s1.length < rid := by
    rcases nw3 rid (by rw [hbv]; rfl) with h | h
    · exact .inl h
    · exact .inr (by simp only [List.length_append, List.length_cons, List.length_nil] at h; omega)
  have l34 : s4.length = s3.length := by rw [← hs4, List.length_set]
  refine aloop_forF (fun k f s => ∃ i lo : Nat, k + (L.length - i) = m ∧ i ≤ L.length ∧ (∀ j (hj : j < L.length), i ≤ j → id < L[j].id) ∧ lo ≤ L.length + 1 ∧ s[rid]? = some (.row 90 ((insAt i ⟨id, x, y, w, h⟩ L).flatMap B4.v) (L.length + 1) lo false) ∧ s4.length ≤ s.length ∧ (∀ j o, j ≠ rid → s4[j]? = some o → s[j]? = some o) ∧ f 0 = .ref rd 0 ∧ f 3 = .ref st.length 0 ∧ f 6 = .sc (.int .i64 i))
    ⟨L.length, ?_⟩ ?_
  · rcases b4 with ⟨_, _, h⟩ | ⟨id, lo, h, h1, h2⟩
    · omega
    · rw [hbv] at h; cases h
      exact ⟨lo, by omega, Nat.le_refl _, fun j h1 h2 => by omega, h2, h1, Nat.le_refl _, fun j o _ h => h, by simp only [evf, ne_eq, Nat.reduceEqDiff, Nat.reduceLT, not_false_eq_true], by simp only [evf, ne_eq, Nat.reduceEqDiff, Nat.reduceLT, not_false_eq_true], by simp only [evf, ne_eq, Nat.reduceEqDiff, Nat.reduceLT, not_false_eq_true]⟩
  rintro I' hI' k f s ⟨i, lo, hk, hi, hp, hlo, hrow, hls, hfr, f0, f3', f6⟩
  refine ⟨k - 1, by omega, ?_⟩
  have ys := hfr _ _ (Ne.symm nrid) y4
  have cs := hfr _ _ (Ne.symm nric) c4
  have e6 : 0 < i → IntKind.i64.wrap ((i : Int) - 1) = ((i - 1 : Nat) : Int) := fun h0 => by rw [IntWalk.i64_in _ (by omega)]; omega
  -- how the loop ends
  have eb : ∀ j, rowOf ev = some j → rowOf bv ≠ some j := hy.el.nrow hy.bl (by decide)
  have el4 : Gl s4 78 ev (ds.flatMap R4.v) ds.length := hy1.el.of fun j o hj ho => fr4 _ _ (fun h => ner (by rw [← h]; exact hj)) (eb j hj) ho
  have erid : rowOf ev ≠ some rid := fun h => el4.nrow b4 (by decide) rid h (by rw [hbv]; rfl)
  have els : Gl s 78 ev (ds.flatMap R4.v) ds.length := el4.of fun j o hj ho => hfr _ _ (fun h => erid (by rw [← h]; exact hj)) ho
  have gs := fun X => Grw.push s X
  obtain ⟨ev', s6, ap6, el6, tr6, nw6⟩ := gl_app (P := Try.prog) (t := 83) (s := s ++ [.row 78 (rc x y w h) 1 0 false]) (x := .sl s.length 0 1 false 1) (zs := rc x y w h) (k := 1) (els.grw (gs _)) Try.underlying83 sz78 by78 ze78 (by omega) rfl (flatMap_len (f := R4.v) (s := 4) (fun _ => rfl) _) (by simp only [elems, get_new0, List.getElem?_cons_zero, sz78]; rfl) rfl rfl (by omega) (by omega)
  have f6' : ∀ j o, rowOf ev ≠ some j → s[j]? = some o → s6[j]? = some o := fun j o hj ho => tr6.2 _ _ hj (gs _ _ _ ho)
  have y6 := f6' _ _ ner ys
  have c6 := f6' _ _ (nec _ (Nat.le_refl _)) cs
  have ysX := fun X => gs X _ _ ys
  have csX := fun X => gs X _ _ cs
  have l41 : s1.length ≤ s4.length := by
    have := tr3.1
    simp only [List.length_append] at this
    omega
  have r6 : s6[s.length]? = some (.row 78 (rc x y w h) 1 0 false) := tr6.2 _ _ (nec _ (by omega)) (get_new0 _ _)
  have r6' : ∀ o, (s6.set rd o)[s.length]? = some (.row 78 (rc x y w h) 1 0 false) := fun o => by rw [List.getElem?_set_ne (by omega)]; exact r6
  obtain ⟨hone6, hcell6⟩ := el6.one
  have lrd6 : rd < s6.length := (List.getElem?_eq_some_iff.1 y6).1
  have ls6 : s.length + 1 ≤ s6.length := by have := tr6.1; simpa using this
  have fin : (∀ hp : 0 < i, ∀ hq : i - 1 < L.length, ¬ id < L[i - 1].id) → K (.sc (.int .i64 0)) (s6.set rd (Ob.cells [.sc (.int .i64 WW), .sc (.int .i64 HH), tv, bv', ev'])) := by
    intro hstop
    have k8 : ∀ (o' : Ob) j o, j ≠ rd → s6[j]? = some o → (s6.set rd o')[j]? = some o := fun o' j o hj ho => by rw [List.getElem?_set_ne (Ne.symm hj)]; exact ho
    have tbr : ∀ j, rowOf tv = some j → j ≠ rd ∧ rowOf bv ≠ some j ∧ rowOf ev ≠ some j ∧ j < st.length := fun j hj => by
      refine ⟨fun h => hy.tl.ncells hy.w (by rw [← h]; exact hj), hy.tl.nrow hy.bl (by decide) j hj, hy.tl.nrow hy.el (by decide) j hj, ?_⟩
      rcases hy.tl with ⟨rfl, _, _⟩ | ⟨id, lo, rfl, h1, _⟩
      · cases hj
      · simp only [rowOf, Option.some.injEq] at hj
        have := (List.getElem?_eq_some_iff.1 h1).1
        omega
    have trid : ∀ j, rowOf tv = some j → j ≠ rid := fun j hj h => by
      obtain ⟨_, t2, _, t4⟩ := tbr j hj
      subst h
      rcases orid with h | h
      · exact t2 h
      · omega
    refine hK0 i bv' ev' _ hi hp hstop ⟨List.getElem?_set_self lrd6, ?_, ?_, ?_⟩ ⟨by rw [List.length_set]; omega, fun j o h1 h2 h3 ho => ?_⟩ ?_ ?_
    · refine hy.tl.of fun j o hj ho => ?_
      obtain ⟨t1, t2, t3, t4⟩ := tbr j hj
      exact k8 _ _ _ t1 (f6' _ _ t3 (hfr _ _ (trid j hj) (fr4 _ _ t1 t2 (g1 _ _ ho))))
    · rw [insAt_len, hbv]
      exact .inr ⟨rid, lo, rfl, k8 _ _ _ nrid (f6' _ _ erid hrow), hlo⟩
    · have e : (ds ++ [(⟨x, y, w, h⟩ : R4)]).flatMap R4.v = ds.flatMap R4.v ++ rc x y w h := by simp [List.flatMap_append, R4.v]
      have e2 : (ds ++ [(⟨x, y, w, h⟩ : R4)]).length = ds.length + 1 := by simp
      rw [e, e2]
      refine el6.of fun j o hj ho => k8 _ _ _ (fun hh => ?_) ho
      rcases nw6 j hj with h' | h'
      · exact ner (by rw [← hh]; exact h')
      · simp only [List.length_append] at h'; omega
    · have lj : j < st.length := (List.getElem?_eq_some_iff.1 ho).1
      refine k8 _ _ _ h1 (f6' _ _ h3 (hfr _ _ (fun hh => ?_) (fr4 _ _ h1 h2 (g1 _ _ ho))))
      subst hh
      rcases orid with h | h
      · exact h2 h
      · omega
    · intro j hj
      rw [hbv] at hj
      simp only [rowOf, Option.some.injEq] at hj
      subst hj
      rcases orid with h | h
      · exact .inl h
      · exact .inr (by omega)
    · intro j hj
      rcases nw6 j hj with h' | h'
      · exact .inl h'
      · exact .inr (by simp only [List.length_append] at h'; omega)
  simp only [rc] at ap6 r6'
  simp only [bd, rc] at cs csX c6
  by_cases h0 : 0 < i
  · have d : decide ((i : Int) > 0) = true := decide_eq_true (by omega)
    obtain ⟨a1, a2, a3, a4, a5⟩ := row_at hrow hlo (insAt_len _ _ _) (i := i) (by rw [insAt_len]; omega)
    obtain ⟨z1, z2, z3, z4, z5⟩ := row_at hrow hlo (insAt_len _ _ _) (i := i - 1) (by rw [insAt_len]; omega)
    rw [insAt_at _ _ _ hi] at a3 a4
    rw [insAt_pre _ _ _ h0 hi] at z3 z4
    have a5 := a5 (L[i - 1]'(by omega))
    obtain ⟨sA, hsA⟩ : ∃ sA, sA = s.set rid (.row 90 (((insAt i ⟨id, x, y, w, h⟩ L).set i (L[i - 1]'(by omega))).flatMap B4.v) (L.length + 1) (L.length + 1) false) := ⟨_, rfl⟩
    have lrid : rid < s.length := (List.getElem?_eq_some_iff.1 hrow).1
    have hrA : sA[rid]? = some (.row 90 (((insAt i ⟨id, x, y, w, h⟩ L).set i (L[i - 1]'(by omega))).flatMap B4.v) (L.length + 1) (L.length + 1) false) := by rw [hsA]; exact List.getElem?_set_self lrid
    have yA : sA[rd]? = some (.cells [.sc (.int .i64 WW), .sc (.int .i64 HH), tv, bv', ev]) := by rw [hsA, List.getElem?_set_ne nrid]; exact ys
    obtain ⟨w1, w2, _, _, w5⟩ := row_at hrA (Nat.le_refl _) (by rw [List.length_set, insAt_len]) (i := i - 1) (by rw [List.length_set, insAt_len]; omega)
    obtain ⟨v1, v2, _, _, _⟩ := row_at hrA (Nat.le_refl _) (by rw [List.length_set, insAt_len]) (i := i) (by rw [List.length_set, insAt_len]; omega)
    have w5 := w5 ⟨id, x, y, w, h⟩
    rw [insAt_swap _ _ _ h0 hi, hsA, List.set_set, ← hsA] at w5
    rw [← hsA] at a5
    rw [← hbv] at a1 z1 w1 v1
    obtain ⟨Ai, hAi⟩ : ∃ A, A = V.rref rid (i * 5) (L.length + 1) := ⟨_, rfl⟩
    obtain ⟨Aj, hAj⟩ : ∃ A, A = V.rref rid ((i - 1) * 5) (L.length + 1) := ⟨_, rfl⟩
    rw [← hAi] at a1 a2 a3 a4 a5 v1 v2
    rw [← hAj] at z1 z2 z3 z4 w1 w2 w5
    have e6' := e6 h0
    cases q : decide (id < (L[i - 1]'(by omega)).id)
    · have fin := fin fun _ _ => of_decide_eq_false q
      simp only [f0, f3', f6, d, ys, cs, ysX, csX, y6, c6, ap6, hone6, hcell6, r6', a1, a2, a3, z1, z2, z3, q, e6', evf,↓evp,evq,evr,fxa0,fxa1,fxa2,fxa3,fxa4,fxu,fxn,fxl,↓fxp,lgc,absL,fitL,flatL,ares,ares1,ofVal,unSc,aload,afill,splice,abound,asI,elems,IntKind.bits,sortT,eqNil,closedL,allByte,patch,pendOK,numA,Value.cells,Value.oneCell',ibin,List.replicate,Option.elim,Nat.reduceAdd,Nat.reduceSub,Nat.reduceMul,Nat.reduceLT,Nat.reduceEqDiff,Nat.reduceLeDiff,Nat.reduceBEq,Int.reduceLE,Int.reduceLT,Int.reduceToNat,Int.reduceBNe,Int.reduceBEq,Int.reduceNeg,Int.reduceEq,Int.reduceNe,Nat.reduceBNe,Int.reduceAdd,Int.reduceSub,Int.reduceMul,Int.reducePow,Nat.reducePow,Int.reduceGT,Int.reduceGE,if_true,if_false,ite_true,ite_false,beq_self_eq_true,BEq.rfl,reduceCtorEq,eq_self,ne_eq,Function.comp_def,beq_iff_eq]
      exact fin
    · simp only [B4.v, bd, rc] at a4 a5 z4 w5
      simp only [f0, f3', f6, d, ys, yA, a1, a2, a3, a4, a5, z1, z2, z3, z4, w1, w2, w5, v1, v2, q, e6', B4.v, bd, rc, evf,↓evp,evq,evr,fxa0,fxa1,fxa2,fxa3,fxa4,fxu,fxn,fxl,↓fxp,lgc,absL,fitL,flatL,ares,ares1,ofVal,unSc,aload,afill,splice,abound,asI,elems,IntKind.bits,sortT,eqNil,closedL,allByte,patch,pendOK,numA,Value.cells,Value.oneCell',ibin,List.replicate,Option.elim,Nat.reduceAdd,Nat.reduceSub,Nat.reduceMul,Nat.reduceLT,Nat.reduceEqDiff,Nat.reduceLeDiff,Nat.reduceBEq,Int.reduceLE,Int.reduceLT,Int.reduceToNat,Int.reduceBNe,Int.reduceBEq,Int.reduceNeg,Int.reduceEq,Int.reduceNe,Nat.reduceBNe,Int.reduceAdd,Int.reduceSub,Int.reduceMul,Int.reducePow,Nat.reducePow,Int.reduceGT,Int.reduceGE,if_true,if_false,ite_true,ite_false,beq_self_eq_true,BEq.rfl,reduceCtorEq,eq_self,ne_eq,Function.comp_def,beq_iff_eq]
      clear fin
      refine hI' _ _ _ ⟨i - 1, L.length + 1, by omega, by omega, fun j h1 h2 => ?_, by omega, List.getElem?_set_self lrid, by rw [List.length_set]; exact hls, fun j o hj ho => by rw [List.getElem?_set_ne (Ne.symm hj)]; exact hfr _ _ hj ho, by simp only [f0, evf, ne_eq, Nat.reduceEqDiff, Nat.reduceLT, not_false_eq_true], by simp only [f3', evf, ne_eq, Nat.reduceEqDiff, Nat.reduceLT, not_false_eq_true], by simp only [evf, ne_eq, Nat.reduceEqDiff, Nat.reduceLT, not_false_eq_true]⟩
      by_cases hji : j = i - 1
      · subst hji; exact of_decide_eq_true q
      · exact hp j h1 (by omega)
  · have d : decide ((i : Int) > 0) = false := decide_eq_false (by omega)
    have fin := fin (by intro h; exact absurd h h0)
    simp only [f0, f3', f6, d, ys, cs, ysX, csX, y6, c6, ap6, hone6, hcell6, r6', evf,↓evp,evq,evr,fxa0,fxa1,fxa2,fxa3,fxa4,fxu,fxn,fxl,↓fxp,lgc,absL,fitL,flatL,ares,ares1,ofVal,unSc,aload,afill,splice,abound,asI,elems,IntKind.bits,sortT,eqNil,closedL,allByte,patch,pendOK,numA,Value.cells,Value.oneCell',ibin,List.replicate,Option.elim,Nat.reduceAdd,Nat.reduceSub,Nat.reduceMul,Nat.reduceLT,Nat.reduceEqDiff,Nat.reduceLeDiff,Nat.reduceBEq,Int.reduceLE,Int.reduceLT,Int.reduceToNat,Int.reduceBNe,Int.reduceBEq,Int.reduceNeg,Int.reduceEq,Int.reduceNe,Nat.reduceBNe,Int.reduceAdd,Int.reduceSub,Int.reduceMul,Int.reducePow,Nat.reducePow,Int.reduceGT,Int.reduceGE,if_true,if_false,ite_true,ite_false,beq_self_eq_true,BEq.rfl,reduceCtorEq,eq_self,ne_eq,Function.comp_def,beq_iff_eq]
    exact fin
end
end Go.Proofs.Ytndjhaeeldegfaa
