/- Chapters 5 and 22: acts, units and claims, as they are handed in. Chapter 22: an index and a table over it, both ways. Chapter 22: a table's claims, told as moved units. Chapter 22: all claims, by rising numbers; all stand where they claimed. Chapter 22: all stand where they claimed. Chapter 22: claims, as they are handed in; old and new places. -/
import Derived.Test.YtgmccnnjpejigaaX5
import Derived.Test.YtgmccnnjpejigaaX3
set_option linter.unusedVariables false
set_option linter.unusedSimpArgs false
set_option maxRecDepth 10000
namespace Go.Proofs.Ytgmccnnjpejigaa
open Go Go.M Go.RowKit
attribute [local congr] acallF_cong aloop_cong bcase_cong resK_cong valK_cong wantK_cong callK_cong xputK_cong qputK_cong resM_cong rfK_cong
attribute [local irreducible] seqK blockK loopK nextK bcase resK valK wantK funK putK dputK xputK qputK callK aops aop acode adraw aloop acallF acall invK resM rfK rfEnd rdEnd rdMid around
/-! ### Chapters 5 and 22: acts, units and claims, as they are handed in. -/
theorem bytes_of {t : TypeId} {b : Nat} (h : M.bytesOf Try.prog t = some b) : Try.prog.bytesOf t = b := by
  unfold M.bytesOf at h
  unfold Program.bytesOf
  rw [h]; rfl
theorem wf_inR {i : Int} (h : (Lit.int IntKind.i64 i).wf = true) : inR i := by
  simp [Lit.wf, IntKind.max, IntKind.min, IntKind.signed, IntKind.bits] at h
  unfold inR; omega
set_option maxRecDepth 100000 in
theorem tv_rect {k : Nat} {ys : List V} (h : TV Try.prog (k + 2) 34 ys) : ∃ x y w hh : Int, ys = rc x y w hh := by
  have h := tv_struct h Try.underlying34
  obtain ⟨a0, b0, rfl, j0, h⟩ := h
  obtain ⟨a1, b1, rfl, j1, h⟩ := h
  obtain ⟨a2, b2, rfl, j2, h⟩ := h
  obtain rfl : b2 = [] := h
  have h := tv_struct j0 Try.underlying32
  obtain ⟨a3, b3, rfl, j3, h⟩ := h
  obtain ⟨a4, b4, rfl, j4, h⟩ := h
  obtain rfl : b4 = [] := h
  obtain ⟨x, rfl, _⟩ := tv_int j3 Try.underlying3
  obtain ⟨y, rfl, _⟩ := tv_int j4 Try.underlying3
  obtain ⟨w, rfl, _⟩ := tv_int j1 Try.underlying3
  obtain ⟨hh, rfl, _⟩ := tv_int j2 Try.underlying3
  exact ⟨x, y, w, hh, rfl⟩
set_option maxRecDepth 100000 in
theorem tv_acts {k : Nat} {ys : List V} (h : TV Try.prog (k + 5) 22 ys) : ∃ (lv : V) (E : List A6), ys = [lv] ∧ (∀ s, Rd Try.prog s 36 lv (E.flatMap A6.v) E.length) ∧ (∀ e ∈ E, inR e.id) ∧ E.length ≤ 2932031007402 := by
  obtain ⟨us, n, nil, full, rfl, hu, hn, hnil⟩ := tv_slice h Try.underlying22
  obtain ⟨E, rfl, rfl, hE⟩ := TVn.list (f := A6.v) (Q := fun e => inR e.id) (fun ys hy => by
    have h := tv_struct hy Try.underlying36
    obtain ⟨y1, z1, rfl, h1, h⟩ := h
    obtain ⟨y2, z2, rfl, h2, h⟩ := h
    obtain ⟨y3, z3, rfl, h3, h⟩ := h
    obtain rfl : z3 = [] := h
    obtain ⟨d, rfl, _⟩ := tv_int h1 Try.underlying3
    obtain ⟨i, rfl, hi⟩ := tv_int h2 Try.underlying3
    obtain ⟨x, y, w, hh, rfl⟩ := tv_rect h3
    exact ⟨⟨d, i, x, y, w, hh⟩, by simp [A6.v, rc], wf_inR hi⟩) hu
  rw [bytes_of by36] at hn
  have er : reachBytes = 140737488351232 := rfl
  rw [er] at hn
  exact ⟨.tsl (E.flatMap A6.v) E.length nil full, E, rfl, fun s => tsl_rd sz36 (flatMap_len (f := A6.v) (s := 6) (fun _ => rfl) _) (fun h => (hnil h).1), hE, by omega⟩
/-! ### Chapter 22: an index and a table over it, both ways. -/
section
variable {n m : Nat} {st s : List Ob} {K : V → List Ob → Prop} {L E : List U} {x y w h id : Int} {sv lv : V} {iy : Nat}
theorem r_PutR (hy : Ri st iy sv L) (hm : 300 < m) (hl : L.length ≤ 256)
    (hK1 : putR L id x y w h ≠ 0 → ∀ s, Grw st s → K (.sc (.int .i64 (putR L id x y w h))) s)
    (hK0 : putR L id x y w h = 0 → ∀ sv' s, Ri s iy sv' (insU ⟨id, x, y, w, h⟩ L) → (∀ j o, j ≠ iy → st[j]? = some o → s[j]? = some o) → K (.sc (.int .i64 0)) s) :
    acallF Try.prog pl (n + 7) m 56 [.ref iy 0, .sc (.int .i64 id), .agg (rc x y w h)] st K := by
  unfold putR at hK1 hK0
  refine r_Put hy (by omega) (by omega) (fun e s g => ?_) (fun e1 e2 e3 e4 s g => ?_) (fun e1 e2 e3 e4 e5 s g => ?_) (fun e1 e2 e3 e4 e5 e6 s g => ?_) fun e1 e2 e3 e4 e5 e6 sv' s h1 h2 => ?_
  · rw [if_pos e] at hK1
    exact hK1 (by decide) s g
  all_goals have en : ¬ (mayB x y w h = false ∨ w > 4 ∨ h > 4) := by rw [e1]; simp; omega
  all_goals rw [if_neg en] at hK1 hK0
  · rw [if_pos e4] at hK1
    exact hK1 (by decide) s g
  all_goals rw [if_neg (by omega)] at hK1 hK0
  · rw [if_pos e5] at hK1
    exact hK1 (by decide) s g
  all_goals rw [if_neg (by omega)] at hK1 hK0
  · rw [if_pos e6] at hK1
    exact hK1 (by decide) s g
  · rw [if_neg (by rw [e6]; decide)] at hK0
    exact hK0 rfl sv' s h1 h2
theorem m_id (hv : Rd Try.prog s 130 lv (E.flatMap U.v) E.length) {i : Nat} (hi : i < E.length) : afa Try.prog s 130 0 (ixp 5 lv i 0) = some (ixp 5 lv i 0, s) ∧ ald Try.prog s 3 (ixp 5 lv i 0) = some (.sc (.int .i64 E[i].id), s) := by
  refine ⟨afa_ix hv (i := 0) (off := 0) (k := 1) (ft := 3) (by kernel_rfl) (by omega) i 0, ?_⟩
  rw [ald_ix hv sz130 sz3 (by omega) hi (by omega)]
  simp only [aload, ag3, Nat.add_zero]
  rw [flatMap_at (f := U.v) (s := 5) (fun a => rfl) E i hi]
  rfl
theorem m_r (hv : Rd Try.prog s 130 lv (E.flatMap U.v) E.length) {i : Nat} (hi : i < E.length) : afa Try.prog s 130 1 (ixp 5 lv i 0) = some (ixp 5 lv i 1, s) ∧ ald Try.prog s 34 (ixp 5 lv i 1) = some (.agg (rc E[i].x E[i].y E[i].w E[i].h), s) := by
  refine ⟨afa_ix hv (i := 1) (off := 1) (k := 4) (ft := 34) (by kernel_rfl) (by omega) i 0, ?_⟩
  rw [ald_ix hv sz130 sz34 (by omega) hi (by omega)]
  have e : (E.flatMap U.v).drop (i * 5 + 1) = rc E[i].x E[i].y E[i].w E[i].h ++ (E.drop (i + 1)).flatMap U.v := by
    rw [← List.drop_drop, flatMap_at (f := U.v) (s := 5) (fun a => rfl) E i hi]
    rfl
  rw [e]
  simp only [aload, ag34, sz34]
  rw [if_pos (by simp [rc])]
  rfl
set_option maxHeartbeats 4000000 in
theorem l22_Made (he : ∀ s, Rd Try.prog s 130 lv (E.flatMap U.v) E.length) (hid : ∀ e ∈ E, inR e.id) (hEm : E.length < m) (hEl : E.length ≤ 3518437208883) (hm : 300 < m)
    (hK : ∀ s ix a b tb u c z iy us os L sv, a ≠ b → u ≠ c → (a ≠ u ∧ a ≠ c ∧ b ≠ u ∧ b ≠ c) → Ix s ix a b us os → Rel us os L → Gd L → Tb s tb ix u c [] [] → s[z]? = some (.cells [.ref iy 0, .tsl [] 0 true true]) → Ri s iy sv L → Grw st s → (st.length ≤ ix ∧ st.length ≤ a ∧ st.length ≤ b ∧ st.length ≤ u ∧ st.length ≤ c ∧ st.length ≤ tb ∧ st.length ≤ z ∧ st.length ≤ iy) → K (.tup [.ref ix 0, .ref tb 0, .ref z 0]) s) :
    acallF Try.prog pl (n + 8) m 42 [lv] st K := by
  refine acallF_inF Try.func42 rfl rfl Try.ntmps42 (by simp) ?_
  simp only [evf,↓evp,evq,evr,fxa0,fxa1,fxa2,fxa3,fxa4,fxu,fxn,fxl,↓fxp,lgc,absL,fitL,flatL,ares,ares1,ofVal,unSc,aload,afill,splice,abound,asI,elems,IntKind.bits,sortT,eqNil,closedL,allByte,patch,pendOK,numA,Value.cells,Value.oneCell',ibin,List.replicate,Option.elim,Nat.reduceAdd,Nat.reduceSub,Nat.reduceMul,Nat.reduceLT,Nat.reduceEqDiff,Nat.reduceLeDiff,Nat.reduceBEq,Int.reduceLE,Int.reduceLT,Int.reduceToNat,Int.reduceBNe,Int.reduceBEq,Int.reduceNeg,Int.reduceEq,Int.reduceNe,Nat.reduceBNe,Int.reduceAdd,Int.reduceSub,Int.reduceMul,Int.reducePow,Nat.reducePow,Int.reduceGT,Int.reduceGE,if_true,if_false,ite_true,ite_false,beq_self_eq_true,BEq.rfl,reduceCtorEq,eq_self,ne_eq,Function.comp_def,beq_iff_eq]
  refine o_New (n := n + 6) fun s1 i1 g1 => ?_
  have y1 : (s1 ++ [Ob.cells [V.tsl [] 0 true true]])[s1.length]? = some (.cells [V.tsl [] 0 true true]) := get_new0 _ _
  have h1 := i1.grw (Grw.push s1 [Ob.cells [V.tsl [] 0 true true]])
  have g2 := g1.push' [Ob.cells [V.tsl [] 0 true true]]
  have ny : st.length + 2 < s1.length := (List.getElem?_eq_some_iff.1 i1.ix).1
  simp only [evf,↓evp,evq,evr,fxa0,fxa1,fxa2,fxa3,fxa4,fxu,fxn,fxl,↓fxp,lgc,absL,fitL,flatL,ares,ares1,ofVal,unSc,aload,afill,splice,abound,asI,elems,IntKind.bits,sortT,eqNil,closedL,allByte,patch,pendOK,numA,Value.cells,Value.oneCell',ibin,List.replicate,Option.elim,Nat.reduceAdd,Nat.reduceSub,Nat.reduceMul,Nat.reduceLT,Nat.reduceEqDiff,Nat.reduceLeDiff,Nat.reduceBEq,Int.reduceLE,Int.reduceLT,Int.reduceToNat,Int.reduceBNe,Int.reduceBEq,Int.reduceNeg,Int.reduceEq,Int.reduceNe,Nat.reduceBNe,Int.reduceAdd,Int.reduceSub,Int.reduceMul,Int.reducePow,Nat.reducePow,Int.reduceGT,Int.reduceGE,if_true,if_false,ite_true,ite_false,beq_self_eq_true,BEq.rfl,reduceCtorEq,eq_self,ne_eq,Function.comp_def,beq_iff_eq]
  generalize (s1 ++ [Ob.cells [V.tsl [] 0 true true]]) = s2 at y1 h1 g2
  have r2 : Ri s2 s1.length (V.tsl [] 0 true true) [] := ⟨y1, ⟨rfl, ⟨fun b hb => (by cases hb), fun _ => rfl⟩, fun _ _ => by simp⟩, .inl ⟨_, _, _, _, rfl⟩, fun _ => rfl⟩
  refine aloop_forF (fun k f s => ∃ (i : Nat) (us : List (Int × V)) (os : List ((Int × Int) × V)) (L : List U) (sv : V), k + i = m ∧ i ≤ E.length ∧ Grw st s ∧ Ix s (st.length + 2) st.length (st.length + 1) us os ∧ Rel us os L ∧ Gd L ∧ Ri s s1.length sv L ∧
    f 0 = lv ∧ f 5 = .ref (st.length + 2) 0 ∧ f 6 = .ref s1.length 0 ∧ f 7 = .sc (.int .i64 i)) ⟨0, [], [], [], _, by omega, by omega, g2, h1, Rel.nil, Gd.nil, r2, by simp only [evf, ne_eq, Nat.reduceEqDiff, Nat.reduceLT, not_false_eq_true], by simp only [evf, ne_eq, Nat.reduceEqDiff, Nat.reduceLT, not_false_eq_true], by simp only [evf, ne_eq, Nat.reduceEqDiff, Nat.reduceLT, not_false_eq_true], by simp only [evf, ne_eq, Nat.reduceEqDiff, Nat.reduceLT, not_false_eq_true]; rfl⟩ ?_
  rintro I' hI' k f s ⟨i, us, os, L, sv, hk, hi, hg, hx, rel, gd, hy, f0, f5, f6, f7⟩
  refine ⟨k - 1, by omega, ?_⟩
  have hab : st.length ≠ st.length + 1 := by omega
  have al := alen_rd (he s) Try.underlying75
  have e3 : IntKind.i64.wrap ((i : Int) + 1) = ((i + 1 : Nat) : Int) := by rw [IntWalk.i64_in _ (by omega)]; rfl
  by_cases hil : i < E.length
  · have d : decide ((i : Int) < E.length) = true := decide_eq_true (by omega)
    obtain ⟨p1, p2⟩ := ix_flat (f := U.v) (fun a => rfl) (he s) Try.underlying75 sz130 ag130 (by omega) hil
    obtain ⟨p3, p4⟩ := m_id (he s) hil
    obtain ⟨p5, p6⟩ := m_r (he s) hil
    have hidi := hid _ (List.getElem_mem hil)
    have hgl := gd.len
    simp only [f0, f5, f6, f7, al, d, p1, p3, p4, p5, p6, evf,↓evp,evq,evr,fxa0,fxa1,fxa2,fxa3,fxa4,fxu,fxn,fxl,↓fxp,lgc,absL,fitL,flatL,ares,ares1,ofVal,unSc,aload,afill,splice,abound,asI,elems,IntKind.bits,sortT,eqNil,closedL,allByte,patch,pendOK,numA,Value.cells,Value.oneCell',ibin,List.replicate,Option.elim,Nat.reduceAdd,Nat.reduceSub,Nat.reduceMul,Nat.reduceLT,Nat.reduceEqDiff,Nat.reduceLeDiff,Nat.reduceBEq,Int.reduceLE,Int.reduceLT,Int.reduceToNat,Int.reduceBNe,Int.reduceBEq,Int.reduceNeg,Int.reduceEq,Int.reduceNe,Nat.reduceBNe,Int.reduceAdd,Int.reduceSub,Int.reduceMul,Int.reducePow,Nat.reducePow,Int.reduceGT,Int.reduceGE,if_true,if_false,ite_true,ite_false,beq_self_eq_true,BEq.rfl,reduceCtorEq,eq_self,ne_eq,Function.comp_def,beq_iff_eq]
    refine o_Put (n := n + 1) rel hx hab (by omega) ?no ?ok
    case' no =>
      intro e0 s3 g3
      have nx : ∀ s', Grw st s' → (∀ (j : Nat) (o : Ob), j ≠ s1.length → s'[j]? = some o → True) := fun _ _ _ _ _ _ => trivial
      obtain ⟨p1, p2⟩ := ix_flat (f := U.v) (fun a => rfl) (he s3) Try.underlying75 sz130 ag130 (by omega) hil
      obtain ⟨p3, p4⟩ := m_id (he s3) hil
      obtain ⟨p5, p6⟩ := m_r (he s3) hil
      simp only [f0, f5, f6, f7, p1, p3, p4, p5, p6, evf,↓evp,evq,evr,fxa0,fxa1,fxa2,fxa3,fxa4,fxu,fxn,fxl,↓fxp,lgc,absL,fitL,flatL,ares,ares1,ofVal,unSc,aload,afill,splice,abound,asI,elems,IntKind.bits,sortT,eqNil,closedL,allByte,patch,pendOK,numA,Value.cells,Value.oneCell',ibin,List.replicate,Option.elim,Nat.reduceAdd,Nat.reduceSub,Nat.reduceMul,Nat.reduceLT,Nat.reduceEqDiff,Nat.reduceLeDiff,Nat.reduceBEq,Int.reduceLE,Int.reduceLT,Int.reduceToNat,Int.reduceBNe,Int.reduceBEq,Int.reduceNeg,Int.reduceEq,Int.reduceNe,Nat.reduceBNe,Int.reduceAdd,Int.reduceSub,Int.reduceMul,Int.reducePow,Nat.reducePow,Int.reduceGT,Int.reduceGE,if_true,if_false,ite_true,ite_false,beq_self_eq_true,BEq.rfl,reduceCtorEq,eq_self,ne_eq,Function.comp_def,beq_iff_eq]
      refine r_PutR (n := n) (hy.grw g3) hm hgl (fun _ s4 g4 => ?_) fun e => absurd e e0
      simp only [f0, f5, f6, f7, p1, p3, p4, p5, p6, e3, evf,↓evp,evq,evr,fxa0,fxa1,fxa2,fxa3,fxa4,fxu,fxn,fxl,↓fxp,lgc,absL,fitL,flatL,ares,ares1,ofVal,unSc,aload,afill,splice,abound,asI,elems,IntKind.bits,sortT,eqNil,closedL,allByte,patch,pendOK,numA,Value.cells,Value.oneCell',ibin,List.replicate,Option.elim,Nat.reduceAdd,Nat.reduceSub,Nat.reduceMul,Nat.reduceLT,Nat.reduceEqDiff,Nat.reduceLeDiff,Nat.reduceBEq,Int.reduceLE,Int.reduceLT,Int.reduceToNat,Int.reduceBNe,Int.reduceBEq,Int.reduceNeg,Int.reduceEq,Int.reduceNe,Nat.reduceBNe,Int.reduceAdd,Int.reduceSub,Int.reduceMul,Int.reducePow,Nat.reducePow,Int.reduceGT,Int.reduceGE,if_true,if_false,ite_true,ite_false,beq_self_eq_true,BEq.rfl,reduceCtorEq,eq_self,ne_eq,Function.comp_def,beq_iff_eq]
      exact hI' _ _ _ ⟨i + 1, us, os, L, sv, by omega, hil, (hg.trans g3).trans g4, (hx.grw g3).grw g4, rel, gd, (hy.grw g3).grw g4, by simp only [f0, evf, ne_eq, Nat.reduceEqDiff, Nat.reduceLT, not_false_eq_true], by simp only [f5, evf, ne_eq, Nat.reduceEqDiff, Nat.reduceLT, not_false_eq_true], by simp only [f6, evf, ne_eq, Nat.reduceEqDiff, Nat.reduceLT, not_false_eq_true], by simp only [evf, ne_eq, Nat.reduceEqDiff, Nat.reduceLT, not_false_eq_true]⟩
    case' ok =>
      intro e0 hv hgn hno hlt s3 h3 k3
      have km := kp_km k3 hx.us hx.os
      have fr1 : Grw st s3 := fun j o hj => by
        have lj : j < st.length := (List.getElem?_eq_some_iff.1 hj).1
        exact k3 _ _ (by omega) (by omega) (hg _ _ hj)
      have rel3 := rel.place ⟨E[i].id, E[i].x, E[i].y, E[i].w, E[i].h⟩ hv hgn hno
      have gd3 := gd.place (u := ⟨E[i].id, E[i].x, E[i].y, E[i].w, E[i].h⟩) hlt (rel.new hgn) hidi
      obtain ⟨p1, p2⟩ := ix_flat (f := U.v) (fun a => rfl) (he s3) Try.underlying75 sz130 ag130 (by omega) hil
      obtain ⟨p3, p4⟩ := m_id (he s3) hil
      obtain ⟨p5, p6⟩ := m_r (he s3) hil
      simp only [f0, f5, f6, f7, p1, p3, p4, p5, p6, evf,↓evp,evq,evr,fxa0,fxa1,fxa2,fxa3,fxa4,fxu,fxn,fxl,↓fxp,lgc,absL,fitL,flatL,ares,ares1,ofVal,unSc,aload,afill,splice,abound,asI,elems,IntKind.bits,sortT,eqNil,closedL,allByte,patch,pendOK,numA,Value.cells,Value.oneCell',ibin,List.replicate,Option.elim,Nat.reduceAdd,Nat.reduceSub,Nat.reduceMul,Nat.reduceLT,Nat.reduceEqDiff,Nat.reduceLeDiff,Nat.reduceBEq,Int.reduceLE,Int.reduceLT,Int.reduceToNat,Int.reduceBNe,Int.reduceBEq,Int.reduceNeg,Int.reduceEq,Int.reduceNe,Nat.reduceBNe,Int.reduceAdd,Int.reduceSub,Int.reduceMul,Int.reducePow,Nat.reducePow,Int.reduceGT,Int.reduceGE,if_true,if_false,ite_true,ite_false,beq_self_eq_true,BEq.rfl,reduceCtorEq,eq_self,ne_eq,Function.comp_def,beq_iff_eq]
      refine r_PutR (n := n) (hy.km km) hm hgl (fun e => absurd e0 e) fun _ sv' s4 h4 k4 => ?_
      simp only [f0, f5, f6, f7, p1, p3, p4, p5, p6, e3, evf,↓evp,evq,evr,fxa0,fxa1,fxa2,fxa3,fxa4,fxu,fxn,fxl,↓fxp,lgc,absL,fitL,flatL,ares,ares1,ofVal,unSc,aload,afill,splice,abound,asI,elems,IntKind.bits,sortT,eqNil,closedL,allByte,patch,pendOK,numA,Value.cells,Value.oneCell',ibin,List.replicate,Option.elim,Nat.reduceAdd,Nat.reduceSub,Nat.reduceMul,Nat.reduceLT,Nat.reduceEqDiff,Nat.reduceLeDiff,Nat.reduceBEq,Int.reduceLE,Int.reduceLT,Int.reduceToNat,Int.reduceBNe,Int.reduceBEq,Int.reduceNeg,Int.reduceEq,Int.reduceNe,Nat.reduceBNe,Int.reduceAdd,Int.reduceSub,Int.reduceMul,Int.reducePow,Nat.reducePow,Int.reduceGT,Int.reduceGE,if_true,if_false,ite_true,ite_false,beq_self_eq_true,BEq.rfl,reduceCtorEq,eq_self,ne_eq,Function.comp_def,beq_iff_eq]
      refine hI' _ _ _ ⟨i + 1, _, _, _, sv', by omega, hil, fun j o hj => ?_, h3.fr (hy.km km).at_ k4, rel3, gd3, h4, by simp only [f0, evf, ne_eq, Nat.reduceEqDiff, Nat.reduceLT, not_false_eq_true], by simp only [f5, evf, ne_eq, Nat.reduceEqDiff, Nat.reduceLT, not_false_eq_true], by simp only [f6, evf, ne_eq, Nat.reduceEqDiff, Nat.reduceLT, not_false_eq_true], by simp only [evf, ne_eq, Nat.reduceEqDiff, Nat.reduceLT, not_false_eq_true]⟩
      have lj : j < st.length := (List.getElem?_eq_some_iff.1 hj).1
      exact k4 _ _ (by omega) (fr1 _ _ hj)
  · have d : decide ((i : Int) < E.length) = false := decide_eq_false (by omega)
    simp only [f0, f5, f6, f7, al, d, evf,↓evp,evq,evr,fxa0,fxa1,fxa2,fxa3,fxa4,fxu,fxn,fxl,↓fxp,lgc,absL,fitL,flatL,ares,ares1,ofVal,unSc,aload,afill,splice,abound,asI,elems,IntKind.bits,sortT,eqNil,closedL,allByte,patch,pendOK,numA,Value.cells,Value.oneCell',ibin,List.replicate,Option.elim,Nat.reduceAdd,Nat.reduceSub,Nat.reduceMul,Nat.reduceLT,Nat.reduceEqDiff,Nat.reduceLeDiff,Nat.reduceBEq,Int.reduceLE,Int.reduceLT,Int.reduceToNat,Int.reduceBNe,Int.reduceBEq,Int.reduceNeg,Int.reduceEq,Int.reduceNe,Nat.reduceBNe,Int.reduceAdd,Int.reduceSub,Int.reduceMul,Int.reducePow,Nat.reducePow,Int.reduceGT,Int.reduceGE,if_true,if_false,ite_true,ite_false,beq_self_eq_true,BEq.rfl,reduceCtorEq,eq_self,ne_eq,Function.comp_def,beq_iff_eq]
    refine t_New (n := n + 6) fun s3 h3 g3 => ?_
    simp only [f0, f5, f6, f7, evf,↓evp,evq,evr,fxa0,fxa1,fxa2,fxa3,fxa4,fxu,fxn,fxl,↓fxp,lgc,absL,fitL,flatL,ares,ares1,ofVal,unSc,aload,afill,splice,abound,asI,elems,IntKind.bits,sortT,eqNil,closedL,allByte,patch,pendOK,numA,Value.cells,Value.oneCell',ibin,List.replicate,Option.elim,Nat.reduceAdd,Nat.reduceSub,Nat.reduceMul,Nat.reduceLT,Nat.reduceEqDiff,Nat.reduceLeDiff,Nat.reduceBEq,Int.reduceLE,Int.reduceLT,Int.reduceToNat,Int.reduceBNe,Int.reduceBEq,Int.reduceNeg,Int.reduceEq,Int.reduceNe,Nat.reduceBNe,Int.reduceAdd,Int.reduceSub,Int.reduceMul,Int.reducePow,Nat.reducePow,Int.reduceGT,Int.reduceGE,if_true,if_false,ite_true,ite_false,beq_self_eq_true,BEq.rfl,reduceCtorEq,eq_self,ne_eq,Function.comp_def,beq_iff_eq]
    have hle := hg.le
    have hix := (List.getElem?_eq_some_iff.1 hx.ix).1
    have hle3 := g3.le
    have hz : ∀ o : Ob, (s3 ++ [o])[s3.length]? = some o := fun o => get_new0 _ _
    exact hK _ _ _ _ _ _ _ _ _ _ _ _ _ hab (by omega) ⟨by omega, by omega, by omega, by omega⟩ ((hx.grw g3).grw (.push _ _)) rel gd (h3.grw (.push _ _)) (hz _) ((hy.grw g3).grw (.push _ _)) ((hg.trans g3).push' _) ⟨by omega, by omega, by omega, by omega, by omega, by omega, by omega, by omega⟩
end
/-! ### Chapter 22: a table's claims, told as moved units. -/
theorem len_sub : ∀ {A B : List Int}, A.Nodup → (∀ x ∈ A, x ∈ B) → A.length ≤ B.length
  | [], _, _, _ => Nat.zero_le _
  | a :: A, B, h, hs => by
    rw [List.nodup_cons] at h
    have ha := hs a (by simp)
    have := len_sub (A := A) (B := B.erase a) h.2 fun x hx => (List.mem_erase_of_ne (by rintro rfl; exact h.1 hx)).2 (hs x (by simp [hx]))
    rw [List.length_erase_of_mem ha] at this
    have := List.length_pos_of_mem ha
    simp only [List.length_cons]; omega
/-- Claims, as the units that they move. -/
structure Cr (L M : List U) (gs cls : List (Int × V)) (cc : List ((Int × Int) × V)) : Prop where
  rel : Rel gs cc M
  ni : ndI cls
  gu : ∀ i v, getI i cls = some v ↔ ∃ u ∈ M, u.id = i ∧ v = .agg (cl u.x u.y)
  len : cls.length = M.length
  srt : Srt M
  un : ∀ u ∈ M, ∃ p ∈ L, p.id = u.id ∧ p.w = u.w ∧ p.h = u.h
  fr : ∀ u ∈ M, ∀ p ∈ L, p.id ≠ u.id → meetB p.x p.y p.w p.h u.x u.y u.w u.h = false
def mayC (L M : List U) (id x y : Int) : Int := match L.find? (fun u => u.id == id) with
  | none => 4
  | some u => if M.any (fun c => c.id == id) = true then 8 else if mayB x y u.w u.h = false then 1 else if L.any (othR id x y u.w u.h) = true then 6 else if M.any (meetsR x y u.w u.h) = true then 6 else 0
section
variable {us gs cls : List (Int × V)} {os cc : List ((Int × Int) × V)} {L M : List U}
theorem Cr.nil (L : List U) : Cr L [] [] [] [] := ⟨Rel.nil, by simp [ndI], by simp [getI_nil], rfl, List.Pairwise.nil, by simp, by simp⟩
theorem Cr.gd (h : Cr L M gs cls cc) (hL : Gd L) : Gd M := by
  refine ⟨h.srt, fun u hu => ?_, ?_⟩
  · obtain ⟨p, hp, he, _⟩ := h.un u hu
    rw [← he]; exact hL.rng p hp
  · have := len_sub (A := M.map U.id) (B := L.map U.id) h.rel.ids fun x hx => by
      obtain ⟨u, hu, rfl⟩ := List.mem_map.1 hx
      obtain ⟨p, hp, he, _⟩ := h.un u hu
      exact List.mem_map.2 ⟨p, hp, he⟩
    rw [List.length_map, List.length_map] at this
    have := hL.len
    omega
theorem Rel.unit (h : Rel us os L) (id : Int) : (getI id us = none ∧ L.find? (fun u => u.id == id) = none) ∨ ∃ p ∈ L, p.id = id ∧ L.find? (fun u => u.id == id) = some p ∧ getI id us = some (.agg (rc p.x p.y p.w p.h)) := by
  cases hf : L.find? (fun u => u.id == id) with
  | none =>
    left
    refine ⟨?_, rfl⟩
    cases hq : getI id us with
    | none => rfl
    | some v =>
      obtain ⟨p, hp, he, _⟩ := (h.gu _ _).1 hq
      have := List.find?_eq_none.1 hf p hp
      simp [he] at this
  | some p =>
    right
    have h1 := List.find?_some hf
    have h2 := List.mem_of_find?_eq_some hf
    have he : p.id = id := by simpa using h1
    exact ⟨p, h2, he, rfl, (h.gu _ _).2 ⟨p, h2, he, rfl⟩⟩
theorem cl_any (h : Rel gs cc M) (x y : Int) (W k : Nat) : clAny cc x y W k = anyB (fun _ => true) cc x y W k := by
  unfold clAny anyB
  congr 1
  funext q
  unfold clB hitB
  cases hg : getC (x + ((q % W : Nat) : Int), y + ((q / W : Nat) : Int)) cc with
  | none => rfl
  | some v =>
    obtain ⟨i, rfl⟩ := h.int _ _ hg
    rfl
theorem Cr.cells (h : Cr L M gs cls cc) : ∀ i v, getI i cls = some v → ∃ x y, v = .agg (cl x y) := fun i v hv => by
  obtain ⟨u, _, _, rfl⟩ := (h.gu _ _).1 hv
  exact ⟨_, _, rfl⟩
theorem Cr.no_id (h : Cr L M gs cls cc) (id : Int) : getI id cls = none ↔ M.any (fun c => c.id == id) = false := by
  rw [Bool.eq_false_iff]
  constructor
  · intro hn hh
    obtain ⟨c, hc, he⟩ := List.any_eq_true.1 hh
    have := (h.gu id _).2 ⟨c, hc, by simpa using he, rfl⟩
    rw [hn] at this; cases this
  · intro hh
    cases hq : getI id cls with
    | none => rfl
    | some v =>
      obtain ⟨c, hc, he, _⟩ := (h.gu _ _).1 hq
      exact absurd (List.any_eq_true.2 ⟨c, hc, by simpa using he⟩) hh
/-- A claim more. -/
theorem Cr.put (h : Cr L M gs cls cc) (hr : Rel us os L) {p : U} (hp : p ∈ L) (x y : Int) (hv : valB (mvU p x y) = true) (hn : getI p.id cls = none) (hf : L.any (othR p.id x y p.w p.h) = false) (hm : M.any (meetsR x y p.w p.h) = false) :
    Cr L (insU (mvU p x y) M) (putI p.id (.agg (rc x y p.w p.h)) gs) (putI p.id (.agg (cl x y)) cls) (fillC (.sc (.int .i64 p.id)) x y p.w.toNat cc (p.h.toNat * p.w.toNat)) := by
  have hnM : ∀ u ∈ M, u.id ≠ p.id := fun u hu he => by
    have := (h.gu p.id _).2 ⟨u, hu, he, rfl⟩
    rw [hn] at this; cases this
  have hgs : getI p.id gs = Option.none := by
    cases hq : getI p.id gs with
    | none => rfl
    | some v =>
      obtain ⟨u, hu, he, _⟩ := (h.rel.gu _ _).1 hq
      exact absurd he (hnM u hu)
  have hno : ¬ ∃ q ∈ M, ∃ a b, inU q a b ∧ inU (mvU p x y) a b := by
    rintro ⟨q, hq, hab⟩
    have := (meet_in hv (h.rel.val q hq)).2 hab
    rw [Bool.eq_false_iff] at hm
    exact hm (List.any_eq_true.2 ⟨q, hq, this⟩)
  refine ⟨h.rel.place (mvU p x y) hv hgs hno, ndI_putI _ _ h.ni, fun i v => ?_, ?_, h.srt.insU _ hnM, fun u hu => ?_, fun u hu q hq hne => ?_⟩
  · rw [getI_putI]
    by_cases hi : i = p.id
    · subst hi
      simp only [beq_self_eq_true, if_true, Option.some.injEq]
      constructor
      · rintro rfl; exact ⟨mvU p x y, (mem_insAt _ _ _ _).2 (.inl rfl), rfl, rfl⟩
      · rintro ⟨q, hq, he, rfl⟩
        rcases (mem_insAt _ _ _ _).1 hq with rfl | hq
        · rfl
        · exact absurd he (hnM q hq)
    · rw [if_neg (by simpa using hi), h.gu]
      constructor
      · rintro ⟨q, hq, h3⟩; exact ⟨q, (mem_insAt _ _ _ _).2 (.inr hq), h3⟩
      · rintro ⟨q, hq, h3, h4⟩
        rcases (mem_insAt _ _ _ _).1 hq with rfl | hq
        · exact absurd h3.symm hi
        · exact ⟨q, hq, h3, h4⟩
  · rw [putI_len, hn, insU_eq, insAt_len, h.len]; rfl
  · rcases (mem_insAt _ _ _ _).1 hu with rfl | hu
    · exact ⟨p, hp, rfl, rfl, rfl⟩
    · exact h.un u hu
  · rcases (mem_insAt _ _ _ _).1 hu with rfl | hu
    · rw [Bool.eq_false_iff] at hf ⊢
      intro hh
      refine hf (List.any_eq_true.2 ⟨q, hq, ?_⟩)
      have : (q.id != p.id) = true := by simpa [mvU] using hne
      simp only [othR, meetsR, this, Bool.true_and]
      exact hh
    · exact h.fr u hu q hq hne
end
section
variable {n m : Nat} {st s : List Ob} {K : V → List Ob → Prop} {tb ix a b u c : Nat} {us gs cls : List (Int × V)} {os cc : List ((Int × Int) × V)} {L M : List U} {x y id : Int}
theorem o_FindN (hi : Ix st ix a b us os) (hg : getI id us = none) (hK : ∀ s, Grw st s → K (.tup [.agg (rc 0 0 0 0), .sc (.bool false)]) s) : acallF Try.prog pl (n + 2) m 26 [.ref ix 0, .sc (.int .i64 id)] st K := by
  refine acallF_inF Try.func26 rfl rfl Try.ntmps26 (by simp) ?_
  have g1 := fun X => hi.grw (Grw.push st X)
  have i1 := fun X => (g1 X).ix
  have l1 := fun X => lk_int (e := 34) (z := .agg (rc 0 0 0 0)) Try.underlying59 (by kernel_rfl) (g1 X).us id
  simp only [hg, rc] at i1 l1
  simp only [rc, evf,↓evp,evq,evr,fxa0,fxa1,fxa2,fxa3,fxa4,fxu,fxn,fxl,↓fxp,lgc,absL,fitL,flatL,ares,ares1,ofVal,unSc,aload,afill,splice,abound,asI,elems,IntKind.bits,sortT,eqNil,closedL,allByte,patch,pendOK,numA,Value.cells,Value.oneCell',ibin,List.replicate,Option.elim,Nat.reduceAdd,Nat.reduceSub,Nat.reduceMul,Nat.reduceLT,Nat.reduceEqDiff,Nat.reduceLeDiff,Nat.reduceBEq,Int.reduceLE,Int.reduceLT,Int.reduceToNat,Int.reduceBNe,Int.reduceBEq,Int.reduceNeg,Int.reduceEq,Int.reduceNe,Nat.reduceBNe,Int.reduceAdd,Int.reduceSub,Int.reduceMul,Int.reducePow,Nat.reducePow,Int.reduceGT,Int.reduceGE,if_true,if_false,ite_true,ite_false,beq_self_eq_true,BEq.rfl,reduceCtorEq,eq_self,ne_eq,Function.comp_def,beq_iff_eq]
  refine o_is1 (g1 _) ?_
  simp only [i1, l1, get_new, get_new0, M.set_new0, evf,↓evp,evq,evr,fxa0,fxa1,fxa2,fxa3,fxa4,fxu,fxn,fxl,↓fxp,lgc,absL,fitL,flatL,ares,ares1,ofVal,unSc,aload,afill,splice,abound,asI,elems,IntKind.bits,sortT,eqNil,closedL,allByte,patch,pendOK,numA,Value.cells,Value.oneCell',ibin,List.replicate,Option.elim,Nat.reduceAdd,Nat.reduceSub,Nat.reduceMul,Nat.reduceLT,Nat.reduceEqDiff,Nat.reduceLeDiff,Nat.reduceBEq,Int.reduceLE,Int.reduceLT,Int.reduceToNat,Int.reduceBNe,Int.reduceBEq,Int.reduceNeg,Int.reduceEq,Int.reduceNe,Nat.reduceBNe,Int.reduceAdd,Int.reduceSub,Int.reduceMul,Int.reducePow,Nat.reducePow,Int.reduceGT,Int.reduceGE,if_true,if_false,ite_true,ite_false,beq_self_eq_true,BEq.rfl,reduceCtorEq,eq_self,ne_eq,Function.comp_def,beq_iff_eq]
  exact hK _ (Grw.push _ _)
theorem t_MayN (hT : Tb st tb ix u c cls cc) (hi : Ix st ix a b us os) (hg : getI id us = none) (hK : ∀ s, Grw st s → K (.sc (.int .i64 4)) s) :
    acallF Try.prog pl (n + 7) m 48 [.ref tb 0, .sc (.int .i64 id), .agg (cl x y)] st K := by
  refine acallF_inF Try.func48 rfl rfl Try.ntmps48 (by simp) ?_
  have gX := fun X => Grw.push st X
  have T1 := fun X => hT.grw (gX X)
  simp only [cl, get_new, get_new0, evf,↓evp,evq,evr,fxa0,fxa1,fxa2,fxa3,fxa4,fxu,fxn,fxl,↓fxp,lgc,absL,fitL,flatL,ares,ares1,ofVal,unSc,aload,afill,splice,abound,asI,elems,IntKind.bits,sortT,eqNil,closedL,allByte,patch,pendOK,numA,Value.cells,Value.oneCell',ibin,List.replicate,Option.elim,Nat.reduceAdd,Nat.reduceSub,Nat.reduceMul,Nat.reduceLT,Nat.reduceEqDiff,Nat.reduceLeDiff,Nat.reduceBEq,Int.reduceLE,Int.reduceLT,Int.reduceToNat,Int.reduceBNe,Int.reduceBEq,Int.reduceNeg,Int.reduceEq,Int.reduceNe,Nat.reduceBNe,Int.reduceAdd,Int.reduceSub,Int.reduceMul,Int.reducePow,Nat.reducePow,Int.reduceGT,Int.reduceGE,if_true,if_false,ite_true,ite_false,beq_self_eq_true,BEq.rfl,reduceCtorEq,eq_self,ne_eq,Function.comp_def,beq_iff_eq]
  refine t_is (n := n + 5) (T1 _) ?_
  have a1 := fun X => (T1 X).at_
  simp only [get_new, get_new0, a1, evf,↓evp,evq,evr,fxa0,fxa1,fxa2,fxa3,fxa4,fxu,fxn,fxl,↓fxp,lgc,absL,fitL,flatL,ares,ares1,ofVal,unSc,aload,afill,splice,abound,asI,elems,IntKind.bits,sortT,eqNil,closedL,allByte,patch,pendOK,numA,Value.cells,Value.oneCell',ibin,List.replicate,Option.elim,Nat.reduceAdd,Nat.reduceSub,Nat.reduceMul,Nat.reduceLT,Nat.reduceEqDiff,Nat.reduceLeDiff,Nat.reduceBEq,Int.reduceLE,Int.reduceLT,Int.reduceToNat,Int.reduceBNe,Int.reduceBEq,Int.reduceNeg,Int.reduceEq,Int.reduceNe,Nat.reduceBNe,Int.reduceAdd,Int.reduceSub,Int.reduceMul,Int.reducePow,Nat.reducePow,Int.reduceGT,Int.reduceGE,if_true,if_false,ite_true,ite_false,beq_self_eq_true,BEq.rfl,reduceCtorEq,eq_self,ne_eq,Function.comp_def,beq_iff_eq]
  refine o_FindN (n := n + 4) (hi.grw (gX _)) hg fun s1 j1 => ?_
  have k2 := j1 _ _ (get_new _ _ 2)
  have g1 := (gX _).trans j1
  have hlt : st.length + 2 < s1.length := (List.getElem?_eq_some_iff.1 k2).1
  have k2' := fun X => Grw.push s1 X _ _ k2
  have so : ∀ X o, (s1 ++ X).set (st.length + 2) o = s1.set (st.length + 2) o ++ X := fun X o => M.set_old hlt X o
  have q0 : ∀ o X, (s1.set (st.length + 2) o ++ X)[st.length + 2]? = some o := fun o X => by rw [List.getElem?_append_left (by rw [List.length_set]; exact hlt), List.getElem?_set_self hlt]
  have fin : ∀ o X, Grw st (s1.set (st.length + 2) o ++ X) := fun o X => (g1.set (by omega) o).push' X
  simp only [rc, k2, k2', so, q0, get_new, get_new0, M.set_new0, M.set_new, evf,↓evp,evq,evr,fxa0,fxa1,fxa2,fxa3,fxa4,fxu,fxn,fxl,↓fxp,lgc,absL,fitL,flatL,ares,ares1,ofVal,unSc,aload,afill,splice,abound,asI,elems,IntKind.bits,sortT,eqNil,closedL,allByte,patch,pendOK,numA,Value.cells,Value.oneCell',ibin,List.replicate,Option.elim,Nat.reduceAdd,Nat.reduceSub,Nat.reduceMul,Nat.reduceLT,Nat.reduceEqDiff,Nat.reduceLeDiff,Nat.reduceBEq,Int.reduceLE,Int.reduceLT,Int.reduceToNat,Int.reduceBNe,Int.reduceBEq,Int.reduceNeg,Int.reduceEq,Int.reduceNe,Nat.reduceBNe,Int.reduceAdd,Int.reduceSub,Int.reduceMul,Int.reducePow,Nat.reducePow,Int.reduceGT,Int.reduceGE,if_true,if_false,ite_true,ite_false,beq_self_eq_true,BEq.rfl,reduceCtorEq,eq_self,ne_eq,Function.comp_def,beq_iff_eq]
  exact hK _ (fin _ _)
theorem t_ClaimN (hT : Tb st tb ix u c cls cc) (hi : Ix st ix a b us os) (hg : getI id us = none) (hK : ∀ s, Grw st s → K (.sc (.int .i64 4)) s) :
    acallF Try.prog pl (n + 8) m 43 [.ref tb 0, .sc (.int .i64 id), .agg (cl x y)] st K := by
  refine acallF_inF Try.func43 rfl rfl Try.ntmps43 (by simp) ?_
  have gX := fun X => Grw.push st X
  have T1 := fun X => hT.grw (gX X)
  simp only [cl, get_new, get_new0, evf,↓evp,evq,evr,fxa0,fxa1,fxa2,fxa3,fxa4,fxu,fxn,fxl,↓fxp,lgc,absL,fitL,flatL,ares,ares1,ofVal,unSc,aload,afill,splice,abound,asI,elems,IntKind.bits,sortT,eqNil,closedL,allByte,patch,pendOK,numA,Value.cells,Value.oneCell',ibin,List.replicate,Option.elim,Nat.reduceAdd,Nat.reduceSub,Nat.reduceMul,Nat.reduceLT,Nat.reduceEqDiff,Nat.reduceLeDiff,Nat.reduceBEq,Int.reduceLE,Int.reduceLT,Int.reduceToNat,Int.reduceBNe,Int.reduceBEq,Int.reduceNeg,Int.reduceEq,Int.reduceNe,Nat.reduceBNe,Int.reduceAdd,Int.reduceSub,Int.reduceMul,Int.reducePow,Nat.reducePow,Int.reduceGT,Int.reduceGE,if_true,if_false,ite_true,ite_false,beq_self_eq_true,BEq.rfl,reduceCtorEq,eq_self,ne_eq,Function.comp_def,beq_iff_eq]
  refine t_MayN (n := n) (T1 _) (hi.grw (gX _)) hg fun s1 j1 => ?_
  simp only [evf,↓evp,evq,evr,fxa0,fxa1,fxa2,fxa3,fxa4,fxu,fxn,fxl,↓fxp,lgc,absL,fitL,flatL,ares,ares1,ofVal,unSc,aload,afill,splice,abound,asI,elems,IntKind.bits,sortT,eqNil,closedL,allByte,patch,pendOK,numA,Value.cells,Value.oneCell',ibin,List.replicate,Option.elim,Nat.reduceAdd,Nat.reduceSub,Nat.reduceMul,Nat.reduceLT,Nat.reduceEqDiff,Nat.reduceLeDiff,Nat.reduceBEq,Int.reduceLE,Int.reduceLT,Int.reduceToNat,Int.reduceBNe,Int.reduceBEq,Int.reduceNeg,Int.reduceEq,Int.reduceNe,Nat.reduceBNe,Int.reduceAdd,Int.reduceSub,Int.reduceMul,Int.reducePow,Nat.reducePow,Int.reduceGT,Int.reduceGE,if_true,if_false,ite_true,ite_false,beq_self_eq_true,BEq.rfl,reduceCtorEq,eq_self,ne_eq,Function.comp_def,beq_iff_eq]
  exact hK _ ((gX _).trans j1)
theorem do_MayC (hr : Rel us os L) (hi : Ix st ix a b us os) (hT : Tb st tb ix u c cls cc) (hC : Cr L M gs cls cc) (hm : 300 < m)
    (hK : ∀ s, Grw st s → K (.sc (.int .i64 (mayC L M id x y))) s) :
    acallF Try.prog pl (n + 7) m 48 [.ref tb 0, .sc (.int .i64 id), .agg (cl x y)] st K := by
  unfold mayC at hK
  rcases hr.unit id with ⟨f1, f2⟩ | ⟨p, hp, f1, f2, f3⟩
  · rw [f2] at hK
    exact t_MayN hT hi f1 hK
  rw [f2] at hK
  simp only at hK
  obtain ⟨pm, p1, p2, p3, p4⟩ := val_facts (hr.val p hp)
  obtain ⟨W, hW⟩ := Int.eq_ofNat_of_zero_le (show 0 ≤ p.w by omega)
  obtain ⟨H, hH⟩ := Int.eq_ofNat_of_zero_le (show 0 ≤ p.h by omega)
  simp only [hW, hH] at f3 hK p3 p4 p1 p2
  have hWH : W * H ≤ 64 := Nat.le_trans (Nat.mul_le_mul (show W ≤ 4 by omega) (show H ≤ 4 by omega)) (by decide)
  have key : mayB x y W H = true → anyB (fun i => i != id) os x y W (H * W) = L.any (othR id x y W H) ∧ clAny cc x y W (H * W) = M.any (meetsR x y W H) := fun e => by
    refine ⟨hr.meets (fun i => i != id) e (by omega) (by omega), ?_⟩
    rw [cl_any hC.rel, hC.rel.meets (fun _ => true) e (by omega) (by omega)]
    simp only [Bool.true_and]
  refine t_May hr.int hC.cells hT hi f3 hWH (by omega) (by omega) (fun e s g => ?_) (fun e e1 s g => ?_) (fun e e1 e2 s g => ?_) fun e e1 e2 e3 s g => ?_
  · have : ¬ (M.any (fun c => c.id == id) = false) := fun hh => e ((hC.no_id id).2 hh)
    rw [if_pos (by simpa using this)] at hK
    exact hK s g
  all_goals
    have e0 := (hC.no_id id).1 e
    rw [if_neg (by rw [e0]; decide)] at hK
  · rw [if_pos e1] at hK
    exact hK s g
  · rw [if_neg (by rw [e1]; decide)] at hK
    obtain ⟨k1, k2⟩ := key e1
    rw [k1, k2] at e2
    by_cases h1 : L.any (othR id x y W H) = true
    · rw [if_pos h1] at hK; exact hK s g
    · rw [if_neg h1] at hK
      have : M.any (meetsR x y W H) = true := by simpa [h1] using e2
      rw [if_pos this] at hK; exact hK s g
  · rw [if_neg (by rw [e1]; decide)] at hK
    obtain ⟨k1, k2⟩ := key e1
    rw [k1] at e2
    rw [k2] at e3
    rw [if_neg (by rw [e2]; decide), if_neg (by rw [e3]; decide)] at hK
    exact hK s g
theorem do_Claim (hr : Rel us os L) (hi : Ix st ix a b us os) (hT : Tb st tb ix u c cls cc) (hC : Cr L M gs cls cc) (huc : u ≠ c) (hm : 300 < m)
    (hK1 : mayC L M id x y ≠ 0 → ∀ s, Grw st s → K (.sc (.int .i64 (mayC L M id x y))) s)
    (hK0 : mayC L M id x y = 0 → ∀ p gs' cls' cc' s, p ∈ L → p.id = id → Tb s tb ix u c cls' cc' → Cr L (insU (mvU p x y) M) gs' cls' cc' → Kp u c st s → K (.sc (.int .i64 0)) s) :
    acallF Try.prog pl (n + 8) m 43 [.ref tb 0, .sc (.int .i64 id), .agg (cl x y)] st K := by
  unfold mayC at hK1 hK0
  rcases hr.unit id with ⟨f1, f2⟩ | ⟨p, hp, f1, f2, f3⟩
  · rw [f2] at hK1
    simp only at hK1
    exact t_ClaimN hT hi f1 (hK1 (by decide))
  rw [f2] at hK1 hK0
  simp only at hK1 hK0
  obtain ⟨pm, p1, p2, p3, p4⟩ := val_facts (hr.val p hp)
  have hput := hC.put hr hp x y
  obtain ⟨W, hW⟩ := Int.eq_ofNat_of_zero_le (show 0 ≤ p.w by omega)
  obtain ⟨H, hH⟩ := Int.eq_ofNat_of_zero_le (show 0 ≤ p.h by omega)
  have hvv : mayB x y W H = true → valB (mvU p x y) = true := fun e => by
    simp only [valB, mvU, hW, hH, e, Bool.true_and, Bool.and_eq_true, decide_eq_true_eq]; omega
  simp only [hW, hH, f1, Int.toNat_natCast] at f3 hK1 hK0 p3 p4 p1 p2 hput
  have hWH : W * H ≤ 64 := Nat.le_trans (Nat.mul_le_mul (show W ≤ 4 by omega) (show H ≤ 4 by omega)) (by decide)
  have key : mayB x y W H = true → anyB (fun i => i != id) os x y W (H * W) = L.any (othR id x y W H) ∧ clAny cc x y W (H * W) = M.any (meetsR x y W H) := fun e => by
    refine ⟨hr.meets (fun i => i != id) e (by omega) (by omega), ?_⟩
    rw [cl_any hC.rel, hC.rel.meets (fun _ => true) e (by omega) (by omega)]
    simp only [Bool.true_and]
  refine t_Claim hr.int hC.cells huc hT hi f3 hWH (by omega) (by omega) (fun e s g => ?_) (fun e e1 s g => ?_) (fun e e1 e2 s g => ?_) fun e e1 e2 e3 s hT' k => ?_
  · have : ¬ (M.any (fun c => c.id == id) = false) := fun hh => e ((hC.no_id id).2 hh)
    rw [if_pos (by simpa using this)] at hK1
    exact hK1 (by decide) s g
  all_goals
    have e0 := (hC.no_id id).1 e
    rw [if_neg (by rw [e0]; decide)] at hK1 hK0
  · rw [if_pos e1] at hK1
    exact hK1 (by decide) s g
  · rw [if_neg (by rw [e1]; decide)] at hK1
    obtain ⟨k1, k2⟩ := key e1
    rw [k1, k2] at e2
    by_cases h1 : L.any (othR id x y W H) = true
    · rw [if_pos h1] at hK1; exact hK1 (by decide) s g
    · rw [if_neg h1] at hK1
      have : M.any (meetsR x y W H) = true := by simpa [h1] using e2
      rw [if_pos this] at hK1; exact hK1 (by decide) s g
  · rw [if_neg (by rw [e1]; decide)] at hK0
    obtain ⟨k1, k2⟩ := key e1
    rw [k1] at e2
    rw [k2] at e3
    rw [if_neg (by rw [e2]; decide), if_neg (by rw [e3]; decide)] at hK0
    exact hK0 rfl p _ _ _ s hp f1 hT' (hput (hvv e1) e e2 e3) k
end
/-! ### Chapter 22: all claims, by rising numbers; all stand where they claimed. -/
def applyU (M : List U) (u : U) : U := match M.find? (fun c => c.id == u.id) with
  | some c => mvU u c.x c.y
  | none => u
theorem applyU_id (M : List U) (u : U) : (applyU M u).id = u.id := by
  unfold applyU; cases M.find? (fun c => c.id == u.id) <;> rfl
section
variable {us gs cls : List (Int × V)} {os cc : List ((Int × Int) × V)} {L M : List U}
theorem find_none {M : List U} {i : Int} (h : ∀ c ∈ M, c.id ≠ i) : M.find? (fun c => c.id == i) = none := List.find?_eq_none.2 fun c hc => by simpa using h c hc
theorem applyU_none {M : List U} {u : U} (h : ∀ c ∈ M, c.id ≠ u.id) : applyU M u = u := by
  unfold applyU; rw [find_none h]
theorem take_ne (hn : (M.map U.id).Nodup) {k : Nat} (hk : k < M.length) : ∀ c ∈ M.take k, c.id ≠ M[k].id := fun c hc he => by
  obtain ⟨j, hj, rfl⟩ := List.getElem_of_mem hc
  rw [List.length_take] at hj
  rw [List.getElem_take] at he
  have h1 : j < (M.map U.id).length := by rw [List.length_map]; omega
  have h2 : k < (M.map U.id).length := by rw [List.length_map]; omega
  have := (List.getElem_inj (h₀ := h1) (h₁ := h2) hn).1 (by simpa using he)
  omega
/-- One claim more stands. -/
theorem apply_step (hL : (L.map U.id).Nodup) (hM : (M.map U.id).Nodup) {k i : Nat} (hk : k < M.length) (hi : i < L.length) (he : L[i].id = M[k].id) (hi2 : i < (L.map (applyU (M.take k))).length) :
    (L.map (applyU (M.take k))).set i (mvU (L.map (applyU (M.take k)))[i] M[k].x M[k].y) = L.map (applyU (M.take (k + 1))) := by
  have ht : M.take (k + 1) = M.take k ++ [M[k]] := by rw [List.take_append_getElem]
  have hL0 : ∀ j (hj : j < L.length), L[j].id = M[k].id → j = i := fun j hj hh => by
    have h1 : j < (L.map U.id).length := by rw [List.length_map]; omega
    have h2 : i < (L.map U.id).length := by rw [List.length_map]; omega
    exact (List.getElem_inj (h₀ := h1) (h₁ := h2) hL).1 (by simp [hh, he])
  have hat : applyU (M.take k) L[i] = L[i] := applyU_none (by rw [he]; exact take_ne hM hk)
  have hnew : applyU (M.take (k + 1)) L[i] = mvU L[i] M[k].x M[k].y := by
    have hn := find_none (M := M.take k) (i := L[i].id) (by rw [he]; exact take_ne hM hk)
    unfold applyU
    rw [ht, List.find?_append, hn]
    simp [he]
  have hoth : ∀ j (hj : j < L.length), j ≠ i → applyU (M.take (k + 1)) L[j] = applyU (M.take k) L[j] := fun j hj hne => by
    have hn : [M[k]].find? (fun c => c.id == L[j].id) = none := find_none fun c hc => by
      simp only [List.mem_singleton] at hc
      subst hc
      exact fun hh => hne (hL0 j hj hh.symm)
    unfold applyU
    rw [ht, List.find?_append, hn, Option.or_none]
  refine List.ext_getElem (by simp) fun j h1 h2 => ?_
  have hj : j < L.length := by simpa using h2
  simp only [List.getElem_set, List.getElem_map]
  by_cases hij : i = j
  · subst hij
    rw [if_pos rfl, hat, hnew]
  · rw [if_neg hij, hoth j hj (Ne.symm hij)]
/-- Where a claim goes, all is free. -/
theorem Cr.free (h : Cr L M gs cls cc) (hr : Rel us os L) {k : Nat} (hk : k < M.length) {i : Nat} (hi : i < (L.map (applyU (M.take k))).length) (he : (L.map (applyU (M.take k)))[i].id = M[k].id) :
    ∃ hi' : i < L.length, L[i].id = M[k].id ∧ (L.map (applyU (M.take k)))[i].w = M[k].w ∧ (L.map (applyU (M.take k)))[i].h = M[k].h ∧
      ((L.map (applyU (M.take k))).any fun p => p.id != M[k].id && meetsR M[k].x M[k].y (L.map (applyU (M.take k)))[i].w (L.map (applyU (M.take k)))[i].h p) = false := by
  have hi' : i < L.length := by simpa using hi
  rw [List.getElem_map, applyU_id] at he
  have hne := take_ne h.rel.ids hk
  have e0 : (L.map (applyU (M.take k)))[i] = L[i] := by rw [List.getElem_map, applyU_none (by rw [he]; exact hne)]
  rw [e0]
  obtain ⟨p, hp, p1, p2, p3⟩ := h.un M[k] (List.getElem_mem hk)
  have ep : p = L[i] := nodup_in hr.ids hp (List.getElem_mem hi') (by rw [p1, he])
  rw [ep] at p2 p3
  refine ⟨hi', he, p2, p3, ?_⟩
  rw [p2, p3, Bool.eq_false_iff]
  intro hh
  obtain ⟨q, hq, hb⟩ := List.any_eq_true.1 hh
  obtain ⟨r, hr2, rfl⟩ := List.mem_map.1 hq
  rw [Bool.and_eq_true] at hb
  have hrid : r.id ≠ M[k].id := by have := hb.1; rw [applyU_id] at this; simpa using this
  have hb := hb.2
  unfold applyU at hb
  cases hf : (M.take k).find? (fun c => c.id == r.id) with
  | none =>
    rw [hf] at hb
    have := h.fr M[k] (List.getElem_mem hk) r hr2 hrid
    simp only [meetsR] at hb
    rw [this] at hb; cases hb
  | some d =>
    rw [hf] at hb
    have d1 := List.find?_some hf
    have d2 := List.mem_of_mem_take (List.mem_of_find?_eq_some hf)
    have de : d.id = r.id := by simpa using d1
    obtain ⟨p', hp', q1, q2, q3⟩ := h.un d d2
    have ep' : p' = r := nodup_in hr.ids hp' hr2 (by rw [q1, de])
    rw [ep'] at q2 q3
    have := h.rel.apart d2 (List.getElem_mem hk) (by rw [de]; exact hrid)
    simp only [meetsR, mvU, q2, q3] at hb
    rw [this] at hb; cases hb
end
section
variable {n m : Nat} {st s : List Ob} {K : V → List Ob → Prop} {tb ix a b : Nat} {us : List (Int × V)} {os : List ((Int × Int) × V)} {ids : List Int}
set_option maxHeartbeats 2000000 in
/-- THE ITERATOR's CONTRACT: whatever the caller keeps. -/
theorem t_Each {l rb : Nat} {I : Nat → Ob → Nat → List Ob → Prop} {J : List Ob → Prop} (hi : Tb st tb ix a b us os) (hb : st[rb]? = some (.cells [.ref tb 0])) (hn : ndI us) (hmem : ∀ i, (getI i us).isSome = true ↔ i ∈ ids) (hs : ids.Pairwise (· < ·)) (hrg : ∀ i ∈ ids, inR i) (hl : ids.length ≤ 256) (hm : 300 < m)
    (keep : ∀ r ro k s, I r ro k s → s[rb]? = some (.cells [.ref tb 0]) ∧ Tb s tb ix a b us os ∧ s[r]? = some ro)
    (h0 : ∀ r ro s, Grw st s → st.length ≤ r → s[r]? = some ro → I r ro 0 s)
    (step : ∀ r ro i (hi : i < ids.length) (v : V) (s : List Ob) (K' : V → List Ob → Prop), getI ids[i] us = some v → I r ro i s → (∀ s', I r ro (i + 1) s' → K' (.sc (.bool true)) s') → (∀ s', J s' → K' (.sc (.bool false)) s') → acallF Try.prog pl (n + 3) m Try.prog.funcs.size [.yl l, .sc (.int .i64 ids[i]), v] s K')
    (hend : ∀ r ro s, I r ro ids.length s → K (.tup []) s) (hstop : ∀ s, J s → K (.tup []) s) : acallF Try.prog pl (n + 4) m 85 [.yl l, .ref rb 0] st K := by
  refine acallF_inF Try.func85 rfl rfl Try.ntmps85 (by simp) ?_
  have w1 := hi.at_
  simp only [hb, evf,↓evp,evq,evr,fxa0,fxa1,fxa2,fxa3,fxa4,fxu,fxn,fxl,↓fxp,lgc,absL,fitL,flatL,ares,ares1,ofVal,unSc,aload,afill,splice,abound,asI,elems,IntKind.bits,sortT,eqNil,closedL,allByte,patch,pendOK,numA,Value.cells,Value.oneCell',ibin,List.replicate,Option.elim,Nat.reduceAdd,Nat.reduceSub,Nat.reduceMul,Nat.reduceLT,Nat.reduceEqDiff,Nat.reduceLeDiff,Nat.reduceBEq,Int.reduceLE,Int.reduceLT,Int.reduceToNat,Int.reduceBNe,Int.reduceBEq,Int.reduceNeg,Int.reduceEq,Int.reduceNe,Nat.reduceBNe,Int.reduceAdd,Int.reduceSub,Int.reduceMul,Int.reducePow,Nat.reducePow,Int.reduceGT,Int.reduceGE,if_true,if_false,ite_true,ite_false,beq_self_eq_true,BEq.rfl,reduceCtorEq,eq_self,ne_eq,Function.comp_def,beq_iff_eq]
  refine t_is (n := n + 2) hi ?_
  simp only [hb, w1, evf,↓evp,evq,evr,fxa0,fxa1,fxa2,fxa3,fxa4,fxu,fxn,fxl,↓fxp,lgc,absL,fitL,flatL,ares,ares1,ofVal,unSc,aload,afill,splice,abound,asI,elems,IntKind.bits,sortT,eqNil,closedL,allByte,patch,pendOK,numA,Value.cells,Value.oneCell',ibin,List.replicate,Option.elim,Nat.reduceAdd,Nat.reduceSub,Nat.reduceMul,Nat.reduceLT,Nat.reduceEqDiff,Nat.reduceLeDiff,Nat.reduceBEq,Int.reduceLE,Int.reduceLT,Int.reduceToNat,Int.reduceBNe,Int.reduceBEq,Int.reduceNeg,Int.reduceEq,Int.reduceNe,Nat.reduceBNe,Int.reduceAdd,Int.reduceSub,Int.reduceMul,Int.reducePow,Nat.reducePow,Int.reduceGT,Int.reduceGE,if_true,if_false,ite_true,ite_false,beq_self_eq_true,BEq.rfl,reduceCtorEq,eq_self,ne_eq,Function.comp_def,beq_iff_eq]
  refine m_KeysC ?_
  have g1 := Grw.push st [Ob.cells [.map a]]
  have c1 : (st ++ [Ob.cells [.map a]])[st.length]? = some (.cells [.map a]) := get_new0 _ _
  have hb1 := g1 _ _ hb
  have hw1 := hi.grw g1
  simp only [evf,↓evp,evq,evr,fxa0,fxa1,fxa2,fxa3,fxa4,fxu,fxn,fxl,↓fxp,lgc,absL,fitL,flatL,ares,ares1,ofVal,unSc,aload,afill,splice,abound,asI,elems,IntKind.bits,sortT,eqNil,closedL,allByte,patch,pendOK,numA,Value.cells,Value.oneCell',ibin,List.replicate,Option.elim,Nat.reduceAdd,Nat.reduceSub,Nat.reduceMul,Nat.reduceLT,Nat.reduceEqDiff,Nat.reduceLeDiff,Nat.reduceBEq,Int.reduceLE,Int.reduceLT,Int.reduceToNat,Int.reduceBNe,Int.reduceBEq,Int.reduceNeg,Int.reduceEq,Int.reduceNe,Nat.reduceBNe,Int.reduceAdd,Int.reduceSub,Int.reduceMul,Int.reducePow,Nat.reducePow,Int.reduceGT,Int.reduceGE,if_true,if_false,ite_true,ite_false,beq_self_eq_true,BEq.rfl,reduceCtorEq,eq_self,ne_eq,Function.comp_def,beq_iff_eq]
  generalize hs1 : st ++ [Ob.cells [.map a]] = s1 at g1 c1 hb1 hw1
  refine m_Sorted (n := n + 2) (by simp) c1 hw1.cl hn hmem hs hrg (by omega) (fun hL => ?_) fun hL => ?_
  · have h1 := h0 _ _ s1 g1 (Nat.le_refl _) c1
    simp only [evf,↓evp,evq,evr,fxa0,fxa1,fxa2,fxa3,fxa4,fxu,fxn,fxl,↓fxp,lgc,absL,fitL,flatL,ares,ares1,ofVal,unSc,aload,afill,splice,abound,asI,elems,IntKind.bits,sortT,eqNil,closedL,allByte,patch,pendOK,numA,Value.cells,Value.oneCell',ibin,List.replicate,Option.elim,Nat.reduceAdd,Nat.reduceSub,Nat.reduceMul,Nat.reduceLT,Nat.reduceEqDiff,Nat.reduceLeDiff,Nat.reduceBEq,Int.reduceLE,Int.reduceLT,Int.reduceToNat,Int.reduceBNe,Int.reduceBEq,Int.reduceNeg,Int.reduceEq,Int.reduceNe,Nat.reduceBNe,Int.reduceAdd,Int.reduceSub,Int.reduceMul,Int.reducePow,Nat.reducePow,Int.reduceGT,Int.reduceGE,if_true,if_false,ite_true,ite_false,beq_self_eq_true,BEq.rfl,reduceCtorEq,eq_self,ne_eq,Function.comp_def,beq_iff_eq]
    refine aloop_forF (fun k f s => s = s1 ∧ k = m ∧ f 14 = .sc (.int .i64 0) ∧ f 15 = .sc (.int .i64 0)) ⟨rfl, rfl, by simp only [evf, ne_eq, Nat.reduceEqDiff, Nat.reduceLT, not_false_eq_true], by simp only [evf, ne_eq, Nat.reduceEqDiff, Nat.reduceLT, not_false_eq_true]⟩ ?_
    rintro I' hI' k f s ⟨rfl, hk, f14, f15⟩
    refine ⟨k - 1, by omega, ?_⟩
    have d : decide ((0 : Int) < 0) = false := rfl
    simp only [f14, f15, d, evf,↓evp,evq,evr,fxa0,fxa1,fxa2,fxa3,fxa4,fxu,fxn,fxl,↓fxp,lgc,absL,fitL,flatL,ares,ares1,ofVal,unSc,aload,afill,splice,abound,asI,elems,IntKind.bits,sortT,eqNil,closedL,allByte,patch,pendOK,numA,Value.cells,Value.oneCell',ibin,List.replicate,Option.elim,Nat.reduceAdd,Nat.reduceSub,Nat.reduceMul,Nat.reduceLT,Nat.reduceEqDiff,Nat.reduceLeDiff,Nat.reduceBEq,Int.reduceLE,Int.reduceLT,Int.reduceToNat,Int.reduceBNe,Int.reduceBEq,Int.reduceNeg,Int.reduceEq,Int.reduceNe,Nat.reduceBNe,Int.reduceAdd,Int.reduceSub,Int.reduceMul,Int.reducePow,Nat.reducePow,Int.reduceGT,Int.reduceGE,if_true,if_false,ite_true,ite_false,beq_self_eq_true,BEq.rfl,reduceCtorEq,eq_self,ne_eq,Function.comp_def,beq_iff_eq]
    rw [← show ids.length = 0 from by rw [hL]; rfl] at h1
    exact hend _ _ _ h1
  · have h1 := h0 s1.length (.row 3 (ids.map fun k => .sc (.int .i64 k)) ids.length 0 false) (s1 ++ [.row 3 (ids.map fun k => .sc (.int .i64 k)) ids.length 0 false]) (g1.trans (Grw.push s1 _)) (by have := g1.le; omega) (get_new0 _ _)
    simp only [evf,↓evp,evq,evr,fxa0,fxa1,fxa2,fxa3,fxa4,fxu,fxn,fxl,↓fxp,lgc,absL,fitL,flatL,ares,ares1,ofVal,unSc,aload,afill,splice,abound,asI,elems,IntKind.bits,sortT,eqNil,closedL,allByte,patch,pendOK,numA,Value.cells,Value.oneCell',ibin,List.replicate,Option.elim,Nat.reduceAdd,Nat.reduceSub,Nat.reduceMul,Nat.reduceLT,Nat.reduceEqDiff,Nat.reduceLeDiff,Nat.reduceBEq,Int.reduceLE,Int.reduceLT,Int.reduceToNat,Int.reduceBNe,Int.reduceBEq,Int.reduceNeg,Int.reduceEq,Int.reduceNe,Nat.reduceBNe,Int.reduceAdd,Int.reduceSub,Int.reduceMul,Int.reducePow,Nat.reducePow,Int.reduceGT,Int.reduceGE,if_true,if_false,ite_true,ite_false,beq_self_eq_true,BEq.rfl,reduceCtorEq,eq_self,ne_eq,Function.comp_def,beq_iff_eq]
    refine aloop_forF (fun k f s => ∃ i : Nat, k + i = m ∧ i ≤ ids.length ∧ I s1.length (.row 3 (ids.map fun k => .sc (.int .i64 k)) ids.length 0 false) i s ∧ f 0 = .yl l ∧ f 1 = .ref rb 0 ∧ f 13 = .sl s1.length 0 ids.length false ids.length ∧ f 14 = .sc (.int .i64 ids.length) ∧ f 15 = .sc (.int .i64 i)) ⟨0, by omega, by omega, h1, by simp only [evf, ne_eq, Nat.reduceEqDiff, Nat.reduceLT, not_false_eq_true], by simp only [evf, ne_eq, Nat.reduceEqDiff, Nat.reduceLT, not_false_eq_true], by simp only [evf, ne_eq, Nat.reduceEqDiff, Nat.reduceLT, not_false_eq_true], by simp only [evf, ne_eq, Nat.reduceEqDiff, Nat.reduceLT, not_false_eq_true], by simp only [evf, ne_eq, Nat.reduceEqDiff, Nat.reduceLT, not_false_eq_true]; rfl⟩ ?_
    rintro I' hI' k f s ⟨i, hk, hi, hI, f0, f1, f13, f14, f15⟩
    refine ⟨k - 1, by omega, ?_⟩
    obtain ⟨kb, kw, kr⟩ := keep _ _ _ _ hI
    by_cases hil : i < ids.length
    · have d : decide ((i : Int) < ids.length) = true := decide_eq_true (by omega)
      have e3 : IntKind.i64.wrap ((i : Int) + 1) = ((i + 1 : Nat) : Int) := by rw [IntWalk.i64_in _ (by omega)]; rfl
      have rd : Rd Try.prog s 3 (.sl s1.length 0 ids.length false ids.length) (ids.map fun k => .sc (.int .i64 k)) ids.length := by
        refine ⟨?_, ⟨fun b hb => (by cases hb), fun hh => by cases hh⟩, fun s' hs' => by rw [sz3] at hs'; cases hs'; simp⟩
        simp only [elems, kr, sz3]
        rw [if_pos ⟨trivial, Nat.zero_le _, by omega⟩, Nat.zero_mul, List.drop_zero, Nat.mul_one, List.take_of_length_le (by simp)]
      have p1 := aix_rd rd Try.underlying55 sz3 .i64 (j := (i : Int)) (by omega) (by omega)
      have p2 := ald_ix rd sz3 sz3 (by omega) hil (o := 0) (by omega)
      have p3 : aload Try.prog 3 ((ids.map fun k => V.sc (.int .i64 k)).drop (i * 1 + 0)) = some (.sc (.int .i64 ids[i])) := by
        simp only [aload, ag3, Nat.mul_one, Nat.add_zero]
        rw [List.getElem?_drop, Nat.add_zero, List.getElem?_map, List.getElem?_eq_getElem hil]
        rfl
      rw [p3] at p2
      simp only [Int.toNat_natCast] at p1
      obtain ⟨vv, hvv⟩ : ∃ vv, vv = V.sl s1.length 0 ids.length false ids.length := ⟨_, rfl⟩
      rw [← hvv] at f13 p1 p2
      obtain ⟨v, hv⟩ := Option.isSome_iff_exists.1 ((hmem ids[i]).2 (List.getElem_mem hil))
      have look := lk_int1 Try.underlying89 kw.cl ids[i] hv
      have kw1 := kw.at_
      have st1 := fun K' => step _ _ i hil v s K' hv hI
      simp only [f0, f1, f13, f14, f15, d, p1, p2, kb, kw1, look, evf,↓evp,evq,evr,fxa0,fxa1,fxa2,fxa3,fxa4,fxu,fxn,fxl,↓fxp,lgc,absL,fitL,flatL,ares,ares1,ofVal,unSc,aload,afill,splice,abound,asI,elems,IntKind.bits,sortT,eqNil,closedL,allByte,patch,pendOK,numA,Value.cells,Value.oneCell',ibin,List.replicate,Option.elim,Nat.reduceAdd,Nat.reduceSub,Nat.reduceMul,Nat.reduceLT,Nat.reduceEqDiff,Nat.reduceLeDiff,Nat.reduceBEq,Int.reduceLE,Int.reduceLT,Int.reduceToNat,Int.reduceBNe,Int.reduceBEq,Int.reduceNeg,Int.reduceEq,Int.reduceNe,Nat.reduceBNe,Int.reduceAdd,Int.reduceSub,Int.reduceMul,Int.reducePow,Nat.reducePow,Int.reduceGT,Int.reduceGE,if_true,if_false,ite_true,ite_false,beq_self_eq_true,BEq.rfl,reduceCtorEq,eq_self,ne_eq,Function.comp_def,beq_iff_eq]
      refine yl_fsz fsz (st1 _ (fun s' h' => ?_) fun s' h' => ?_)
      · simp only [f0, f1, f13, f14, f15, e3, evf,↓evp,evq,evr,fxa0,fxa1,fxa2,fxa3,fxa4,fxu,fxn,fxl,↓fxp,lgc,absL,fitL,flatL,ares,ares1,ofVal,unSc,aload,afill,splice,abound,asI,elems,IntKind.bits,sortT,eqNil,closedL,allByte,patch,pendOK,numA,Value.cells,Value.oneCell',ibin,List.replicate,Option.elim,Nat.reduceAdd,Nat.reduceSub,Nat.reduceMul,Nat.reduceLT,Nat.reduceEqDiff,Nat.reduceLeDiff,Nat.reduceBEq,Int.reduceLE,Int.reduceLT,Int.reduceToNat,Int.reduceBNe,Int.reduceBEq,Int.reduceNeg,Int.reduceEq,Int.reduceNe,Nat.reduceBNe,Int.reduceAdd,Int.reduceSub,Int.reduceMul,Int.reducePow,Nat.reducePow,Int.reduceGT,Int.reduceGE,if_true,if_false,ite_true,ite_false,beq_self_eq_true,BEq.rfl,reduceCtorEq,eq_self,ne_eq,Function.comp_def,beq_iff_eq]
        exact hI' _ _ _ ⟨i + 1, by omega, hil, h', by simp only [f0, evf, ne_eq, Nat.reduceEqDiff, Nat.reduceLT, not_false_eq_true], by simp only [f1, evf, ne_eq, Nat.reduceEqDiff, Nat.reduceLT, not_false_eq_true], by simp only [f13, hvv, evf, ne_eq, Nat.reduceEqDiff, Nat.reduceLT, not_false_eq_true], by simp only [f14, evf, ne_eq, Nat.reduceEqDiff, Nat.reduceLT, not_false_eq_true], by simp only [evf, ne_eq, Nat.reduceEqDiff, Nat.reduceLT, not_false_eq_true]⟩
      · simp only [evf,↓evp,evq,evr,fxa0,fxa1,fxa2,fxa3,fxa4,fxu,fxn,fxl,↓fxp,lgc,absL,fitL,flatL,ares,ares1,ofVal,unSc,aload,afill,splice,abound,asI,elems,IntKind.bits,sortT,eqNil,closedL,allByte,patch,pendOK,numA,Value.cells,Value.oneCell',ibin,List.replicate,Option.elim,Nat.reduceAdd,Nat.reduceSub,Nat.reduceMul,Nat.reduceLT,Nat.reduceEqDiff,Nat.reduceLeDiff,Nat.reduceBEq,Int.reduceLE,Int.reduceLT,Int.reduceToNat,Int.reduceBNe,Int.reduceBEq,Int.reduceNeg,Int.reduceEq,Int.reduceNe,Nat.reduceBNe,Int.reduceAdd,Int.reduceSub,Int.reduceMul,Int.reducePow,Nat.reducePow,Int.reduceGT,Int.reduceGE,if_true,if_false,ite_true,ite_false,beq_self_eq_true,BEq.rfl,reduceCtorEq,eq_self,ne_eq,Function.comp_def,beq_iff_eq]
        exact hstop _ h'
    · have d : decide ((i : Int) < ids.length) = false := decide_eq_false (by omega)
      obtain rfl : i = ids.length := by omega
      simp only [f14, f15, d, evf,↓evp,evq,evr,fxa0,fxa1,fxa2,fxa3,fxa4,fxu,fxn,fxl,↓fxp,lgc,absL,fitL,flatL,ares,ares1,ofVal,unSc,aload,afill,splice,abound,asI,elems,IntKind.bits,sortT,eqNil,closedL,allByte,patch,pendOK,numA,Value.cells,Value.oneCell',ibin,List.replicate,Option.elim,Nat.reduceAdd,Nat.reduceSub,Nat.reduceMul,Nat.reduceLT,Nat.reduceEqDiff,Nat.reduceLeDiff,Nat.reduceBEq,Int.reduceLE,Int.reduceLT,Int.reduceToNat,Int.reduceBNe,Int.reduceBEq,Int.reduceNeg,Int.reduceEq,Int.reduceNe,Nat.reduceBNe,Int.reduceAdd,Int.reduceSub,Int.reduceMul,Int.reducePow,Nat.reducePow,Int.reduceGT,Int.reduceGE,if_true,if_false,ite_true,ite_false,beq_self_eq_true,BEq.rfl,reduceCtorEq,eq_self,ne_eq,Function.comp_def,beq_iff_eq]
      exact hend _ _ _ hI
end
/-! ### Chapter 22: all stand where they claimed. -/
section
variable {n m : Nat} {st s : List Ob} {K : V → List Ob → Prop} {tb ix a b u c : Nat} {us gs cls : List (Int × V)} {os cc : List ((Int × Int) × V)} {L M : List U} {x y id : Int}
set_option maxHeartbeats 4000000 in
theorem app_yl {ps : Array Tmp} {asg body : Code} (hc : frf (Try.f44.body.getD .skip) = some (ps, asg, body)) {F : Nat → V} {t1 lid : Nat} {p : Option Code} (q1 : F 1 = .ref t1 0)
    (h1 : s[t1]? = some (.cells [.ref tb 0])) (hT : s[tb]? = some (.cells [.ref ix 0, .map u, .map c])) (hi : Ix s ix a b us os) (hab : a ≠ b) (rel : Rel us os L) (hm : 4 < m)
    (hN : ∃ q ∈ L, q.id = id) (hmv : ∀ i (hi : i < L.length), L[i].id = id → mayB x y L[i].w L[i].h = true ∧ (L.any fun p => p.id != id && meetsR x y L[i].w L[i].h p) = false)
    (hlp : s[lid]? = some (.loop .ready p (pl 44) (ofF 30 F) ps.toList asg body))
    (hK : ∀ i (hi : i < L.length) us' os' s', L[i].id = id → Ix s' ix a b us' os' → Rel us' os' (L.set i (mvU L[i] x y)) → s'[lid]? = some (.loop .ready none (pl 44) (ofF 30 F) ps.toList asg body) → (∀ j o, j ≠ a → j ≠ b → j ≠ lid → s[j]? = some o → s'[j]? = some o) → K (.sc (.bool true)) s') :
    acallF Try.prog pl (n + 8) m Try.prog.funcs.size [.yl lid, .sc (.int .i64 id), .agg (cl x y)] s K := by
  simp only [Try.f44, Option.getD_some, frf, Option.some.injEq, Prod.mk.injEq] at hc
  obtain ⟨rfl, rfl, rfl⟩ := hc
  refine acallF_yl hlp rfl ?_
  rw [show (#[10, 11] : Array Tmp).toList = [10, 11] from rfl, aputs_two (by decide) (by decide)]
  simp only [cl, evf,↓evp,evq,evr,fxa0,fxa1,fxa2,fxa3,fxa4,fxu,fxn,fxl,↓fxp,lgc,absL,fitL,flatL,ares,ares1,ofVal,unSc,aload,afill,splice,abound,asI,elems,IntKind.bits,sortT,eqNil,closedL,allByte,patch,pendOK,numA,Value.cells,Value.oneCell',ibin,List.replicate,Option.elim,Nat.reduceAdd,Nat.reduceSub,Nat.reduceMul,Nat.reduceLT,Nat.reduceEqDiff,Nat.reduceLeDiff,Nat.reduceBEq,Int.reduceLE,Int.reduceLT,Int.reduceToNat,Int.reduceBNe,Int.reduceBEq,Int.reduceNeg,Int.reduceEq,Int.reduceNe,Nat.reduceBNe,Int.reduceAdd,Int.reduceSub,Int.reduceMul,Int.reducePow,Nat.reducePow,Int.reduceGT,Int.reduceGE,if_true,if_false,ite_true,ite_false,beq_self_eq_true,BEq.rfl,reduceCtorEq,eq_self,ne_eq,Function.comp_def,beq_iff_eq]
  have g0 := Grw.push s [.cells (cl x y)]
  have c6 : (s ++ [Ob.cells (cl x y)])[s.length]? = some (.cells (cl x y)) := get_new0 _ _
  simp only [cl] at g0 c6
  refine rdMid_ok (g0 _ _ hlp) ?_
  generalize hs1 : (s ++ [Ob.cells _]) = s1 at g0 c6
  have nl : s.length ≠ lid := fun he => by subst he; rw [List.getElem?_eq_none (Nat.le_refl _)] at hlp; cases hlp
  have lt : lid < s1.length := (List.getElem?_eq_some_iff.1 (g0 _ _ hlp)).1
  have nc : ∀ (j : Nat) (c : List V), s[j]? = some (.cells c) → j ≠ lid := fun j c hj he => by subst he; rw [hlp] at hj; cases hj
  have nm : ∀ (j : Nat) (c : List (Value × V)), s[j]? = some (.map c) → j ≠ lid := fun j c hj he => by subst he; rw [hlp] at hj; cases hj
  generalize hs2 : s1.set lid _ = s2
  have k : ∀ j o, j ≠ lid → s1[j]? = some o → s2[j]? = some o := fun j o hj ho => by rw [← hs2, List.getElem?_set_ne (Ne.symm hj)]; exact ho
  have d1 := k _ _ (nc _ _ h1) (g0 _ _ h1)
  have dT := k _ _ (nc _ _ hT) (g0 _ _ hT)
  have d6 := k _ _ nl c6
  have dl : ∀ o, s1.set lid o = s2 → s2[lid]? = some o := fun o ho => by rw [← ho]; exact List.getElem?_set_self lt
  have dl := dl _ hs2
  have hi2 : Ix s2 ix a b us os := ⟨k _ _ (nc _ _ hi.ix) (g0 _ _ hi.ix), k _ _ (nm _ _ hi.us) (g0 _ _ hi.us), k _ _ (nm _ _ hi.os) (g0 _ _ hi.os)⟩
  simp only [q1, d1, dT, d6, evf,↓evp,evq,evr,fxa0,fxa1,fxa2,fxa3,fxa4,fxu,fxn,fxl,↓fxp,lgc,absL,fitL,flatL,ares,ares1,ofVal,unSc,aload,afill,splice,abound,asI,elems,IntKind.bits,sortT,eqNil,closedL,allByte,patch,pendOK,numA,Value.cells,Value.oneCell',ibin,List.replicate,Option.elim,Nat.reduceAdd,Nat.reduceSub,Nat.reduceMul,Nat.reduceLT,Nat.reduceEqDiff,Nat.reduceLeDiff,Nat.reduceBEq,Int.reduceLE,Int.reduceLT,Int.reduceToNat,Int.reduceBNe,Int.reduceBEq,Int.reduceNeg,Int.reduceEq,Int.reduceNe,Nat.reduceBNe,Int.reduceAdd,Int.reduceSub,Int.reduceMul,Int.reducePow,Nat.reducePow,Int.reduceGT,Int.reduceGE,if_true,if_false,ite_true,ite_false,beq_self_eq_true,BEq.rfl,reduceCtorEq,eq_self,ne_eq,Function.comp_def,beq_iff_eq]
  refine o_Move (n := n) rel hi2 hab hm (fun e => ?_) (fun i hil _ e e1 => ?_) (fun i hil _ e e1 e2 => ?_) fun i hil _ e e1 e2 us' os' s3 h3 r3 k3 => ?_
  · obtain ⟨q, hq, he⟩ := hN
    rcases placeI_spec id L 0 with ⟨_, h2⟩ | ⟨i, hil, h2, _⟩
    · exact absurd he (h2 q hq)
    · rw [e] at h2; omega
  · have := (hmv i hil e).1
    rw [e1] at this; cases this
  · have := (hmv i hil e).2
    rw [e2] at this; cases this
  have nla : lid ≠ a := fun he => nm _ _ hi.us he.symm
  have nlb : lid ≠ b := fun he => nm _ _ hi.os he.symm
  have d1' := k3 _ _ (fun he => by have := hi2.us; rw [← he, d1] at this; cases this) (fun he => by have := hi2.os; rw [← he, d1] at this; cases this) d1
  have dl3 := k3 _ _ nla nlb dl
  have l3 : lid < s3.length := (List.getElem?_eq_some_iff.1 dl3).1
  simp only [q1, d1, dT, d6, evf,↓evp,evq,evr,fxa0,fxa1,fxa2,fxa3,fxa4,fxu,fxn,fxl,↓fxp,lgc,absL,fitL,flatL,ares,ares1,ofVal,unSc,aload,afill,splice,abound,asI,elems,IntKind.bits,sortT,eqNil,closedL,allByte,patch,pendOK,numA,Value.cells,Value.oneCell',ibin,List.replicate,Option.elim,Nat.reduceAdd,Nat.reduceSub,Nat.reduceMul,Nat.reduceLT,Nat.reduceEqDiff,Nat.reduceLeDiff,Nat.reduceBEq,Int.reduceLE,Int.reduceLT,Int.reduceToNat,Int.reduceBNe,Int.reduceBEq,Int.reduceNeg,Int.reduceEq,Int.reduceNe,Nat.reduceBNe,Int.reduceAdd,Int.reduceSub,Int.reduceMul,Int.reducePow,Nat.reducePow,Int.reduceGT,Int.reduceGE,if_true,if_false,ite_true,ite_false,beq_self_eq_true,BEq.rfl,reduceCtorEq,eq_self,ne_eq,Function.comp_def,beq_iff_eq]
  refine rdEnd_normal dl3 ?_
  have k4 : ∀ (z : Ob) j o, j ≠ lid → s3[j]? = some o → (s3.set lid z)[j]? = some o := fun z j o hj ho => by rw [List.getElem?_set_ne (Ne.symm hj)]; exact ho
  refine hK i hil us' os' _ e ⟨k4 _ _ _ (fun he => ?_) h3.ix, k4 _ _ _ (Ne.symm nla) h3.us, k4 _ _ _ (Ne.symm nlb) h3.os⟩ r3 (List.getElem?_set_self l3) fun j o ja jb jl ho => k4 _ _ _ jl (k3 _ _ ja jb (k _ _ jl (g0 _ _ ho)))
  have := h3.ix
  rw [he, dl3] at this
  cases this
set_option maxHeartbeats 4000000 in
theorem t_ApplyC (hr : Rel us os L) (hg : Gd L) (hi : Ix st ix a b us os) (hab : a ≠ b) (hT : Tb st tb ix u c cls cc) (huc : u ≠ c) (hd : a ≠ u ∧ a ≠ c ∧ b ≠ u ∧ b ≠ c) (hC : Cr L M gs cls cc) (hm : 300 < m)
    (hK : ∀ us' os' s, Ix s ix a b us' os' → Rel us' os' (L.map (applyU M)) → Gd (L.map (applyU M)) → Tb s tb ix u c [] [] → (∀ j o, j ≠ a → j ≠ b → j ≠ u → j ≠ c → st[j]? = some o → s[j]? = some o) → K (.sc (.int .i64 M.length)) s) :
    acallF Try.prog pl (n + 10) m 44 [.ref tb 0] st K := by
  refine acallF_inF Try.func44 rfl rfl Try.ntmps44 (by simp) ?_
  have gd := hC.gd hg
  obtain ⟨s1, hs1⟩ : ∃ s1, s1 = st ++ [Ob.cells [.ref tb 0]] := ⟨_, rfl⟩
  have g1 : Grw st s1 := by rw [hs1]; exact .push _ _
  have c1 : s1[st.length]? = some (.cells [.ref tb 0]) := by rw [hs1]; exact get_new0 _ _
  have l1 : s1.length = st.length + 1 := by rw [hs1]; simp
  have hT1 := hT.grw g1
  simp only [evf,↓evp,evq,evr,fxa0,fxa1,fxa2,fxa3,fxa4,fxu,fxn,fxl,↓fxp,lgc,absL,fitL,flatL,ares,ares1,ofVal,unSc,aload,afill,splice,abound,asI,elems,IntKind.bits,sortT,eqNil,closedL,allByte,patch,pendOK,numA,Value.cells,Value.oneCell',ibin,List.replicate,Option.elim,Nat.reduceAdd,Nat.reduceSub,Nat.reduceMul,Nat.reduceLT,Nat.reduceEqDiff,Nat.reduceLeDiff,Nat.reduceBEq,Int.reduceLE,Int.reduceLT,Int.reduceToNat,Int.reduceBNe,Int.reduceBEq,Int.reduceNeg,Int.reduceEq,Int.reduceNe,Nat.reduceBNe,Int.reduceAdd,Int.reduceSub,Int.reduceMul,Int.reducePow,Nat.reducePow,Int.reduceGT,Int.reduceGE,if_true,if_false,ite_true,ite_false,beq_self_eq_true,BEq.rfl,reduceCtorEq,eq_self,ne_eq,Function.comp_def,beq_iff_eq]
  rw [← hs1]
  refine t_Len (n := n + 7) hT1 ?_
  rw [hC.len]
  simp only [c1, evf,↓evp,evq,evr,fxa0,fxa1,fxa2,fxa3,fxa4,fxu,fxn,fxl,↓fxp,lgc,absL,fitL,flatL,ares,ares1,ofVal,unSc,aload,afill,splice,abound,asI,elems,IntKind.bits,sortT,eqNil,closedL,allByte,patch,pendOK,numA,Value.cells,Value.oneCell',ibin,List.replicate,Option.elim,Nat.reduceAdd,Nat.reduceSub,Nat.reduceMul,Nat.reduceLT,Nat.reduceEqDiff,Nat.reduceLeDiff,Nat.reduceBEq,Int.reduceLE,Int.reduceLT,Int.reduceToNat,Int.reduceBNe,Int.reduceBEq,Int.reduceNeg,Int.reduceEq,Int.reduceNe,Nat.reduceBNe,Int.reduceAdd,Int.reduceSub,Int.reduceMul,Int.reducePow,Nat.reducePow,Int.reduceGT,Int.reduceGE,if_true,if_false,ite_true,ite_false,beq_self_eq_true,BEq.rfl,reduceCtorEq,eq_self,ne_eq,Function.comp_def,beq_iff_eq]
  refine t_All (n := n + 8) rfl rfl ?_
  obtain ⟨sa, hsa⟩ : ∃ sa, sa = s1 ++ [Ob.cells [.ref tb 0]] := ⟨_, rfl⟩
  have ga : Grw s1 sa := by rw [hsa]; exact .push _ _
  have va : sa[s1.length]? = some (.cells [.ref tb 0]) := by rw [hsa]; exact get_new0 _ _
  have lsa : sa.length = s1.length + 1 := by rw [hsa]; simp
  have ca := ga _ _ c1
  have hTa := hT1.grw ga
  have hia := (hi.grw g1).grw ga
  rw [← hsa]
  simp only [evf,↓evp,evq,evr,fxa0,fxa1,fxa2,fxa3,fxa4,fxu,fxn,fxl,↓fxp,lgc,absL,fitL,flatL,ares,ares1,ofVal,unSc,aload,afill,splice,abound,asI,elems,IntKind.bits,sortT,eqNil,closedL,allByte,patch,pendOK,numA,Value.cells,Value.oneCell',ibin,List.replicate,Option.elim,Nat.reduceAdd,Nat.reduceSub,Nat.reduceMul,Nat.reduceLT,Nat.reduceEqDiff,Nat.reduceLeDiff,Nat.reduceBEq,Int.reduceLE,Int.reduceLT,Int.reduceToNat,Int.reduceBNe,Int.reduceBEq,Int.reduceNeg,Int.reduceEq,Int.reduceNe,Nat.reduceBNe,Int.reduceAdd,Int.reduceSub,Int.reduceMul,Int.reducePow,Nat.reducePow,Int.reduceGT,Int.reduceGE,if_true,if_false,ite_true,ite_false,beq_self_eq_true,BEq.rfl,reduceCtorEq,eq_self,ne_eq,Function.comp_def,beq_iff_eq]
  generalize hZ : (sa ++ [_]) = Z
  have gZ : Grw sa Z := by rw [← hZ]; exact .push _ _
  have lZ : Z.length = sa.length + 1 := by rw [← hZ]; simp
  obtain ⟨F, ps, asg, body, hc, q1, hl0⟩ : ∃ F ps asg body, frf (Try.f44.body.getD .skip) = some (ps, asg, body) ∧ F 1 = .ref st.length 0 ∧ Z[sa.length]? = some (.loop .ready none (pl 44) (ofF 30 F) ps.toList asg body) := by
    refine ⟨_, _, _, _, rfl, ?_, (by rw [← hZ]; exact get_new0 sa _)⟩
    simp only [evf, ne_eq, Nat.reduceEqDiff, Nat.reduceLT, not_false_eq_true]
  have la : a < st.length := (List.getElem?_eq_some_iff.1 hi.us).1
  have lb : b < st.length := (List.getElem?_eq_some_iff.1 hi.os).1
  have lu : u < st.length := (List.getElem?_eq_some_iff.1 hT.cl).1
  have lc : c < st.length := (List.getElem?_eq_some_iff.1 hT.cc).1
  have lt : tb < st.length := (List.getElem?_eq_some_iff.1 hT.at_).1
  have nta : tb ≠ a := fun he => by have := hT.at_; rw [he, hi.us] at this; cases this
  have ntb : tb ≠ b := fun he => by have := hT.at_; rw [he, hi.os] at this; cases this
  have ntu : tb ≠ u := fun he => by have := hT.at_; rw [he, hT.cl] at this; cases this
  have ntc : tb ≠ c := fun he => by have := hT.at_; rw [he, hT.cc] at this; cases this
  have nxu : ix ≠ u := fun he => by have := hi.ix; rw [he, hT.cl] at this; cases this
  have nxc : ix ≠ c := fun he => by have := hi.ix; rw [he, hT.cc] at this; cases this
  have lx : ix < st.length := (List.getElem?_eq_some_iff.1 hi.ix).1
  have eL : (M.map U.id).length = M.length := List.length_map _
  have hmem : ∀ i, (getI i cls).isSome = true ↔ i ∈ M.map U.id := fun i => by
    rw [isSome_of, List.mem_map]
    constructor
    · rintro ⟨v, hv⟩
      obtain ⟨q, hq, he, _⟩ := (hC.gu _ _).1 hv
      exact ⟨q, hq, he⟩
    · rintro ⟨q, hq, he⟩
      exact ⟨_, (hC.gu _ _).2 ⟨q, hq, he, rfl⟩⟩
  refine t_Each (n := n + 5) (l := sa.length) (rb := s1.length) (ids := M.map U.id) (J := fun _ => False)
    (I := fun r ro k s => ∃ us' os', s[r]? = some ro ∧ Z.length ≤ r ∧ Ix s ix a b us' os' ∧ Rel us' os' (L.map (applyU (M.take k))) ∧ s[sa.length]? = some (.loop .ready none (pl 44) (ofF 30 F) ps.toList asg body) ∧ (∀ j o, j < sa.length → j ≠ a → j ≠ b → sa[j]? = some o → s[j]? = some o))
    (hTa.grw gZ) (gZ _ _ va) hC.ni hmem gd.pw gd.ir (by rw [eL]; exact gd.len) hm ?_ ?_ ?_ ?_ (fun _ h => h.elim)
  · rintro r ro k s ⟨us', os', i1, i2, i3, i4, i5, i6⟩
    exact ⟨i6 _ _ (by omega) (by omega) (by omega) va, ⟨i6 _ _ (by omega) nta ntb hTa.at_, i6 _ _ (by omega) (Ne.symm hd.1) (Ne.symm hd.2.2.1) hTa.cl, i6 _ _ (by omega) (Ne.symm hd.2.1) (Ne.symm hd.2.2.2) hTa.cc⟩, i1⟩
  · intro r ro s g hr1 hr2
    refine ⟨us, os, hr2, hr1, (hia.grw gZ).grw g, ?_, g _ _ hl0, fun j o _ _ _ ho => g _ _ (gZ _ _ ho)⟩
    have : L.map (applyU (M.take 0)) = L := by
      have : ∀ q ∈ L, applyU (M.take 0) q = q := fun q _ => by simp [applyU]
      exact (List.map_congr_left this).trans (List.map_id _)
    rw [this]; exact hr
  · rintro r ro k hil v s K' hv ⟨us', os', i1, i2, i3, i4, i5, i6⟩ hK1 _
    have hk : k < M.length := by rw [eL] at hil; exact hil
    simp only [List.getElem_map] at hv ⊢
    obtain ⟨q, hq, hqe, rfl⟩ := (hC.gu _ _).1 hv
    obtain rfl : q = M[k] := nodup_in hC.rel.ids hq (List.getElem_mem hk) hqe
    have hTs : s[tb]? = some (.cells [.ref ix 0, .map u, .map c]) := i6 _ _ (by omega) nta ntb hTa.at_
    have hval := hC.rel.val M[k] (List.getElem_mem hk)
    refine app_yl (n := n) (t1 := st.length) (lid := sa.length) (F := F) (p := none) hc q1 (i6 _ _ (by omega) (by omega) (by omega) ca) hTs i3 hab i4 (by omega) ?_ (fun i hi2 he => ?_) i5 ?_
    · obtain ⟨p, hp, hpe, _⟩ := hC.un M[k] (List.getElem_mem hk)
      exact ⟨applyU (M.take k) p, List.mem_map.2 ⟨p, hp, rfl⟩, by rw [applyU_id]; exact hpe⟩
    · obtain ⟨_, _, w1, w2, w3⟩ := hC.free hr hk hi2 he
      refine ⟨?_, w3⟩
      rw [w1, w2]
      exact (val_facts hval).1
    · intro i hi2 us2 os2 s' he j1 j2 j3 j4
      obtain ⟨hi', he2, _⟩ := hC.free hr hk hi2 he
      rw [apply_step hr.ids hC.rel.ids hk hi' he2 hi2] at j2
      have rs : r ≠ sa.length := by omega
      exact hK1 _ ⟨us2, os2, j4 _ _ (by omega) (by omega) rs i1, i2, j1, j2, j3, fun j o h1 h2 h3 ho => j4 _ _ h2 h3 (by omega) (i6 _ _ h1 h2 h3 ho)⟩
  · rintro r ro s ⟨us', os', i1, i2, i3, i4, i5, i6⟩
    rw [eL, List.take_length] at i4
    refine rfEnd_normal i5 (by decide) ?_
    generalize hsz : s.set sa.length _ = sz
    have kz : ∀ j o, j ≠ sa.length → s[j]? = some o → sz[j]? = some o := fun j o hj ho => by rw [← hsz, List.getElem?_set_ne (Ne.symm hj)]; exact ho
    have k6 : ∀ j o, j < sa.length → j ≠ a → j ≠ b → sa[j]? = some o → sz[j]? = some o := fun j o h1 h2 h3 ho => kz _ _ (by omega) (i6 _ _ h1 h2 h3 ho)
    have cz := k6 _ _ (by omega) (by omega) (by omega) ca
    have hTz : Tb sz tb ix u c cls cc := ⟨k6 _ _ (by omega) nta ntb hTa.at_, k6 _ _ (by omega) (Ne.symm hd.1) (Ne.symm hd.2.2.1) hTa.cl, k6 _ _ (by omega) (Ne.symm hd.2.1) (Ne.symm hd.2.2.2) hTa.cc⟩
    have aT := hTz.at_
    simp only [cz, evf,↓evp,evq,evr,fxa0,fxa1,fxa2,fxa3,fxa4,fxu,fxn,fxl,↓fxp,lgc,absL,fitL,flatL,ares,ares1,ofVal,unSc,aload,afill,splice,abound,asI,elems,IntKind.bits,sortT,eqNil,closedL,allByte,patch,pendOK,numA,Value.cells,Value.oneCell',ibin,List.replicate,Option.elim,Nat.reduceAdd,Nat.reduceSub,Nat.reduceMul,Nat.reduceLT,Nat.reduceEqDiff,Nat.reduceLeDiff,Nat.reduceBEq,Int.reduceLE,Int.reduceLT,Int.reduceToNat,Int.reduceBNe,Int.reduceBEq,Int.reduceNeg,Int.reduceEq,Int.reduceNe,Nat.reduceBNe,Int.reduceAdd,Int.reduceSub,Int.reduceMul,Int.reducePow,Nat.reducePow,Int.reduceGT,Int.reduceGE,if_true,if_false,ite_true,ite_false,beq_self_eq_true,BEq.rfl,reduceCtorEq,eq_self,ne_eq,Function.comp_def,beq_iff_eq]
    refine t_is (n := n + 8) hTz ?_
    have l1z : u < sz.length := (List.getElem?_eq_some_iff.1 hTz.cl).1
    have cl1 := ab_clear (t := 89) Try.underlying89 hTz.cl
    have cz1 : ∀ o, (sz.set u o)[st.length]? = some (.cells [.ref tb 0]) := fun o => by rw [List.getElem?_set_ne (by omega)]; exact cz
    have aT1 : ∀ o, (sz.set u o)[tb]? = some (.cells [.ref ix 0, .map u, .map c]) := fun o => by rw [List.getElem?_set_ne (Ne.symm ntu)]; exact aT
    have hcc1 : ∀ o, (sz.set u o)[c]? = some (.map (esC cc)) := fun o => by rw [List.getElem?_set_ne huc]; exact hTz.cc
    have cl2 := fun o => ab_clear (t := 60) Try.underlying60 (hcc1 o)
    simp only [cz, aT, cl1, cz1, aT1, cl2, evf,↓evp,evq,evr,fxa0,fxa1,fxa2,fxa3,fxa4,fxu,fxn,fxl,↓fxp,lgc,absL,fitL,flatL,ares,ares1,ofVal,unSc,aload,afill,splice,abound,asI,elems,IntKind.bits,sortT,eqNil,closedL,allByte,patch,pendOK,numA,Value.cells,Value.oneCell',ibin,List.replicate,Option.elim,Nat.reduceAdd,Nat.reduceSub,Nat.reduceMul,Nat.reduceLT,Nat.reduceEqDiff,Nat.reduceLeDiff,Nat.reduceBEq,Int.reduceLE,Int.reduceLT,Int.reduceToNat,Int.reduceBNe,Int.reduceBEq,Int.reduceNeg,Int.reduceEq,Int.reduceNe,Nat.reduceBNe,Int.reduceAdd,Int.reduceSub,Int.reduceMul,Int.reducePow,Nat.reducePow,Int.reduceGT,Int.reduceGE,if_true,if_false,ite_true,ite_false,beq_self_eq_true,BEq.rfl,reduceCtorEq,eq_self,ne_eq,Function.comp_def,beq_iff_eq]
    have l2z : c < (sz.set u (Ob.map [])).length := by rw [List.length_set]; exact (List.getElem?_eq_some_iff.1 hTz.cc).1
    have fin : ∀ j o, j ≠ u → j ≠ c → sz[j]? = some o → ((sz.set u (Ob.map [])).set c (Ob.map []))[j]? = some o := fun j o h1 h2 ho => by
      rw [List.getElem?_set_ne (Ne.symm h2), List.getElem?_set_ne (Ne.symm h1)]; exact ho
    have hixz : Ix sz ix a b us' os' := ⟨kz _ _ (by omega) i3.ix, kz _ _ (by omega) i3.us, kz _ _ (by omega) i3.os⟩
    have gdF : Gd (L.map (applyU M)) := by
      refine ⟨?_, fun v hv => ?_, by rw [List.length_map]; exact hg.len⟩
      · unfold Srt
        refine List.pairwise_map.2 (hg.srt.imp fun {p q} h => ?_)
        rw [applyU_id, applyU_id]; exact h
      · obtain ⟨p, hp, rfl⟩ := List.mem_map.1 hv
        rw [applyU_id]; exact hg.rng p hp
    refine hK us' os' _ ⟨fin _ _ nxu nxc hixz.ix, fin _ _ hd.1 hd.2.1 hixz.us, fin _ _ hd.2.2.1 hd.2.2.2 hixz.os⟩ i4 gdF ⟨fin _ _ ntu ntc hTz.at_, ?_, ?_⟩ ?_
    · rw [List.getElem?_set_ne (Ne.symm huc), List.getElem?_set_self l1z]; rfl
    · rw [List.getElem?_set_self l2z]; rfl
    · intro j o h1 h2 h3 h4 ho
      have lj : j < st.length := (List.getElem?_eq_some_iff.1 ho).1
      exact fin _ _ h3 h4 (k6 _ _ (by omega) h1 h2 (ga _ _ (g1 _ _ ho)))
end
/-! ### Chapter 22: claims, as they are handed in; old and new places. -/
structure K4 where
  id : Int
  x : Int
  y : Int
  ap : Bool
def K4.v (e : K4) : List V := .sc (.int .i64 e.id) :: .sc (.int .i64 e.x) :: .sc (.int .i64 e.y) :: [.sc (.bool e.ap)]
section
variable {s : List Ob} {C : List K4} {lv : V}
theorem k_id (hv : Rd Try.prog s 82 lv (C.flatMap K4.v) C.length) {i : Nat} (hi : i < C.length) : afa Try.prog s 82 0 (ixp 4 lv i 0) = some (ixp 4 lv i 0, s) ∧ ald Try.prog s 3 (ixp 4 lv i 0) = some (.sc (.int .i64 C[i].id), s) := by
  refine ⟨afa_ix hv (i := 0) (off := 0) (k := 1) (ft := 3) (by kernel_rfl) (by omega) i 0, ?_⟩
  rw [ald_ix hv sz82 sz3 (by omega) hi (by omega)]
  simp only [aload, ag3, Nat.add_zero]
  rw [flatMap_at (f := K4.v) (s := 4) (fun a => rfl) C i hi]
  rfl
theorem k_to (hv : Rd Try.prog s 82 lv (C.flatMap K4.v) C.length) {i : Nat} (hi : i < C.length) : afa Try.prog s 82 1 (ixp 4 lv i 0) = some (ixp 4 lv i 1, s) ∧ ald Try.prog s 32 (ixp 4 lv i 1) = some (.agg (cl C[i].x C[i].y), s) := by
  refine ⟨afa_ix hv (i := 1) (off := 1) (k := 2) (ft := 32) (by kernel_rfl) (by omega) i 0, ?_⟩
  rw [ald_ix hv sz82 sz32 (by omega) hi (by omega)]
  have e : (C.flatMap K4.v).drop (i * 4 + 1) = cl C[i].x C[i].y ++ .sc (.bool C[i].ap) :: (C.drop (i + 1)).flatMap K4.v := by
    rw [← List.drop_drop, flatMap_at (f := K4.v) (s := 4) (fun a => rfl) C i hi]
    rfl
  rw [e]
  simp only [aload, ag32, sz32]
  rw [if_pos (by simp [cl])]
  rfl
end
theorem mx_comm (a b : Int) : mx a b = mx b a := by unfold mx; split <;> split <;> omega
theorem mn_comm (a b : Int) : mn a b = mn b a := by unfold mn; split <;> split <;> omega
theorem meetB_comm (x y w h x2 y2 w2 h2 : Int) : meetB x y w h x2 y2 w2 h2 = meetB x2 y2 w2 h2 x y w h := by
  unfold meetB lapB
  rw [mx_comm x x2, mx_comm y y2, mn_comm (x + w - 1), mn_comm (y + h - 1), Bool.and_comm (mayB x y w h)]
section
variable {us gs cls : List (Int × V)} {os cc : List ((Int × Int) × V)} {L M : List U}
/-- Who claimed comes to stand where nobody else stood. -/
theorem Cr.old_new (h : Cr L M gs cls cc) (hr : Rel us os L) {p q : U} (hp : p ∈ L) (hq : q ∈ L) (hne : p.id ≠ q.id) : meetB (applyU M p).x (applyU M p).y (applyU M p).w (applyU M p).h q.x q.y q.w q.h = false := by
  unfold applyU
  cases hf : M.find? (fun c => c.id == p.id) with
  | none => exact hr.apart hp hq hne
  | some d =>
    have d1 := List.find?_some hf
    have d2 := List.mem_of_find?_eq_some hf
    have de : d.id = p.id := by simpa using d1
    obtain ⟨p', hp', q1, q2, q3⟩ := h.un d d2
    have ep' : p' = p := nodup_in hr.ids hp' hp (by rw [q1, de])
    rw [ep'] at q2 q3
    have := h.fr d d2 q hq (by rw [de]; exact Ne.symm hne)
    rw [meetB_comm]
    simp only [mvU, q2, q3]
    exact this
end
theorem kp4_km {s s' : List Ob} {a b u c : Nat} {x y z w : List (Value × V)} (h : ∀ j o, j ≠ a → j ≠ b → j ≠ u → j ≠ c → s[j]? = some o → s'[j]? = some o) (ha : s[a]? = some (.map x)) (hb : s[b]? = some (.map y)) (hu : s[u]? = some (.map z)) (hc : s[c]? = some (.map w)) : Km s s' := fun j o hn hj =>
  h j o (fun he => by subst he; rw [ha] at hj; cases hj; exact hn _ rfl) (fun he => by subst he; rw [hb] at hj; cases hj; exact hn _ rfl) (fun he => by subst he; rw [hu] at hj; cases hj; exact hn _ rfl) (fun he => by subst he; rw [hc] at hj; cases hj; exact hn _ rfl) hj
set_option maxRecDepth 100000 in
theorem tv_units {k : Nat} {ys : List V} (h : TV Try.prog (k + 5) 75 ys) : ∃ (lv : V) (E : List U), ys = [lv] ∧ (∀ s, Rd Try.prog s 130 lv (E.flatMap U.v) E.length) ∧ (∀ e ∈ E, inR e.id) ∧ E.length ≤ 3518437208883 := by
  obtain ⟨us, n, nil, full, rfl, hu, hn, hnil⟩ := tv_slice h Try.underlying75
  obtain ⟨E, rfl, rfl, hE⟩ := TVn.list (f := U.v) (Q := fun e => inR e.id) (fun ys hy => by
    have h := tv_struct hy Try.underlying130
    obtain ⟨y1, z1, rfl, h1, h⟩ := h
    obtain ⟨y2, z2, rfl, h2, h⟩ := h
    obtain rfl : z2 = [] := h
    obtain ⟨i, rfl, hi⟩ := tv_int h1 Try.underlying3
    obtain ⟨x, y, w, hh, rfl⟩ := tv_rect h2
    exact ⟨⟨i, x, y, w, hh⟩, by simp [U.v, rc], wf_inR hi⟩) hu
  rw [bytes_of by130] at hn
  have er : reachBytes = 140737488351232 := rfl
  rw [er] at hn
  exact ⟨.tsl (E.flatMap U.v) E.length nil full, E, rfl, fun s => tsl_rd sz130 (flatMap_len (f := U.v) (s := 5) (fun _ => rfl) _) (fun h => (hnil h).1), hE, by omega⟩
set_option maxRecDepth 100000 in
theorem tv_claims {k : Nat} {ys : List V} (h : TV Try.prog (k + 5) 76 ys) : ∃ (lv : V) (C : List K4), ys = [lv] ∧ (∀ s, Rd Try.prog s 82 lv (C.flatMap K4.v) C.length) ∧ C.length ≤ 4398046511104 := by
  obtain ⟨us, n, nil, full, rfl, hu, hn, hnil⟩ := tv_slice h Try.underlying76
  obtain ⟨E, rfl, rfl, _⟩ := TVn.list (f := K4.v) (Q := fun _ => True) (fun ys hy => by
    have h := tv_struct hy Try.underlying82
    obtain ⟨y1, z1, rfl, h1, h⟩ := h
    obtain ⟨y2, z2, rfl, h2, h⟩ := h
    obtain ⟨y3, z3, rfl, h3, h⟩ := h
    obtain rfl : z3 = [] := h
    obtain ⟨i, rfl, _⟩ := tv_int h1 Try.underlying3
    have h := tv_struct h2 Try.underlying32
    obtain ⟨a3, b3, rfl, j3, h⟩ := h
    obtain ⟨a4, b4, rfl, j4, h⟩ := h
    obtain rfl : b4 = [] := h
    obtain ⟨x, rfl, _⟩ := tv_int j3 Try.underlying3
    obtain ⟨y, rfl, _⟩ := tv_int j4 Try.underlying3
    obtain ⟨b, rfl⟩ := tv_bool h3 Try.underlying4
    exact ⟨⟨i, x, y, b⟩, by simp [K4.v], trivial⟩) hu
  rw [bytes_of by82] at hn
  have er : reachBytes = 140737488351232 := rfl
  rw [er] at hn
  exact ⟨.tsl (E.flatMap K4.v) E.length nil full, E, rfl, fun s => tsl_rd sz82 (flatMap_len (f := K4.v) (s := 4) (fun _ => rfl) _) (fun h => (hnil h).1), by omega⟩
end Go.Proofs.Ytgmccnnjpejigaa
