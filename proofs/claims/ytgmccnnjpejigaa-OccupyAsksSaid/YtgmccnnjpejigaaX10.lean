/- Chapters 5 and 22: acts, units and claims, as they are handed in. The document's index: rows of units, turned in their places. The document's index: what Put tells. Chapter 3: what two rectangles have both. Chapter 5: who is met by a great rectangle: all units are asked, in whatever order. Chapter 5: has nobody but one a cell of a rectangle? For every rectangle. Chapter 5's reference: a unit taken, a unit moved. Chapter 5: an act, with both: they tell the same. Chapter 5: the law OccupyActs. -/
import Derived.Test.YtgmccnnjpejigaaX5
import Derived.Test.YtgmccnnjpejigaaGS
import Derived.Test.YtgmccnnjpejigaaM23
set_option linter.unusedVariables false
set_option linter.unusedSimpArgs false
set_option maxRecDepth 10000
namespace Go.Proofs.Ytgmccnnjpejigaa
open Go Go.M Go.RowKit
attribute [local congr] acallF_cong aloop_cong bcase_cong resK_cong valK_cong wantK_cong callK_cong xputK_cong qputK_cong resM_cong rfK_cong
attribute [local irreducible] seqK blockK loopK nextK bcase resK valK wantK funK putK dputK xputK qputK callK aops aop acode adraw aloop acallF acall invK resM rfK rfEnd rdEnd rdMid around
/-! ### Chapters 5 and 22: acts, units and claims, as they are handed in. -/
theorem bytes_of {t : TypeId} {b : Nat} (h : M.bytesOf Try.prog t = some b) : Try.prog.bytesOf t = b := by
  unfold M.bytesOf at h
  unfold Program.bytesOf
  rw [h]; rfl
theorem wf_inR {i : Int} (h : (Lit.int IntKind.i64 i).wf = true) : inR i := by
  simp [Lit.wf, IntKind.max, IntKind.min, IntKind.signed, IntKind.bits] at h
  unfold inR; omega
set_option maxRecDepth 100000 in
theorem tv_rect {k : Nat} {ys : List V} (h : TV Try.prog (k + 2) 34 ys) : ∃ x y w hh : Int, ys = rc x y w hh := by
  have h := tv_struct h Try.underlying34
  obtain ⟨a0, b0, rfl, j0, h⟩ := h
  obtain ⟨a1, b1, rfl, j1, h⟩ := h
  obtain ⟨a2, b2, rfl, j2, h⟩ := h
  obtain rfl : b2 = [] := h
  have h := tv_struct j0 Try.underlying32
  obtain ⟨a3, b3, rfl, j3, h⟩ := h
  obtain ⟨a4, b4, rfl, j4, h⟩ := h
  obtain rfl : b4 = [] := h
  obtain ⟨x, rfl, _⟩ := tv_int j3 Try.underlying3
  obtain ⟨y, rfl, _⟩ := tv_int j4 Try.underlying3
  obtain ⟨w, rfl, _⟩ := tv_int j1 Try.underlying3
  obtain ⟨hh, rfl, _⟩ := tv_int j2 Try.underlying3
  exact ⟨x, y, w, hh, rfl⟩
set_option maxRecDepth 100000 in
theorem tv_acts {k : Nat} {ys : List V} (h : TV Try.prog (k + 5) 22 ys) : ∃ (lv : V) (E : List A6), ys = [lv] ∧ (∀ s, Rd Try.prog s 36 lv (E.flatMap A6.v) E.length) ∧ (∀ e ∈ E, inR e.id) ∧ E.length ≤ 2932031007402 := by
  obtain ⟨us, n, nil, full, rfl, hu, hn, hnil⟩ := tv_slice h Try.underlying22
  obtain ⟨E, rfl, rfl, hE⟩ := TVn.list (f := A6.v) (Q := fun e => inR e.id) (fun ys hy => by
    have h := tv_struct hy Try.underlying36
    obtain ⟨y1, z1, rfl, h1, h⟩ := h
    obtain ⟨y2, z2, rfl, h2, h⟩ := h
    obtain ⟨y3, z3, rfl, h3, h⟩ := h
    obtain rfl : z3 = [] := h
    obtain ⟨d, rfl, _⟩ := tv_int h1 Try.underlying3
    obtain ⟨i, rfl, hi⟩ := tv_int h2 Try.underlying3
    obtain ⟨x, y, w, hh, rfl⟩ := tv_rect h3
    exact ⟨⟨d, i, x, y, w, hh⟩, by simp [A6.v, rc], wf_inR hi⟩) hu
  rw [bytes_of by36] at hn
  have er : reachBytes = 140737488351232 := rfl
  rw [er] at hn
  exact ⟨.tsl (E.flatMap A6.v) E.length nil full, E, rfl, fun s => tsl_rd sz36 (flatMap_len (f := A6.v) (s := 6) (fun _ => rfl) _) (fun h => (hnil h).1), hE, by omega⟩
/-! ### The document's index: rows of units, turned in their places. -/
theorem cut_nil (P : Program) (s : List Ob) {e : TypeId} : Cut P s e (.tsl [] 0 true true) [] 0 := ⟨⟨rfl, ⟨fun b hb => (by cases hb), fun _ => rfl⟩, fun s _ => by simp⟩, .inl ⟨_, _, _, _, rfl⟩, fun _ => rfl⟩
theorem splice_at (L : List U) (x y : Int) : ∀ (i : Nat) (hi : i < L.length), splice (L.flatMap U.v) (cl x y) (i * 5 + 1) = (L.set i (mvU L[i] x y)).flatMap U.v := by
  intro i hi
  unfold splice
  have e1 : (L.flatMap U.v) = (L.take i).flatMap U.v ++ (U.v L[i] ++ (L.drop (i + 1)).flatMap U.v) := by
    rw [← List.flatMap_cons, ← List.drop_eq_getElem_cons hi, ← List.flatMap_append, List.take_append_drop]
  have l1 : ((L.take i).flatMap U.v).length = i * 5 := by rw [flatMap_len (f := U.v) (s := 5) (fun _ => rfl), List.length_take, Nat.min_eq_left (by omega)]
  rw [List.set_eq_take_append_cons_drop, if_pos hi, List.flatMap_append, List.flatMap_cons, e1]
  have l2 : (cl x y).length = 2 := rfl
  have d1 : List.drop (i * 5 + 1 + 2) ((L.take i).flatMap U.v) = [] := List.drop_of_length_le (by omega)
  rw [List.take_append, List.drop_append, List.take_of_length_le (by omega), l1, l2, show i * 5 + 1 - i * 5 = 1 by omega, d1, show i * 5 + 1 + 2 - i * 5 = 3 by omega]
  simp only [U.v, rc, cl, mvU, List.cons_append, List.nil_append, List.take_succ_cons, List.take_zero, List.drop_succ_cons, List.drop_zero, List.append_assoc]
section
variable {s : List Ob} {rid n lo i : Nat} {X : List U}
theorem rowU_at (h : s[rid]? = some (.row 48 (X.flatMap U.v) n lo false)) (hlo : lo ≤ n) (hn : X.length = n) (hi : i < X.length) :
    aix Try.prog s 27 (.sl rid 0 n false n) (.sc (.int .i64 i)) = some (.rref rid (i * 5) n, s) ∧ afa Try.prog s 48 0 (.rref rid (i * 5) n) = some (.rref rid (i * 5) n, s) ∧
    ald Try.prog s 3 (.rref rid (i * 5) n) = some (.sc (.int .i64 X[i].id), s) ∧ afa Try.prog s 48 1 (.rref rid (i * 5) n) = some (.rref rid (i * 5 + 1) n, s) ∧
    afa Try.prog s 34 0 (.rref rid (i * 5 + 1) n) = some (.rref rid (i * 5 + 1) n, s) ∧
    ∀ x y, asto Try.prog s 32 (.rref rid (i * 5 + 1) n) (.agg (cl x y)) = some (.sc undef, s.set rid (.row 48 ((X.set i (mvU X[i] x y)).flatMap U.v) n n false)) := by
  subst hn
  have gl : Gl s 48 (.sl rid 0 X.length false X.length) (X.flatMap U.v) X.length := .inr ⟨rid, lo, rfl, h, hlo⟩
  have rd := gl.rd (P := Try.prog) sz48 (flatMap_len (f := U.v) (s := 5) (fun _ => rfl) _)
  obtain ⟨p1, p2⟩ := ix_flat (f := U.v) (fun a => rfl) rd Try.underlying27 sz48 ag48 (by omega) hi
  obtain ⟨p3, p4⟩ := u_id rd hi
  obtain ⟨p5, p6⟩ := u_r rd hi
  have e : ixp 5 (.sl rid 0 X.length false X.length) i 0 = .rref rid (i * 5) X.length := by simp [ixp]
  have e1 : ixp 5 (.sl rid 0 X.length false X.length) i 1 = .rref rid (i * 5 + 1) X.length := by simp [ixp]
  rw [e] at p1 p2 p3 p4 p5
  rw [e1] at p5
  refine ⟨p1, p3, p4, p5, ?_, fun x y => ?_⟩
  · rw [afa_rref]
    rfl
  rw [asto_rref, h]
  have hl : (X.flatMap U.v).length = X.length * 5 := flatMap_len (f := U.v) (s := 5) (fun _ => rfl) _
  have hb : i * 5 + 1 + 2 ≤ X.length * 5 := by omega
  have ec : cellsV (.agg (cl x y)) = cl x y := rfl
  simp only [ec]
  rw [if_pos ⟨by rw [sz32]; rfl, by rw [hl]; exact hb, trivial, trivial, rfl, rfl⟩, splice_at X x y i hi]
end
/-! ### The document's index: what Put tells. -/
section
variable {n m : Nat} {st s : List Ob} {K : V → List Ob → Prop} {L : List U} {x y w h id : Int} {sv : V} {iy : Nat}
theorem r_PutR (hy : Ri st iy sv L) (hm : 300 < m) (hl : L.length ≤ 256)
    (hK1 : putR L id x y w h ≠ 0 → ∀ s, Grw st s → K (.sc (.int .i64 (putR L id x y w h))) s)
    (hK0 : putR L id x y w h = 0 → ∀ sv' s, Ri s iy sv' (insU ⟨id, x, y, w, h⟩ L) → (∀ j o, j ≠ iy → st[j]? = some o → s[j]? = some o) → K (.sc (.int .i64 0)) s) :
    acallF Try.prog pl (n + 7) m 56 [.ref iy 0, .sc (.int .i64 id), .agg (rc x y w h)] st K := by
  unfold putR at hK1 hK0
  refine r_Put hy (by omega) (by omega) (fun e s g => ?_) (fun e1 e2 e3 e4 s g => ?_) (fun e1 e2 e3 e4 e5 s g => ?_) (fun e1 e2 e3 e4 e5 e6 s g => ?_) fun e1 e2 e3 e4 e5 e6 sv' s h1 h2 => ?_
  · rw [if_pos e] at hK1
    exact hK1 (by decide) s g
  all_goals have en : ¬ (mayB x y w h = false ∨ w > 4 ∨ h > 4) := by rw [e1]; simp; omega
  all_goals rw [if_neg en] at hK1 hK0
  · rw [if_pos e4] at hK1
    exact hK1 (by decide) s g
  all_goals rw [if_neg (by omega)] at hK1 hK0
  · rw [if_pos e5] at hK1
    exact hK1 (by decide) s g
  all_goals rw [if_neg (by omega)] at hK1 hK0
  · rw [if_pos e6] at hK1
    exact hK1 (by decide) s g
  · rw [if_neg (by rw [e6]; decide)] at hK0
    exact hK0 rfl sv' s h1 h2
end
/-! ### Chapter 3: what two rectangles have both. -/
section
variable {n m : Nat} {st s : List Ob} {K : V → List Ob → Prop} {x y w h x2 y2 w2 h2 : Int}
theorem c_between {a b c d : Int} (ha : -10000000 ≤ a ∧ a ≤ 10000000) (hb : -10000000 ≤ b ∧ b ≤ 10000000) (hc : -10000000 ≤ c ∧ c ≤ 10000000) (hd : -10000000 ≤ d ∧ d ≤ 10000000)
    (hK : ∀ s, Grw st s → K (.agg (rc a b (c - a + 1) (d - b + 1))) s) : acallF Try.prog pl (n + 1) m 95 [.agg (cl a b), .agg (cl c d)] st K := by
  refine acallF_inF Try.func95 rfl rfl Try.ntmps95 (by simp) ?_
  have e1 : IntKind.i64.wrap (c - a) = c - a := wi64 (by omega) (by omega)
  have e2 : IntKind.i64.wrap (d - b) = d - b := wi64 (by omega) (by omega)
  have e3 : IntKind.i64.wrap (c - a + 1) = c - a + 1 := wi64 (by omega) (by omega)
  have e4 : IntKind.i64.wrap (d - b + 1) = d - b + 1 := wi64 (by omega) (by omega)
  have g0 := Grw.push st [.cells (cl a b), .cells (cl c d), .cells (rc a b (c - a + 1) (d - b + 1))]
  simp only [rc, cl] at g0 hK
  simp only [cl, e1, e2, e3, e4, get_new, get_new0, M.set_new, M.set_new0, evf,↓evp,evq,evr,fxa0,fxa1,fxa2,fxa3,fxa4,fxu,fxn,fxl,↓fxp,lgc,absL,fitL,flatL,ares,ares1,ofVal,unSc,aload,afill,splice,abound,asI,elems,IntKind.bits,sortT,eqNil,closedL,allByte,patch,pendOK,numA,Value.cells,Value.oneCell',ibin,List.replicate,Option.elim,Nat.reduceAdd,Nat.reduceSub,Nat.reduceMul,Nat.reduceLT,Nat.reduceEqDiff,Nat.reduceLeDiff,Nat.reduceBEq,Int.reduceLE,Int.reduceLT,Int.reduceToNat,Int.reduceBNe,Int.reduceBEq,Int.reduceNeg,Int.reduceEq,Int.reduceNe,Nat.reduceBNe,Int.reduceAdd,Int.reduceSub,Int.reduceMul,Int.reducePow,Nat.reducePow,Int.reduceGT,Int.reduceGE,if_true,if_false,ite_true,ite_false,beq_self_eq_true,BEq.rfl,reduceCtorEq,eq_self,ne_eq,Function.comp_def,beq_iff_eq]
  exact hK _ g0
set_option maxHeartbeats 4000000 in
theorem c_Meet (hK : ∀ a b c d s, Grw st s → K (.tup [.agg (rc a b c d), .sc (.bool (meetB x y w h x2 y2 w2 h2))]) s) : acallF Try.prog pl (n + 4) m 70 [.agg (rc x y w h), .agg (rc x2 y2 w2 h2)] st K := by
  refine acallF_inF Try.func70 rfl rfl Try.ntmps70 (by simp) ?_
  have g0 := Grw.push st [.cells (rc x y w h), .cells (rc x2 y2 w2 h2), .cells (rc 0 0 0 0)]
  have x0 : (st ++ [Ob.cells (rc x y w h), .cells (rc x2 y2 w2 h2), .cells (rc 0 0 0 0)])[st.length]? = some (.cells (rc x y w h)) := get_new _ _ 0
  have x0' : (st ++ [Ob.cells (rc x y w h), .cells (rc x2 y2 w2 h2), .cells (rc 0 0 0 0)])[st.length + 1]? = some (.cells (rc x2 y2 w2 h2)) := get_new _ _ 1
  have x0'' : (st ++ [Ob.cells (rc x y w h), .cells (rc x2 y2 w2 h2), .cells (rc 0 0 0 0)])[st.length + 2]? = some (.cells (rc 0 0 0 0)) := get_new _ _ 2
  unfold meetB at hK
  simp only [rc] at g0 x0 x0' x0''
  simp only [rc, x0, x0', evf,↓evp,evq,evr,fxa0,fxa1,fxa2,fxa3,fxa4,fxu,fxn,fxl,↓fxp,lgc,absL,fitL,flatL,ares,ares1,ofVal,unSc,aload,afill,splice,abound,asI,elems,IntKind.bits,sortT,eqNil,closedL,allByte,patch,pendOK,numA,Value.cells,Value.oneCell',ibin,List.replicate,Option.elim,Nat.reduceAdd,Nat.reduceSub,Nat.reduceMul,Nat.reduceLT,Nat.reduceEqDiff,Nat.reduceLeDiff,Nat.reduceBEq,Int.reduceLE,Int.reduceLT,Int.reduceToNat,Int.reduceBNe,Int.reduceBEq,Int.reduceNeg,Int.reduceEq,Int.reduceNe,Nat.reduceBNe,Int.reduceAdd,Int.reduceSub,Int.reduceMul,Int.reducePow,Nat.reducePow,Int.reduceGT,Int.reduceGE,if_true,if_false,ite_true,ite_false,beq_self_eq_true,BEq.rfl,reduceCtorEq,eq_self,ne_eq,Function.comp_def,beq_iff_eq]
  refine c_May (n := n) fun s1 j1 => ?_
  have x1 := j1 _ _ x0
  have x1' := j1 _ _ x0'
  have x1'' := j1 _ _ x0''
  have g1 := g0.trans j1
  have stn : ∀ (s : List Ob) (o : Ob), Grw st s → Grw st (s.set (st.length + 2) o) := fun s o h => h.set (by omega) o
  cases e1 : mayB x y w h
  · have y1 : ∀ o, (s1.set (st.length + 2) o)[st.length + 2]? = some o := fun o => get_set x1'' o
    simp only [e1, Bool.false_and] at hK
    simp only [x1, x1', x1'', y1, e1, evf,↓evp,evq,evr,fxa0,fxa1,fxa2,fxa3,fxa4,fxu,fxn,fxl,↓fxp,lgc,absL,fitL,flatL,ares,ares1,ofVal,unSc,aload,afill,splice,abound,asI,elems,IntKind.bits,sortT,eqNil,closedL,allByte,patch,pendOK,numA,Value.cells,Value.oneCell',ibin,List.replicate,Option.elim,Nat.reduceAdd,Nat.reduceSub,Nat.reduceMul,Nat.reduceLT,Nat.reduceEqDiff,Nat.reduceLeDiff,Nat.reduceBEq,Int.reduceLE,Int.reduceLT,Int.reduceToNat,Int.reduceBNe,Int.reduceBEq,Int.reduceNeg,Int.reduceEq,Int.reduceNe,Nat.reduceBNe,Int.reduceAdd,Int.reduceSub,Int.reduceMul,Int.reducePow,Nat.reducePow,Int.reduceGT,Int.reduceGE,if_true,if_false,ite_true,ite_false,beq_self_eq_true,BEq.rfl,reduceCtorEq,eq_self,ne_eq,Function.comp_def,beq_iff_eq]
    exact hK 0 0 0 0 _ (stn _ _ g1)
  simp only [x1, x1', x1'', e1, evf,↓evp,evq,evr,fxa0,fxa1,fxa2,fxa3,fxa4,fxu,fxn,fxl,↓fxp,lgc,absL,fitL,flatL,ares,ares1,ofVal,unSc,aload,afill,splice,abound,asI,elems,IntKind.bits,sortT,eqNil,closedL,allByte,patch,pendOK,numA,Value.cells,Value.oneCell',ibin,List.replicate,Option.elim,Nat.reduceAdd,Nat.reduceSub,Nat.reduceMul,Nat.reduceLT,Nat.reduceEqDiff,Nat.reduceLeDiff,Nat.reduceBEq,Int.reduceLE,Int.reduceLT,Int.reduceToNat,Int.reduceBNe,Int.reduceBEq,Int.reduceNeg,Int.reduceEq,Int.reduceNe,Nat.reduceBNe,Int.reduceAdd,Int.reduceSub,Int.reduceMul,Int.reducePow,Nat.reducePow,Int.reduceGT,Int.reduceGE,if_true,if_false,ite_true,ite_false,beq_self_eq_true,BEq.rfl,reduceCtorEq,eq_self,ne_eq,Function.comp_def,beq_iff_eq]
  refine c_May (n := n) fun s2 j2 => ?_
  have z2 := j2 _ _ x1
  have z2' := j2 _ _ x1'
  have z2'' := j2 _ _ x1''
  have g2 := g1.trans j2
  have y2'' : ∀ o, (s2.set (st.length + 2) o)[st.length + 2]? = some o := fun o => get_set z2'' o
  cases e2 : mayB x2 y2 w2 h2
  · simp only [e1, e2, Bool.false_and, Bool.and_false] at hK
    simp only [z2, z2', z2'', y2'', e1, e2, evf,↓evp,evq,evr,fxa0,fxa1,fxa2,fxa3,fxa4,fxu,fxn,fxl,↓fxp,lgc,absL,fitL,flatL,ares,ares1,ofVal,unSc,aload,afill,splice,abound,asI,elems,IntKind.bits,sortT,eqNil,closedL,allByte,patch,pendOK,numA,Value.cells,Value.oneCell',ibin,List.replicate,Option.elim,Nat.reduceAdd,Nat.reduceSub,Nat.reduceMul,Nat.reduceLT,Nat.reduceEqDiff,Nat.reduceLeDiff,Nat.reduceBEq,Int.reduceLE,Int.reduceLT,Int.reduceToNat,Int.reduceBNe,Int.reduceBEq,Int.reduceNeg,Int.reduceEq,Int.reduceNe,Nat.reduceBNe,Int.reduceAdd,Int.reduceSub,Int.reduceMul,Int.reducePow,Nat.reducePow,Int.reduceGT,Int.reduceGE,if_true,if_false,ite_true,ite_false,beq_self_eq_true,BEq.rfl,reduceCtorEq,eq_self,ne_eq,Function.comp_def,beq_iff_eq]
    exact hK 0 0 0 0 _ (stn _ _ g2)
  obtain ⟨fx, fy, fw, fh, fx2, fy2⟩ := may_facts e1
  obtain ⟨ex, ey, ew, eh, ex2, ey2⟩ := may_facts e2
  have m1 := e1
  have m2 := e2
  simp only [mayB, Bool.and_eq_true] at m1 m2
  simp only [e1, e2, Bool.true_and, lapB] at hK
  have q0 := Grw.push s2 [Ob.gone, Ob.gone]
  have v2 := q0 _ _ z2
  have v2' := q0 _ _ z2'
  have v2'' := q0 _ _ z2''
  simp only [z2, z2', z2'', v2, v2', v2'', e2, evf,↓evp,evq,evr,fxa0,fxa1,fxa2,fxa3,fxa4,fxu,fxn,fxl,↓fxp,lgc,absL,fitL,flatL,ares,ares1,ofVal,unSc,aload,afill,splice,abound,asI,elems,IntKind.bits,sortT,eqNil,closedL,allByte,patch,pendOK,numA,Value.cells,Value.oneCell',ibin,List.replicate,Option.elim,Nat.reduceAdd,Nat.reduceSub,Nat.reduceMul,Nat.reduceLT,Nat.reduceEqDiff,Nat.reduceLeDiff,Nat.reduceBEq,Int.reduceLE,Int.reduceLT,Int.reduceToNat,Int.reduceBNe,Int.reduceBEq,Int.reduceNeg,Int.reduceEq,Int.reduceNe,Nat.reduceBNe,Int.reduceAdd,Int.reduceSub,Int.reduceMul,Int.reducePow,Nat.reducePow,Int.reduceGT,Int.reduceGE,if_true,if_false,ite_true,ite_false,beq_self_eq_true,BEq.rfl,reduceCtorEq,eq_self,ne_eq,Function.comp_def,beq_iff_eq]
  refine c_last m1.1.1.1.1 m1.1.1.1.2 m1.1.1.2 m1.1.2 fun s3 j3 => ?_
  have w3 := j3 _ _ v2
  have w3' := j3 _ _ v2'
  have w3'' := j3 _ _ v2''
  simp only [z2, z2', z2'', v2, v2', v2'', w3, w3', w3'', evf,↓evp,evq,evr,fxa0,fxa1,fxa2,fxa3,fxa4,fxu,fxn,fxl,↓fxp,lgc,absL,fitL,flatL,ares,ares1,ofVal,unSc,aload,afill,splice,abound,asI,elems,IntKind.bits,sortT,eqNil,closedL,allByte,patch,pendOK,numA,Value.cells,Value.oneCell',ibin,List.replicate,Option.elim,Nat.reduceAdd,Nat.reduceSub,Nat.reduceMul,Nat.reduceLT,Nat.reduceEqDiff,Nat.reduceLeDiff,Nat.reduceBEq,Int.reduceLE,Int.reduceLT,Int.reduceToNat,Int.reduceBNe,Int.reduceBEq,Int.reduceNeg,Int.reduceEq,Int.reduceNe,Nat.reduceBNe,Int.reduceAdd,Int.reduceSub,Int.reduceMul,Int.reducePow,Nat.reducePow,Int.reduceGT,Int.reduceGE,if_true,if_false,ite_true,ite_false,beq_self_eq_true,BEq.rfl,reduceCtorEq,eq_self,ne_eq,Function.comp_def,beq_iff_eq]
  refine c_last m2.1.1.1.1 m2.1.1.1.2 m2.1.1.2 m2.1.2 fun s4 j4 => ?_
  have w4 := j4 _ _ w3
  have w4' := j4 _ _ w3'
  have w4'' := j4 _ _ w3''
  have gg : Grw (s2 ++ [Ob.gone, Ob.gone]) s4 := j3.trans j4
  have p0 : s4[s2.length]? = some Ob.gone := gg _ _ (get_new0 _ _)
  have p1 : s4[s2.length + 1]? = some Ob.gone := gg _ _ (get_new _ _ 1)
  have ha : s2.length < s4.length := (List.getElem?_eq_some_iff.1 p0).1
  have hb : s2.length + 1 < s4.length := (List.getElem?_eq_some_iff.1 p1).1
  have hs : st.length + 2 < s2.length := (List.getElem?_eq_some_iff.1 z2'').1
  have n1 : (s2.length = s2.length + 1) = False := eq_false (by omega)
  have n2 : (s2.length + 1 = s2.length) = False := eq_false (by omega)
  have n3 : (s2.length = st.length) = False := eq_false (by omega)
  have n4 : (s2.length = st.length + 1) = False := eq_false (by omega)
  have n5 : (s2.length = st.length + 2) = False := eq_false (by omega)
  have n6 : (s2.length + 1 = st.length) = False := eq_false (by omega)
  have n7 : (s2.length + 1 = st.length + 1) = False := eq_false (by omega)
  have n8 : (s2.length + 1 = st.length + 2) = False := eq_false (by omega)
  have hc : st.length + 2 < s4.length := (List.getElem?_eq_some_iff.1 w4'').1
  have hg : Grw st s4 := (g2.trans q0).trans gg
  simp only [cl, List.getElem?_set, List.length_set, if_true, if_false, n1, n2, n3, n4, n5, n6, n7, n8, ha, hb, hc, p0, p1, z2, z2', z2'', v2, v2', v2'', w3, w3', w3'', w4, w4', w4'', evf,↓evp,evq,evr,fxa0,fxa1,fxa2,fxa3,fxa4,fxu,fxn,fxl,↓fxp,lgc,absL,fitL,flatL,ares,ares1,ofVal,unSc,aload,afill,splice,abound,asI,elems,IntKind.bits,sortT,eqNil,closedL,allByte,patch,pendOK,numA,Value.cells,Value.oneCell',ibin,List.replicate,Option.elim,Nat.reduceAdd,Nat.reduceSub,Nat.reduceMul,Nat.reduceLT,Nat.reduceEqDiff,Nat.reduceLeDiff,Nat.reduceBEq,Int.reduceLE,Int.reduceLT,Int.reduceToNat,Int.reduceBNe,Int.reduceBEq,Int.reduceNeg,Int.reduceEq,Int.reduceNe,Nat.reduceBNe,Int.reduceAdd,Int.reduceSub,Int.reduceMul,Int.reducePow,Nat.reducePow,Int.reduceGT,Int.reduceGE,if_true,if_false,ite_true,ite_false,beq_self_eq_true,BEq.rfl,reduceCtorEq,eq_self,ne_eq,Function.comp_def,beq_iff_eq]
  have em : (if x < x2 then x2 else x) = mx x x2 := rfl
  have em2 : (if y < y2 then y2 else y) = mx y y2 := rfl
  have en : (if x2 + w2 - 1 < x + w - 1 then x2 + w2 - 1 else x + w - 1) = mn (x + w - 1) (x2 + w2 - 1) := rfl
  have en2 : (if y2 + h2 - 1 < y + h - 1 then y2 + h2 - 1 else y + h - 1) = mn (y + h - 1) (y2 + h2 - 1) := rfl
  simp only [em, em2, en, en2]
  have bx : -10000000 ≤ mx x x2 ∧ mx x x2 ≤ 10000000 := by unfold mx; split <;> omega
  have by_ : -10000000 ≤ mx y y2 ∧ mx y y2 ≤ 10000000 := by unfold mx; split <;> omega
  have cx : -10000000 ≤ mn (x + w - 1) (x2 + w2 - 1) ∧ mn (x + w - 1) (x2 + w2 - 1) ≤ 10000000 := by unfold mn; split <;> omega
  have cy : -10000000 ≤ mn (y + h - 1) (y2 + h2 - 1) ∧ mn (y + h - 1) (y2 + h2 - 1) ≤ 10000000 := by unfold mn; split <;> omega
  refine c_between (n := n + 2) bx by_ cx cy fun s5 g5 => ?_
  generalize hZ : ((((s4.set s2.length _).set (s2.length + 1) _).set s2.length _).set (s2.length + 1) _) = Z at g5
  have gz : Grw st Z := by
    rw [← hZ]
    repeat' (first | exact hg | refine Grw.set ?_ (by omega) _)
  have z0 : Z[st.length + 2]? = some (.cells [.sc (.int .i64 0), .sc (.int .i64 0), .sc (.int .i64 0), .sc (.int .i64 0)]) := by
    rw [← hZ]
    simp only [List.getElem?_set, List.length_set, n5, n8, if_false]
    exact w4''
  have z5 := g5 _ _ z0
  have lz : st.length + 2 < s5.length := (List.getElem?_eq_some_iff.1 z5).1
  have g5' : Grw st s5 := gz.trans g5
  have g6 := Grw.push s5 [Ob.cells (rc (mx x x2) (mx y y2) (mn (x + w - 1) (x2 + w2 - 1) - mx x x2 + 1) (mn (y + h - 1) (y2 + h2 - 1) - mx y y2 + 1))]
  have z6 := g6 _ _ z5
  have r6 : (s5 ++ [Ob.cells (rc (mx x x2) (mx y y2) (mn (x + w - 1) (x2 + w2 - 1) - mx x x2 + 1) (mn (y + h - 1) (y2 + h2 - 1) - mx y y2 + 1))])[s5.length]? = some (.cells (rc (mx x x2) (mx y y2) (mn (x + w - 1) (x2 + w2 - 1) - mx x x2 + 1) (mn (y + h - 1) (y2 + h2 - 1) - mx y y2 + 1))) := get_new0 _ _
  have gg6 := g5'.trans g6
  simp only [rc] at g6 z6 r6 gg6
  simp only [rc, evf,↓evp,evq,evr,fxa0,fxa1,fxa2,fxa3,fxa4,fxu,fxn,fxl,↓fxp,lgc,absL,fitL,flatL,ares,ares1,ofVal,unSc,aload,afill,splice,abound,asI,elems,IntKind.bits,sortT,eqNil,closedL,allByte,patch,pendOK,numA,Value.cells,Value.oneCell',ibin,List.replicate,Option.elim,Nat.reduceAdd,Nat.reduceSub,Nat.reduceMul,Nat.reduceLT,Nat.reduceEqDiff,Nat.reduceLeDiff,Nat.reduceBEq,Int.reduceLE,Int.reduceLT,Int.reduceToNat,Int.reduceBNe,Int.reduceBEq,Int.reduceNeg,Int.reduceEq,Int.reduceNe,Nat.reduceBNe,Int.reduceAdd,Int.reduceSub,Int.reduceMul,Int.reducePow,Nat.reducePow,Int.reduceGT,Int.reduceGE,if_true,if_false,ite_true,ite_false,beq_self_eq_true,BEq.rfl,reduceCtorEq,eq_self,ne_eq,Function.comp_def,beq_iff_eq]
  generalize (s5 ++ [Ob.cells _]) = s6 at z6 r6 gg6
  have b6 : ∀ o, (s6.set (st.length + 2) o)[st.length + 2]? = some o := fun o => get_set z6 o
  have d1 : decide (mn (x + w - 1) (x2 + w2 - 1) - mx x x2 + 1 < 1) = decide (mn (x + w - 1) (x2 + w2 - 1) < mx x x2) := by rw [decide_eq_decide]; omega
  have d2 : decide (mn (y + h - 1) (y2 + h2 - 1) - mx y y2 + 1 < 1) = decide (mn (y + h - 1) (y2 + h2 - 1) < mx y y2) := by rw [decide_eq_decide]; omega
  cases d5 : decide (mn (x + w - 1) (x2 + w2 - 1) < mx x x2)
  all_goals cases d6 : decide (mn (y + h - 1) (y2 + h2 - 1) < mx y y2)
  all_goals
    rw [d5] at d1
    rw [d6] at d2
    simp only [d5, d6, rc] at hK
    simp only [r6, z6, d1, d2, b6, evf,↓evp,evq,evr,fxa0,fxa1,fxa2,fxa3,fxa4,fxu,fxn,fxl,↓fxp,lgc,absL,fitL,flatL,ares,ares1,ofVal,unSc,aload,afill,splice,abound,asI,elems,IntKind.bits,sortT,eqNil,closedL,allByte,patch,pendOK,numA,Value.cells,Value.oneCell',ibin,List.replicate,Option.elim,Nat.reduceAdd,Nat.reduceSub,Nat.reduceMul,Nat.reduceLT,Nat.reduceEqDiff,Nat.reduceLeDiff,Nat.reduceBEq,Int.reduceLE,Int.reduceLT,Int.reduceToNat,Int.reduceBNe,Int.reduceBEq,Int.reduceNeg,Int.reduceEq,Int.reduceNe,Nat.reduceBNe,Int.reduceAdd,Int.reduceSub,Int.reduceMul,Int.reducePow,Nat.reducePow,Int.reduceGT,Int.reduceGE,if_true,if_false,ite_true,ite_false,beq_self_eq_true,BEq.rfl,reduceCtorEq,eq_self,ne_eq,Function.comp_def,beq_iff_eq]
    exact hK _ _ _ _ _ (stn _ _ gg6)
end
/-! ### Chapter 5: who is met by a great rectangle: all units are asked, in whatever order. -/
attribute [local irreducible] bcode bops bloop toldK bsK bblK bivK unB bopK
def hitV (sb : Int → Bool) (x y w h : Int) (e : Int × V) : Bool := match e.2 with
  | .agg [.sc (.int _ qx), .sc (.int _ qy), .sc (.int _ qw), .sc (.int _ qh)] => meetB qx qy qw qh x y w h && sb e.1
  | _ => false
section
variable {n m : Nat} {st s : List Ob} {K : V → List Ob → Prop} {ix a b : Nat} {us : List (Int × V)} {os : List ((Int × Int) × V)} {x y w h : Int} {sb : Int → Bool} {g : FuncId} {caps : List V}
theorem Ix.over {ov : Nat → Option Ob} (h : Ix st ix a b us os) : Ix (over ov st) ix a b us os := ⟨fill_cells h.ix, fill_map h.us, fill_map h.os⟩
set_option maxHeartbeats 4000000 in
theorem meets_told (hgs : g ≠ Try.prog.funcs.size) (hi : Ix st ix a b us os) (hab : a ≠ b) (hrc : ∀ e ∈ us, ∃ qx qy qw qh, e.2 = .agg (rc qx qy qw qh)) (hmay : mayB x y w h = true) (hbig : 64 < w * h) (hlen : us.length < m)
    (hso : ∀ i s2, (∀ (j : Nat) (cs : List V), st[j]? = some (.cells cs) → s2[j]? = some (.cells cs)) → ∀ K' : V → List Ob → Prop, K' (.sc (.bool (sb i))) s2 → acallF Try.prog pl (n + 4) m g (.sc (.int .i64 i) :: caps) s2 K') :
    M.Told Try.prog 61 [.ref ix 0, .agg (rc x y w h), .fn (.func g) caps] st (.sc (.bool (us.any (hitV sb x y w h)))) st := by
  refine told_inF (n := n + 4) (m := m) follows noGor plans primsOK Try.func61 rfl Try.ntmps61 (by simp) (.inl rfl) fun ov hov => ?_
  have hC : CMono (acallF Try.prog pl (n + 4) m) := acallF_mono _
  obtain ⟨S0, hS0⟩ : ∃ S0, S0 = over ov st := ⟨_, rfl⟩
  have hi0 : Ix S0 ix a b us os := by rw [hS0]; exact hi.over
  have hc0 : ∀ (j : Nat) (cs : List V), st[j]? = some (.cells cs) → S0[j]? = some (.cells cs) := fun j cs hj => by rw [hS0]; exact fill_cells hj
  rw [← hS0]
  refine bc_seq (bc_ac hC rfl ?_)
  simp only [rc, unB_eq, bsK_normal, evf,↓evp,evq,evr,fxa0,fxa1,fxa2,fxa3,fxa4,fxu,fxn,fxl,↓fxp,lgc,absL,fitL,flatL,ares,ares1,ofVal,unSc,aload,afill,splice,abound,asI,elems,IntKind.bits,sortT,eqNil,closedL,allByte,patch,pendOK,numA,Value.cells,Value.oneCell',ibin,List.replicate,Option.elim,Nat.reduceAdd,Nat.reduceSub,Nat.reduceMul,Nat.reduceLT,Nat.reduceEqDiff,Nat.reduceLeDiff,Nat.reduceBEq,Int.reduceLE,Int.reduceLT,Int.reduceToNat,Int.reduceBNe,Int.reduceBEq,Int.reduceNeg,Int.reduceEq,Int.reduceNe,Nat.reduceBNe,Int.reduceAdd,Int.reduceSub,Int.reduceMul,Int.reducePow,Nat.reducePow,Int.reduceGT,Int.reduceGE,if_true,if_false,ite_true,ite_false,beq_self_eq_true,BEq.rfl,reduceCtorEq,eq_self,ne_eq,Function.comp_def,beq_iff_eq]
  obtain ⟨s1, hs1⟩ : ∃ s1, s1 = S0 ++ [Ob.cells [.ref ix 0], Ob.cells (rc x y w h), Ob.cells [.fn (.func g) caps], Ob.cells [.sc (.bool false)]] := ⟨_, rfl⟩
  have g1 : Grw S0 s1 := by rw [hs1]; exact .push _ _
  have x0 : s1[S0.length]? = some (.cells [.ref ix 0]) := by rw [hs1]; exact get_new0 _ _
  have x1 : s1[S0.length + 1]? = some (.cells (rc x y w h)) := by rw [hs1]; exact get_new _ _ 1
  have x2 : s1[S0.length + 2]? = some (.cells [.fn (.func g) caps]) := by rw [hs1]; exact get_new _ _ 2
  have x3 : s1[S0.length + 3]? = some (.cells [.sc (.bool false)]) := by rw [hs1]; exact get_new _ _ 3
  have hi1 := hi0.grw g1
  have i1 := hi1.ix
  have la0 : a < S0.length := (List.getElem?_eq_some_iff.1 hi0.us).1
  simp only [rc] at hs1 x1
  rw [← hs1]
  obtain ⟨fx, fy, fw, fh, _, _⟩ := may_facts hmay
  have hwh : w * h ≤ 1048576 * 1048576 := Int.mul_le_mul (by omega) (by omega) (by omega) (by omega)
  have e1 : IntKind.i64.wrap (w * h) = w * h := wi64 (by omega) (by omega)
  have d1 : decide (w * h ≤ 64) = false := decide_eq_false (by omega)
  refine bc_seq (bc_ac hC rfl ?_)
  simp only [x1, e1, d1, unB_eq, bsK_normal, evf,↓evp,evq,evr,fxa0,fxa1,fxa2,fxa3,fxa4,fxu,fxn,fxl,↓fxp,lgc,absL,fitL,flatL,ares,ares1,ofVal,unSc,aload,afill,splice,abound,asI,elems,IntKind.bits,sortT,eqNil,closedL,allByte,patch,pendOK,numA,Value.cells,Value.oneCell',ibin,List.replicate,Option.elim,Nat.reduceAdd,Nat.reduceSub,Nat.reduceMul,Nat.reduceLT,Nat.reduceEqDiff,Nat.reduceLeDiff,Nat.reduceBEq,Int.reduceLE,Int.reduceLT,Int.reduceToNat,Int.reduceBNe,Int.reduceBEq,Int.reduceNeg,Int.reduceEq,Int.reduceNe,Nat.reduceBNe,Int.reduceAdd,Int.reduceSub,Int.reduceMul,Int.reducePow,Nat.reducePow,Int.reduceGT,Int.reduceGE,if_true,if_false,ite_true,ite_false,beq_self_eq_true,BEq.rfl,reduceCtorEq,eq_self,ne_eq,Function.comp_def,beq_iff_eq]
  refine bc_seq (bc_seq (bc_reg hC 4 rfl ?_))
  simp only [List.take_succ_cons, List.take_zero, List.drop_succ_cons, List.drop_zero, x0, i1, bopK_eq, evf,↓evp,evq,evr,fxa0,fxa1,fxa2,fxa3,fxa4,fxu,fxn,fxl,↓fxp,lgc,absL,fitL,flatL,ares,ares1,ofVal,unSc,aload,afill,splice,abound,asI,elems,IntKind.bits,sortT,eqNil,closedL,allByte,patch,pendOK,numA,Value.cells,Value.oneCell',ibin,List.replicate,Option.elim,Nat.reduceAdd,Nat.reduceSub,Nat.reduceMul,Nat.reduceLT,Nat.reduceEqDiff,Nat.reduceLeDiff,Nat.reduceBEq,Int.reduceLE,Int.reduceLT,Int.reduceToNat,Int.reduceBNe,Int.reduceBEq,Int.reduceNeg,Int.reduceEq,Int.reduceNe,Nat.reduceBNe,Int.reduceAdd,Int.reduceSub,Int.reduceMul,Int.reducePow,Nat.reducePow,Int.reduceGT,Int.reduceGE,if_true,if_false,ite_true,ite_false,beq_self_eq_true,BEq.rfl,reduceCtorEq,eq_self,ne_eq,Function.comp_def,beq_iff_eq]
  refine bo_range (a := a) (by simp only [evf,↓evp,evq,evr,fxa0,fxa1,fxa2,fxa3,fxa4,fxu,fxn,fxl,↓fxp,lgc,absL,fitL,flatL,ares,ares1,ofVal,unSc,aload,afill,splice,abound,asI,elems,IntKind.bits,sortT,eqNil,closedL,allByte,patch,pendOK,numA,Value.cells,Value.oneCell',ibin,List.replicate,Option.elim,Nat.reduceAdd,Nat.reduceSub,Nat.reduceMul,Nat.reduceLT,Nat.reduceEqDiff,Nat.reduceLeDiff,Nat.reduceBEq,Int.reduceLE,Int.reduceLT,Int.reduceToNat,Int.reduceBNe,Int.reduceBEq,Int.reduceNeg,Int.reduceEq,Int.reduceNe,Nat.reduceBNe,Int.reduceAdd,Int.reduceSub,Int.reduceMul,Int.reducePow,Nat.reducePow,Int.reduceGT,Int.reduceGE,if_true,if_false,ite_true,ite_false,beq_self_eq_true,BEq.rfl,reduceCtorEq,eq_self,ne_eq,Function.comp_def,beq_iff_eq]) hi1.us Try.underlying59 fun B => ?_
  simp only [bo_nil, bsK_normal, evf,↓evp,evq,evr,fxa0,fxa1,fxa2,fxa3,fxa4,fxu,fxn,fxl,↓fxp,lgc,absL,fitL,flatL,ares,ares1,ofVal,unSc,aload,afill,splice,abound,asI,elems,IntKind.bits,sortT,eqNil,closedL,allByte,patch,pendOK,numA,Value.cells,Value.oneCell',ibin,List.replicate,Option.elim,Nat.reduceAdd,Nat.reduceSub,Nat.reduceMul,Nat.reduceLT,Nat.reduceEqDiff,Nat.reduceLeDiff,Nat.reduceBEq,Int.reduceLE,Int.reduceLT,Int.reduceToNat,Int.reduceBNe,Int.reduceBEq,Int.reduceNeg,Int.reduceEq,Int.reduceNe,Nat.reduceBNe,Int.reduceAdd,Int.reduceSub,Int.reduceMul,Int.reducePow,Nat.reducePow,Int.reduceGT,Int.reduceGE,if_true,if_false,ite_true,ite_false,beq_self_eq_true,BEq.rfl,reduceCtorEq,eq_self,ne_eq,Function.comp_def,beq_iff_eq]
  obtain ⟨s2, hs2⟩ : ∃ s2, s2 = s1.set a (.held (esI us)) := ⟨_, rfl⟩
  have la1 : a < s1.length := (List.getElem?_eq_some_iff.1 hi1.us).1
  have h2 : s2[a]? = some (.held (esI us)) := by rw [hs2]; exact List.getElem?_set_self la1
  have k2 : ∀ j o, j ≠ a → s1[j]? = some o → s2[j]? = some o := fun j o hj ho => by rw [hs2, List.getElem?_set_ne (Ne.symm hj)]; exact ho
  have y1 := k2 _ _ (by omega) x1
  have y2 := k2 _ _ (by omega) x2
  have y3 := k2 _ _ (by omega) x3
  have lS : S0.length + 4 ≤ s2.length := by rw [hs2, List.length_set, hs1]; simp
  have hcs : ∀ (j : Nat) (cs : List V), st[j]? = some (.cells cs) → s2[j]? = some (.cells cs) := fun j cs hj => by
    have h0 := hc0 j cs hj
    exact k2 _ _ (fun he => by rw [he, hi0.us] at h0; cases h0) (g1 _ _ h0)
  rw [← hs2]
  have hlen2 : (esI us).length = us.length := List.length_map _
  have esat : ∀ (j : Nat) (hj : j < (esI us).length), (esI us)[j] = (Value.int .i64 (us[j]'(by rw [← hlen2]; exact hj)).1, (us[j]'(by rw [← hlen2]; exact hj)).2) := fun j hj => by simp only [esI, List.getElem_map]
  -- what holds behind the map's release
  have fin_grw : ∀ s, Grw s2 s → Grw S0 (s.set a (.map (esI us))) := fun s gs j o hj => by
    by_cases hja : j = a
    · subst hja
      rw [hi0.us] at hj
      rw [List.getElem?_set_self (by have := gs.le; omega), ← hj]
    · rw [List.getElem?_set_ne (Ne.symm hja)]
      exact gs _ _ (k2 _ _ hja (g1 _ _ hj))
  refine bc_block (bc_loop ?_)
  refine bloop_forF (fun k f s I => ∃ (seen : List Nat) (cur : Option Nat), I = some ⟨B, a, esI us, seen, cur⟩ ∧ k + seen.length = m ∧ seen.Nodup ∧ (∀ j ∈ seen, ∃ hj : j < us.length, hitV sb x y w h us[j] = false) ∧ Grw s2 s ∧ f 4 = .ref (S0.length + 1) 0 ∧ f 5 = .ref (S0.length + 2) 0 ∧ f 6 = .ref (S0.length + 3) 0 ∧ f 42 = .sc (.pointer (some ⟨B, 0, none⟩)))
    ⟨[], none, rfl, by simp, by simp, by simp, fun _ _ h => h, by simp only [evf, ne_eq, Nat.reduceEqDiff, Nat.reduceLT, not_false_eq_true], by simp only [evf, ne_eq, Nat.reduceEqDiff, Nat.reduceLT, not_false_eq_true], by simp only [evf, ne_eq, Nat.reduceEqDiff, Nat.reduceLT, not_false_eq_true], by simp only [evf, ne_eq, Nat.reduceEqDiff, Nat.reduceLT, not_false_eq_true]⟩ ?_
  rintro J' hJ' k f s I ⟨seen, cur, rfl, hk, hnd, hsn, gs, f4, f5, f6, f42⟩
  have hsl : seen.length ≤ us.length := by
    have := List.Nodup.length_le_of_subset (l₁ := seen) (l₂ := List.range us.length) hnd fun j hj => List.mem_range.2 (hsn j hj).1
    rwa [List.length_range] at this
  refine ⟨k - 1, by omega, ?_⟩
  have hh := gs _ _ h2
  have z1 := gs _ _ y1
  have z2 := gs _ _ y2
  have z3 := gs _ _ y3
  have lgs := gs.le
  refine bc_seq (bc_reg hC 0 rfl ?_)
  simp only [List.take_zero, List.drop_zero, bopK_eq, evf,↓evp,evq,evr,fxa0,fxa1,fxa2,fxa3,fxa4,fxu,fxn,fxl,↓fxp,lgc,absL,fitL,flatL,ares,ares1,ofVal,unSc,aload,afill,splice,abound,asI,elems,IntKind.bits,sortT,eqNil,closedL,allByte,patch,pendOK,numA,Value.cells,Value.oneCell',ibin,List.replicate,Option.elim,Nat.reduceAdd,Nat.reduceSub,Nat.reduceMul,Nat.reduceLT,Nat.reduceEqDiff,Nat.reduceLeDiff,Nat.reduceBEq,Int.reduceLE,Int.reduceLT,Int.reduceToNat,Int.reduceBNe,Int.reduceBEq,Int.reduceNeg,Int.reduceEq,Int.reduceNe,Nat.reduceBNe,Int.reduceAdd,Int.reduceSub,Int.reduceMul,Int.reducePow,Nat.reducePow,Int.reduceGT,Int.reduceGE,if_true,if_false,ite_true,ite_false,beq_self_eq_true,BEq.rfl,reduceCtorEq,eq_self,ne_eq,Function.comp_def,beq_iff_eq]
  refine bo_next (it := ⟨B, a, esI us, seen, cur⟩) (by simp only [f42, evf,↓evp,evq,evr,fxa0,fxa1,fxa2,fxa3,fxa4,fxu,fxn,fxl,↓fxp,lgc,absL,fitL,flatL,ares,ares1,ofVal,unSc,aload,afill,splice,abound,asI,elems,IntKind.bits,sortT,eqNil,closedL,allByte,patch,pendOK,numA,Value.cells,Value.oneCell',ibin,List.replicate,Option.elim,Nat.reduceAdd,Nat.reduceSub,Nat.reduceMul,Nat.reduceLT,Nat.reduceEqDiff,Nat.reduceLeDiff,Nat.reduceBEq,Int.reduceLE,Int.reduceLT,Int.reduceToNat,Int.reduceBNe,Int.reduceBEq,Int.reduceNeg,Int.reduceEq,Int.reduceNe,Nat.reduceBNe,Int.reduceAdd,Int.reduceSub,Int.reduceMul,Int.reducePow,Nat.reducePow,Int.reduceGT,Int.reduceGE,if_true,if_false,ite_true,ite_false,beq_self_eq_true,BEq.rfl,reduceCtorEq,eq_self,ne_eq,Function.comp_def,beq_iff_eq]) hh (fun hall => ?_) fun j hj hjn => ?_
  · refine bo_rest hC rfl ?_
    simp only [bopK_eq, bo_nil, bsK_normal, evf,↓evp,evq,evr,fxa0,fxa1,fxa2,fxa3,fxa4,fxu,fxn,fxl,↓fxp,lgc,absL,fitL,flatL,ares,ares1,ofVal,unSc,aload,afill,splice,abound,asI,elems,IntKind.bits,sortT,eqNil,closedL,allByte,patch,pendOK,numA,Value.cells,Value.oneCell',ibin,List.replicate,Option.elim,Nat.reduceAdd,Nat.reduceSub,Nat.reduceMul,Nat.reduceLT,Nat.reduceEqDiff,Nat.reduceLeDiff,Nat.reduceBEq,Int.reduceLE,Int.reduceLT,Int.reduceToNat,Int.reduceBNe,Int.reduceBEq,Int.reduceNeg,Int.reduceEq,Int.reduceNe,Nat.reduceBNe,Int.reduceAdd,Int.reduceSub,Int.reduceMul,Int.reducePow,Nat.reducePow,Int.reduceGT,Int.reduceGE,if_true,if_false,ite_true,ite_false,beq_self_eq_true,BEq.rfl,reduceCtorEq,eq_self,ne_eq,Function.comp_def,beq_iff_eq]
    refine bc_seq (bc_ac hC rfl ?_)
    have w3 : (s.set a (.map (esI us)))[S0.length + 3]? = some (.cells [.sc (.bool false)]) := by rw [List.getElem?_set_ne (by omega)]; exact z3
    have hany : us.any (hitV sb x y w h) = false := by
      rw [List.any_eq_false]
      intro e he
      obtain ⟨j, hj, rfl⟩ := List.getElem_of_mem he
      obtain ⟨_, h2⟩ := hsn j (hall j (by rw [hlen2]; exact hj))
      rw [h2]; simp
    simp only [unB_eq, bsK_exit, bivK_exit, bblK_exit, bsK_normal, if_true, evf,↓evp,evq,evr,fxa0,fxa1,fxa2,fxa3,fxa4,fxu,fxn,fxl,↓fxp,lgc,absL,fitL,flatL,ares,ares1,ofVal,unSc,aload,afill,splice,abound,asI,elems,IntKind.bits,sortT,eqNil,closedL,allByte,patch,pendOK,numA,Value.cells,Value.oneCell',ibin,List.replicate,Option.elim,Nat.reduceAdd,Nat.reduceSub,Nat.reduceMul,Nat.reduceLT,Nat.reduceEqDiff,Nat.reduceLeDiff,Nat.reduceBEq,Int.reduceLE,Int.reduceLT,Int.reduceToNat,Int.reduceBNe,Int.reduceBEq,Int.reduceNeg,Int.reduceEq,Int.reduceNe,Nat.reduceBNe,Int.reduceAdd,Int.reduceSub,Int.reduceMul,Int.reducePow,Nat.reducePow,Int.reduceGT,Int.reduceGE,if_true,if_false,ite_true,ite_false,beq_self_eq_true,BEq.rfl,reduceCtorEq,eq_self,ne_eq,Function.comp_def,beq_iff_eq]
    refine bc_ac hC rfl ?_
    have b3 : ∀ o, ((s.set a (.map (esI us))).set (S0.length + 3) o)[S0.length + 3]? = some o := fun o => get_set w3 o
    simp only [f6, w3, unB_eq, evf,↓evp,evq,evr,fxa0,fxa1,fxa2,fxa3,fxa4,fxu,fxn,fxl,↓fxp,lgc,absL,fitL,flatL,ares,ares1,ofVal,unSc,aload,afill,splice,abound,asI,elems,IntKind.bits,sortT,eqNil,closedL,allByte,patch,pendOK,numA,Value.cells,Value.oneCell',ibin,List.replicate,Option.elim,Nat.reduceAdd,Nat.reduceSub,Nat.reduceMul,Nat.reduceLT,Nat.reduceEqDiff,Nat.reduceLeDiff,Nat.reduceBEq,Int.reduceLE,Int.reduceLT,Int.reduceToNat,Int.reduceBNe,Int.reduceBEq,Int.reduceNeg,Int.reduceEq,Int.reduceNe,Nat.reduceBNe,Int.reduceAdd,Int.reduceSub,Int.reduceMul,Int.reducePow,Nat.reducePow,Int.reduceGT,Int.reduceGE,if_true,if_false,ite_true,ite_false,beq_self_eq_true,BEq.rfl,reduceCtorEq,eq_self,ne_eq,Function.comp_def,beq_iff_eq]
    refine toldK_ret rfl (v2 := .sc (.bool false)) (by simp only [f6, b3, evf,↓evp,evq,evr,fxa0,fxa1,fxa2,fxa3,fxa4,fxu,fxn,fxl,↓fxp,lgc,absL,fitL,flatL,ares,ares1,ofVal,unSc,aload,afill,splice,abound,asI,elems,IntKind.bits,sortT,eqNil,closedL,allByte,patch,pendOK,numA,Value.cells,Value.oneCell',ibin,List.replicate,Option.elim,Nat.reduceAdd,Nat.reduceSub,Nat.reduceMul,Nat.reduceLT,Nat.reduceEqDiff,Nat.reduceLeDiff,Nat.reduceBEq,Int.reduceLE,Int.reduceLT,Int.reduceToNat,Int.reduceBNe,Int.reduceBEq,Int.reduceNeg,Int.reduceEq,Int.reduceNe,Nat.reduceBNe,Int.reduceAdd,Int.reduceSub,Int.reduceMul,Int.reducePow,Nat.reducePow,Int.reduceGT,Int.reduceGE,if_true,if_false,ite_true,ite_false,beq_self_eq_true,BEq.rfl,reduceCtorEq,eq_self,ne_eq,Function.comp_def,beq_iff_eq]) ?_ (.inl ⟨by rw [hany], flat_sc _, rfl⟩)
    rw [← hS0]
    exact (fin_grw s gs).set (by omega) _
  · have hj' : j < us.length := by rw [← hlen2]; exact hj
    obtain ⟨qx, qy, qw, qh, hq⟩ := hrc us[j] (List.getElem_mem hj')
    refine bo_rest hC rfl ?_
    simp only [bopK_eq, bo_nil, bsK_normal, evf,↓evp,evq,evr,fxa0,fxa1,fxa2,fxa3,fxa4,fxu,fxn,fxl,↓fxp,lgc,absL,fitL,flatL,ares,ares1,ofVal,unSc,aload,afill,splice,abound,asI,elems,IntKind.bits,sortT,eqNil,closedL,allByte,patch,pendOK,numA,Value.cells,Value.oneCell',ibin,List.replicate,Option.elim,Nat.reduceAdd,Nat.reduceSub,Nat.reduceMul,Nat.reduceLT,Nat.reduceEqDiff,Nat.reduceLeDiff,Nat.reduceBEq,Int.reduceLE,Int.reduceLT,Int.reduceToNat,Int.reduceBNe,Int.reduceBEq,Int.reduceNeg,Int.reduceEq,Int.reduceNe,Nat.reduceBNe,Int.reduceAdd,Int.reduceSub,Int.reduceMul,Int.reducePow,Nat.reducePow,Int.reduceGT,Int.reduceGE,if_true,if_false,ite_true,ite_false,beq_self_eq_true,BEq.rfl,reduceCtorEq,eq_self,ne_eq,Function.comp_def,beq_iff_eq]
    refine bc_seq (bc_ac hC rfl ?_)
    simp only [unB_eq, bsK_normal, evf,↓evp,evq,evr,fxa0,fxa1,fxa2,fxa3,fxa4,fxu,fxn,fxl,↓fxp,lgc,absL,fitL,flatL,ares,ares1,ofVal,unSc,aload,afill,splice,abound,asI,elems,IntKind.bits,sortT,eqNil,closedL,allByte,patch,pendOK,numA,Value.cells,Value.oneCell',ibin,List.replicate,Option.elim,Nat.reduceAdd,Nat.reduceSub,Nat.reduceMul,Nat.reduceLT,Nat.reduceEqDiff,Nat.reduceLeDiff,Nat.reduceBEq,Int.reduceLE,Int.reduceLT,Int.reduceToNat,Int.reduceBNe,Int.reduceBEq,Int.reduceNeg,Int.reduceEq,Int.reduceNe,Nat.reduceBNe,Int.reduceAdd,Int.reduceSub,Int.reduceMul,Int.reducePow,Nat.reducePow,Int.reduceGT,Int.reduceGE,if_true,if_false,ite_true,ite_false,beq_self_eq_true,BEq.rfl,reduceCtorEq,eq_self,ne_eq,Function.comp_def,beq_iff_eq]
    refine bc_block (bc_seq (bc_reg hC 0 rfl ?_))
    simp only [List.take_zero, List.drop_zero, bopK_eq, evf,↓evp,evq,evr,fxa0,fxa1,fxa2,fxa3,fxa4,fxu,fxn,fxl,↓fxp,lgc,absL,fitL,flatL,ares,ares1,ofVal,unSc,aload,afill,splice,abound,asI,elems,IntKind.bits,sortT,eqNil,closedL,allByte,patch,pendOK,numA,Value.cells,Value.oneCell',ibin,List.replicate,Option.elim,Nat.reduceAdd,Nat.reduceSub,Nat.reduceMul,Nat.reduceLT,Nat.reduceEqDiff,Nat.reduceLeDiff,Nat.reduceBEq,Int.reduceLE,Int.reduceLT,Int.reduceToNat,Int.reduceBNe,Int.reduceBEq,Int.reduceNeg,Int.reduceEq,Int.reduceNe,Nat.reduceBNe,Int.reduceAdd,Int.reduceSub,Int.reduceMul,Int.reducePow,Nat.reducePow,Int.reduceGT,Int.reduceGE,if_true,if_false,ite_true,ite_false,beq_self_eq_true,BEq.rfl,reduceCtorEq,eq_self,ne_eq,Function.comp_def,beq_iff_eq]
    refine bo_entry (j := j) (by simp only [f42, evf,↓evp,evq,evr,fxa0,fxa1,fxa2,fxa3,fxa4,fxu,fxn,fxl,↓fxp,lgc,absL,fitL,flatL,ares,ares1,ofVal,unSc,aload,afill,splice,abound,asI,elems,IntKind.bits,sortT,eqNil,closedL,allByte,patch,pendOK,numA,Value.cells,Value.oneCell',ibin,List.replicate,Option.elim,Nat.reduceAdd,Nat.reduceSub,Nat.reduceMul,Nat.reduceLT,Nat.reduceEqDiff,Nat.reduceLeDiff,Nat.reduceBEq,Int.reduceLE,Int.reduceLT,Int.reduceToNat,Int.reduceBNe,Int.reduceBEq,Int.reduceNeg,Int.reduceEq,Int.reduceNe,Nat.reduceBNe,Int.reduceAdd,Int.reduceSub,Int.reduceMul,Int.reducePow,Nat.reducePow,Int.reduceGT,Int.reduceGE,if_true,if_false,ite_true,ite_false,beq_self_eq_true,BEq.rfl,reduceCtorEq,eq_self,ne_eq,Function.comp_def,beq_iff_eq]) hh rfl hj ?_
    rw [esat j hj, hq]
    refine bo_rest hC rfl ?_
    simp only [keyV, rc, get_new, get_new0, M.set_new, M.set_new0, bopK_eq, bo_nil, bsK_normal, evf,↓evp,evq,evr,fxa0,fxa1,fxa2,fxa3,fxa4,fxu,fxn,fxl,↓fxp,lgc,absL,fitL,flatL,ares,ares1,ofVal,unSc,aload,afill,splice,abound,asI,elems,IntKind.bits,sortT,eqNil,closedL,allByte,patch,pendOK,numA,Value.cells,Value.oneCell',ibin,List.replicate,Option.elim,Nat.reduceAdd,Nat.reduceSub,Nat.reduceMul,Nat.reduceLT,Nat.reduceEqDiff,Nat.reduceLeDiff,Nat.reduceBEq,Int.reduceLE,Int.reduceLT,Int.reduceToNat,Int.reduceBNe,Int.reduceBEq,Int.reduceNeg,Int.reduceEq,Int.reduceNe,Nat.reduceBNe,Int.reduceAdd,Int.reduceSub,Int.reduceMul,Int.reducePow,Nat.reducePow,Int.reduceGT,Int.reduceGE,if_true,if_false,ite_true,ite_false,beq_self_eq_true,BEq.rfl,reduceCtorEq,eq_self,ne_eq,Function.comp_def,beq_iff_eq]
    have gX := fun X => Grw.push s X
    have z1X := fun X => gX X _ _ z1
    have z2X := fun X => gX X _ _ z2
    refine bc_ac hC rfl ?_
    simp only [f4, f5, f6, z1X, get_new, get_new0, M.set_new, M.set_new0, evf,↓evp,evq,evr,fxa0,fxa1,fxa2,fxa3,fxa4,fxu,fxn,fxl,↓fxp,lgc,absL,fitL,flatL,ares,ares1,ofVal,unSc,aload,afill,splice,abound,asI,elems,IntKind.bits,sortT,eqNil,closedL,allByte,patch,pendOK,numA,Value.cells,Value.oneCell',ibin,List.replicate,Option.elim,Nat.reduceAdd,Nat.reduceSub,Nat.reduceMul,Nat.reduceLT,Nat.reduceEqDiff,Nat.reduceLeDiff,Nat.reduceBEq,Int.reduceLE,Int.reduceLT,Int.reduceToNat,Int.reduceBNe,Int.reduceBEq,Int.reduceNeg,Int.reduceEq,Int.reduceNe,Nat.reduceBNe,Int.reduceAdd,Int.reduceSub,Int.reduceMul,Int.reducePow,Nat.reducePow,Int.reduceGT,Int.reduceGE,if_true,if_false,ite_true,ite_false,beq_self_eq_true,BEq.rfl,reduceCtorEq,eq_self,ne_eq,Function.comp_def,beq_iff_eq]
    refine c_Meet (n := n) fun ra rb rc' rd s5 g5 => ?_
    have g5' := (gX _).trans g5
    have gX5 := fun X => g5'.trans (Grw.push s5 X)
    have z2' := fun X => gX5 X _ _ z2
    have z3' := fun X => gX5 X _ _ z3
    have hh' := fun X => gX5 X _ _ hh
    have l5 := g5'.le
    have hitj : hitV sb x y w h us[j] = (meetB qx qy qw qh x y w h && sb us[j].1) := by simp only [hitV, hq, rc]
    have next : ∀ X, hitV sb x y w h us[j] = false → ∃ seen' cur', (some ⟨B, a, esI us, seen ++ [j], some j⟩ : Option It) = some ⟨B, a, esI us, seen', cur'⟩ ∧ k - 1 + seen'.length = m ∧ seen'.Nodup ∧ (∀ j ∈ seen', ∃ hj : j < us.length, hitV sb x y w h us[j] = false) ∧ Grw s2 (s5 ++ X) := fun X hf =>
      ⟨seen ++ [j], some j, rfl, by rw [List.length_append]; simp; omega, by rw [List.nodup_append]; exact ⟨hnd, by simp, fun a1 h1 b1 h2 => by rw [List.mem_singleton] at h2; subst h2; exact fun he => hjn (he ▸ h1)⟩, fun j2 hj2 => by
        rcases List.mem_append.1 hj2 with h1 | h1
        · exact hsn j2 h1
        · rw [List.mem_singleton] at h1; subst h1; exact ⟨hj', hf⟩, gs.trans (gX5 X)⟩
    cases em : meetB qx qy qw qh x y w h
    · simp only [rc, f4, f5, f6, z2', em, get_new, get_new0, M.set_new, M.set_new0, unB_eq, bblK_normal, bsK_normal, bivK_normal, evf,↓evp,evq,evr,fxa0,fxa1,fxa2,fxa3,fxa4,fxu,fxn,fxl,↓fxp,lgc,absL,fitL,flatL,ares,ares1,ofVal,unSc,aload,afill,splice,abound,asI,elems,IntKind.bits,sortT,eqNil,closedL,allByte,patch,pendOK,numA,Value.cells,Value.oneCell',ibin,List.replicate,Option.elim,Nat.reduceAdd,Nat.reduceSub,Nat.reduceMul,Nat.reduceLT,Nat.reduceEqDiff,Nat.reduceLeDiff,Nat.reduceBEq,Int.reduceLE,Int.reduceLT,Int.reduceToNat,Int.reduceBNe,Int.reduceBEq,Int.reduceNeg,Int.reduceEq,Int.reduceNe,Nat.reduceBNe,Int.reduceAdd,Int.reduceSub,Int.reduceMul,Int.reducePow,Nat.reducePow,Int.reduceGT,Int.reduceGE,if_true,if_false,ite_true,ite_false,beq_self_eq_true,BEq.rfl,reduceCtorEq,eq_self,ne_eq,Function.comp_def,beq_iff_eq]
      obtain ⟨seen', cur', p1, p2, p3, p4, p5⟩ := next _ (by rw [hitj, em]; rfl)
      exact hJ' _ _ _ _ ⟨seen', cur', p1, p2, p3, p4, p5, by simp only [f4, evf, ne_eq, Nat.reduceEqDiff, Nat.reduceLT, not_false_eq_true], by simp only [f5, evf, ne_eq, Nat.reduceEqDiff, Nat.reduceLT, not_false_eq_true], by simp only [f6, evf, ne_eq, Nat.reduceEqDiff, Nat.reduceLT, not_false_eq_true], by simp only [f42, evf, ne_eq, Nat.reduceEqDiff, Nat.reduceLT, not_false_eq_true]⟩
    · simp only [rc, f4, f5, f6, z2', em, get_new, get_new0, M.set_new, M.set_new0, evf,↓evp,evq,evr,fxa0,fxa1,fxa2,fxa3,fxa4,fxu,fxn,fxl,↓fxp,lgc,absL,fitL,flatL,ares,ares1,ofVal,unSc,aload,afill,splice,abound,asI,elems,IntKind.bits,sortT,eqNil,closedL,allByte,patch,pendOK,numA,Value.cells,Value.oneCell',ibin,List.replicate,Option.elim,Nat.reduceAdd,Nat.reduceSub,Nat.reduceMul,Nat.reduceLT,Nat.reduceEqDiff,Nat.reduceLeDiff,Nat.reduceBEq,Int.reduceLE,Int.reduceLT,Int.reduceToNat,Int.reduceBNe,Int.reduceBEq,Int.reduceNeg,Int.reduceEq,Int.reduceNe,Nat.reduceBNe,Int.reduceAdd,Int.reduceSub,Int.reduceMul,Int.reducePow,Nat.reducePow,Int.reduceGT,Int.reduceGE,if_true,if_false,ite_true,ite_false,beq_self_eq_true,BEq.rfl,reduceCtorEq,eq_self,ne_eq,Function.comp_def,beq_iff_eq]
      rw [callK_fn hgs]
      simp only [List.singleton_append, List.cons_append, List.nil_append]
      refine hso _ _ (fun j2 cs hj2 => gX5 _ _ _ (gs _ _ (hcs j2 cs hj2))) _ ?_
      cases es : sb us[j].1
      · simp only [f4, f5, f6, z2', em, unB_eq, bblK_normal, bsK_normal, bivK_normal, evf,↓evp,evq,evr,fxa0,fxa1,fxa2,fxa3,fxa4,fxu,fxn,fxl,↓fxp,lgc,absL,fitL,flatL,ares,ares1,ofVal,unSc,aload,afill,splice,abound,asI,elems,IntKind.bits,sortT,eqNil,closedL,allByte,patch,pendOK,numA,Value.cells,Value.oneCell',ibin,List.replicate,Option.elim,Nat.reduceAdd,Nat.reduceSub,Nat.reduceMul,Nat.reduceLT,Nat.reduceEqDiff,Nat.reduceLeDiff,Nat.reduceBEq,Int.reduceLE,Int.reduceLT,Int.reduceToNat,Int.reduceBNe,Int.reduceBEq,Int.reduceNeg,Int.reduceEq,Int.reduceNe,Nat.reduceBNe,Int.reduceAdd,Int.reduceSub,Int.reduceMul,Int.reducePow,Nat.reducePow,Int.reduceGT,Int.reduceGE,if_true,if_false,ite_true,ite_false,beq_self_eq_true,BEq.rfl,reduceCtorEq,eq_self,ne_eq,Function.comp_def,beq_iff_eq]
        obtain ⟨seen', cur', p1, p2, p3, p4, p5⟩ := next _ (by rw [hitj, em, es]; rfl)
        exact hJ' _ _ _ _ ⟨seen', cur', p1, p2, p3, p4, p5, by simp only [f4, evf, ne_eq, Nat.reduceEqDiff, Nat.reduceLT, not_false_eq_true], by simp only [f5, evf, ne_eq, Nat.reduceEqDiff, Nat.reduceLT, not_false_eq_true], by simp only [f6, evf, ne_eq, Nat.reduceEqDiff, Nat.reduceLT, not_false_eq_true], by simp only [f42, evf, ne_eq, Nat.reduceEqDiff, Nat.reduceLT, not_false_eq_true]⟩
      · simp only [f4, f5, f6, z2', z3', em, unB_eq, bblK_ret, bsK_ret, bivK_ret, evf,↓evp,evq,evr,fxa0,fxa1,fxa2,fxa3,fxa4,fxu,fxn,fxl,↓fxp,lgc,absL,fitL,flatL,ares,ares1,ofVal,unSc,aload,afill,splice,abound,asI,elems,IntKind.bits,sortT,eqNil,closedL,allByte,patch,pendOK,numA,Value.cells,Value.oneCell',ibin,List.replicate,Option.elim,Nat.reduceAdd,Nat.reduceSub,Nat.reduceMul,Nat.reduceLT,Nat.reduceEqDiff,Nat.reduceLeDiff,Nat.reduceBEq,Int.reduceLE,Int.reduceLT,Int.reduceToNat,Int.reduceBNe,Int.reduceBEq,Int.reduceNeg,Int.reduceEq,Int.reduceNe,Nat.reduceBNe,Int.reduceAdd,Int.reduceSub,Int.reduceMul,Int.reducePow,Nat.reducePow,Int.reduceGT,Int.reduceGE,if_true,if_false,ite_true,ite_false,beq_self_eq_true,BEq.rfl,reduceCtorEq,eq_self,ne_eq,Function.comp_def,beq_iff_eq]
        have hany : us.any (hitV sb x y w h) = true := List.any_eq_true.2 ⟨_, List.getElem_mem hj', by rw [hitj, em, es]; rfl⟩
        refine toldK_ret ⟨?_, rfl⟩ (v2 := .sc (.bool true)) ?_ ?_ (.inl ⟨by rw [hany], flat_sc _, rfl⟩)
        · have : ∀ X o, ((s5 ++ X).set (S0.length + 3) o)[a]? = some (.held (esI us)) := fun X o => by
            rw [List.getElem?_set_ne (by omega)]
            exact hh' X
          exact this _ _
        · have : ∀ X o o2, (((s5 ++ X).set (S0.length + 3) o).set a o2)[S0.length + 3]? = some o := fun X o o2 => by
            rw [List.getElem?_set_ne (by omega)]
            exact get_set (z3' X) o
          simp only [f6, this, evf,↓evp,evq,evr,fxa0,fxa1,fxa2,fxa3,fxa4,fxu,fxn,fxl,↓fxp,lgc,absL,fitL,flatL,ares,ares1,ofVal,unSc,aload,afill,splice,abound,asI,elems,IntKind.bits,sortT,eqNil,closedL,allByte,patch,pendOK,numA,Value.cells,Value.oneCell',ibin,List.replicate,Option.elim,Nat.reduceAdd,Nat.reduceSub,Nat.reduceMul,Nat.reduceLT,Nat.reduceEqDiff,Nat.reduceLeDiff,Nat.reduceBEq,Int.reduceLE,Int.reduceLT,Int.reduceToNat,Int.reduceBNe,Int.reduceBEq,Int.reduceNeg,Int.reduceEq,Int.reduceNe,Nat.reduceBNe,Int.reduceAdd,Int.reduceSub,Int.reduceMul,Int.reducePow,Nat.reducePow,Int.reduceGT,Int.reduceGE,if_true,if_false,ite_true,ite_false,beq_self_eq_true,BEq.rfl,reduceCtorEq,eq_self,ne_eq,Function.comp_def,beq_iff_eq]
        · rw [← hS0]
          refine fun j2 o ho => ?_
          have lj : j2 < S0.length := (List.getElem?_eq_some_iff.1 ho).1
          show (List.set _ a (Ob.map (esI us)))[j2]? = _
          by_cases hja : j2 = a
          · subst hja
            rw [List.getElem?_set_self (by rw [List.length_set, List.length_append]; omega)]
            rw [hi0.us] at ho
            exact ho
          · rw [List.getElem?_set_ne (Ne.symm hja), List.getElem?_set_ne (by omega)]
            exact gX5 _ _ _ (gs _ _ (k2 _ _ hja (g1 _ _ ho)))
end
/-! ### Chapter 5: has nobody but one a cell of a rectangle? For every rectangle. -/
theorem meet_inM {u p : U} (hu : mayB u.x u.y u.w u.h = true) (hp : valB p = true) : meetB p.x p.y p.w p.h u.x u.y u.w u.h = true ↔ ∃ a b, inU p a b ∧ inU u a b := by
  obtain ⟨_, _, h1, h2, _⟩ := may_facts hu
  obtain ⟨m2, h3, h4, _⟩ := val_facts hp
  simp only [meetB, hu, m2, Bool.true_and, lapB, Bool.not_eq_true', Bool.or_eq_false_iff, decide_eq_false_iff_not, mn, mx]
  constructor
  · rintro ⟨h5, h6⟩
    have key : ∀ a b c d : Int, a ≤ b → c ≤ d → ¬ ((if d < b then d else b) < (if c > a then c else a)) → (∃ z, a ≤ z ∧ z ≤ b ∧ c ≤ z ∧ z ≤ d) := fun a b c d h1 h2 hh => by
      refine ⟨if c > a then c else a, ?_⟩
      split at hh <;> split at hh <;> (try rw [if_pos (by assumption)]) <;> (try rw [if_neg (by assumption)]) <;> omega
    obtain ⟨a, ha1, ha2, ha3, ha4⟩ := key p.x (p.x + p.w - 1) u.x (u.x + u.w - 1) (by omega) (by omega) (of_decide_eq_false h5)
    obtain ⟨b, hb1, hb2, hb3, hb4⟩ := key p.y (p.y + p.h - 1) u.y (u.y + u.h - 1) (by omega) (by omega) (of_decide_eq_false h6)
    exact ⟨a, b, ⟨ha1, ha2, hb1, hb2⟩, ⟨ha3, ha4, hb3, hb4⟩⟩
  · rintro ⟨a, b, h5, h6⟩
    simp only [inU] at h5 h6
    constructor <;> refine decide_eq_false ?_ <;> split <;> split <;> omega
theorem getI_in {i : Int} {v : V} : ∀ {us : List (Int × V)}, getI i us = some v → ∃ e ∈ us, e.1 = i ∧ e.2 = v
  | [], h => by rw [getI_nil] at h; cases h
  | (k, u) :: l, h => by
    rw [getI_cons] at h
    split at h
    · rename_i hk
      cases h
      exact ⟨(k, v), by simp, (beq_iff_eq.1 hk).symm, rfl⟩
    · obtain ⟨e, he, h1, h2⟩ := getI_in h
      exact ⟨e, by simp [he], h1, h2⟩
theorem getI_mem : ∀ {us : List (Int × V)}, ndI us → ∀ {e : Int × V}, e ∈ us → getI e.1 us = some e.2
  | [], _, e, h => by simp at h
  | (k, u) :: l, hn, e, h => by
    rw [getI_cons]
    have hn' : k ∉ l.map (·.1) ∧ ndI l := by simpa [ndI] using hn
    rcases List.mem_cons.1 h with rfl | h
    · simp
    · have hk : e.1 ≠ k := fun he => hn'.1 (he ▸ List.mem_map.2 ⟨e, h, rfl⟩)
      rw [if_neg (by simpa using hk)]
      exact getI_mem hn'.2 h
section
variable {us : List (Int × V)} {os : List ((Int × Int) × V)} {L : List U}
theorem Rel.meetsM (h : Rel us os L) (sb : Int → Bool) {x y : Int} {W H : Nat} (hm : mayB x y W H = true) : anyB sb os x y W (H * W) = L.any fun p => sb p.id && meetsR x y W H p := by
  obtain ⟨_, _, h3, h4, _⟩ := may_facts hm
  rw [Bool.eq_iff_iff, h.hits sb x y W H (by omega), List.any_eq_true]
  constructor
  · rintro ⟨p, hp, hsb, a, b, h1, h2⟩
    refine ⟨p, hp, ?_⟩
    rw [hsb, Bool.true_and]
    exact (meet_inM (u := ⟨0, x, y, W, H⟩) hm (h.val p hp)).2 ⟨a, b, h1, by simpa [inU] using h2⟩
  · rintro ⟨p, hp, hh⟩
    rw [Bool.and_eq_true] at hh
    obtain ⟨a, b, h1, h2⟩ := (meet_inM (u := ⟨0, x, y, W, H⟩) hm (h.val p hp)).1 hh.2
    exact ⟨p, hp, hh.1, a, b, h1, by simpa [inU] using h2⟩
theorem Rel.entry (h : Rel us os L) : ∀ e ∈ us, ∃ p ∈ L, p.id = e.1 ∧ e.2 = .agg (rc p.x p.y p.w p.h) := fun e he => by
  have hg : getI e.1 us = some e.2 := getI_mem h.ni he
  obtain ⟨p, hp, h1, h2⟩ := (h.gu _ _).1 hg
  exact ⟨p, hp, h1, h2⟩
theorem Rel.anyV (h : Rel us os L) (sb : Int → Bool) (x y w hh : Int) : us.any (hitV sb x y w hh) = L.any fun p => sb p.id && meetsR x y w hh p := by
  rw [Bool.eq_iff_iff, List.any_eq_true, List.any_eq_true]
  constructor
  · rintro ⟨e, he, hit⟩
    obtain ⟨p, hp, h1, h2⟩ := h.entry e he
    simp only [hitV, h2, rc, ← h1] at hit
    exact ⟨p, hp, by rw [Bool.and_comm]; exact hit⟩
  · rintro ⟨p, hp, hit⟩
    have hg := (h.gu p.id _).2 ⟨p, hp, rfl, rfl⟩
    obtain ⟨e, he, h1, h2⟩ := getI_in hg
    exact ⟨e, he, by simp only [hitV, h2, rc, h1]; rw [Bool.and_comm]; exact hit⟩
end
section
variable {n m : Nat} {st s : List Ob} {K : V → List Ob → Prop} {ix a b : Nat} {us : List (Int × V)} {os : List ((Int × Int) × V)} {L : List U} {x y w h id : Int}
theorem o_FreeA (hr : Rel us os L) (hi : Ix st ix a b us os) (hab : a ≠ b) (hm : 300 < m) (hl : L.length ≤ 256)
    (hK : ∀ s, Grw st s → K (.sc (.bool (mayB x y w h && !L.any (othR id x y w h)))) s) : acallF Try.prog pl (n + 6) m 30 [.ref ix 0, .agg (rc x y w h), .sc (.int .i64 id)] st K := by
  refine acallF_inF Try.func30 rfl rfl Try.ntmps30 (by simp) ?_
  have g1 := fun X => hi.grw (Grw.push st X)
  simp only [rc, evf,↓evp,evq,evr,fxa0,fxa1,fxa2,fxa3,fxa4,fxu,fxn,fxl,↓fxp,lgc,absL,fitL,flatL,ares,ares1,ofVal,unSc,aload,afill,splice,abound,asI,elems,IntKind.bits,sortT,eqNil,closedL,allByte,patch,pendOK,numA,Value.cells,Value.oneCell',ibin,List.replicate,Option.elim,Nat.reduceAdd,Nat.reduceSub,Nat.reduceMul,Nat.reduceLT,Nat.reduceEqDiff,Nat.reduceLeDiff,Nat.reduceBEq,Int.reduceLE,Int.reduceLT,Int.reduceToNat,Int.reduceBNe,Int.reduceBEq,Int.reduceNeg,Int.reduceEq,Int.reduceNe,Nat.reduceBNe,Int.reduceAdd,Int.reduceSub,Int.reduceMul,Int.reducePow,Nat.reducePow,Int.reduceGT,Int.reduceGE,if_true,if_false,ite_true,ite_false,beq_self_eq_true,BEq.rfl,reduceCtorEq,eq_self,ne_eq,Function.comp_def,beq_iff_eq]
  refine o_is1 (n := n + 4) (g1 _) ?_
  simp only [get_new, get_new0, evf,↓evp,evq,evr,fxa0,fxa1,fxa2,fxa3,fxa4,fxu,fxn,fxl,↓fxp,lgc,absL,fitL,flatL,ares,ares1,ofVal,unSc,aload,afill,splice,abound,asI,elems,IntKind.bits,sortT,eqNil,closedL,allByte,patch,pendOK,numA,Value.cells,Value.oneCell',ibin,List.replicate,Option.elim,Nat.reduceAdd,Nat.reduceSub,Nat.reduceMul,Nat.reduceLT,Nat.reduceEqDiff,Nat.reduceLeDiff,Nat.reduceBEq,Int.reduceLE,Int.reduceLT,Int.reduceToNat,Int.reduceBNe,Int.reduceBEq,Int.reduceNeg,Int.reduceEq,Int.reduceNe,Nat.reduceBNe,Int.reduceAdd,Int.reduceSub,Int.reduceMul,Int.reducePow,Nat.reducePow,Int.reduceGT,Int.reduceGE,if_true,if_false,ite_true,ite_false,beq_self_eq_true,BEq.rfl,reduceCtorEq,eq_self,ne_eq,Function.comp_def,beq_iff_eq]
  refine c_May (n := n + 2) fun s1 j1 => ?_
  have k0 := j1 _ _ (get_new0 _ _)
  have k1 := j1 _ _ (get_new _ _ 1)
  cases hmay : mayB x y w h
  · simp only [hmay, Bool.false_and] at hK
    simp only [evf,↓evp,evq,evr,fxa0,fxa1,fxa2,fxa3,fxa4,fxu,fxn,fxl,↓fxp,lgc,absL,fitL,flatL,ares,ares1,ofVal,unSc,aload,afill,splice,abound,asI,elems,IntKind.bits,sortT,eqNil,closedL,allByte,patch,pendOK,numA,Value.cells,Value.oneCell',ibin,List.replicate,Option.elim,Nat.reduceAdd,Nat.reduceSub,Nat.reduceMul,Nat.reduceLT,Nat.reduceEqDiff,Nat.reduceLeDiff,Nat.reduceBEq,Int.reduceLE,Int.reduceLT,Int.reduceToNat,Int.reduceBNe,Int.reduceBEq,Int.reduceNeg,Int.reduceEq,Int.reduceNe,Nat.reduceBNe,Int.reduceAdd,Int.reduceSub,Int.reduceMul,Int.reducePow,Nat.reducePow,Int.reduceGT,Int.reduceGE,if_true,if_false,ite_true,ite_false,beq_self_eq_true,BEq.rfl,reduceCtorEq,eq_self,ne_eq,Function.comp_def,beq_iff_eq]
    exact hK _ ((Grw.push _ _).trans j1)
  simp only [hmay, Bool.true_and] at hK
  simp only [k0, k1, evf,↓evp,evq,evr,fxa0,fxa1,fxa2,fxa3,fxa4,fxu,fxn,fxl,↓fxp,lgc,absL,fitL,flatL,ares,ares1,ofVal,unSc,aload,afill,splice,abound,asI,elems,IntKind.bits,sortT,eqNil,closedL,allByte,patch,pendOK,numA,Value.cells,Value.oneCell',ibin,List.replicate,Option.elim,Nat.reduceAdd,Nat.reduceSub,Nat.reduceMul,Nat.reduceLT,Nat.reduceEqDiff,Nat.reduceLeDiff,Nat.reduceBEq,Int.reduceLE,Int.reduceLT,Int.reduceToNat,Int.reduceBNe,Int.reduceBEq,Int.reduceNeg,Int.reduceEq,Int.reduceNe,Nat.reduceBNe,Int.reduceAdd,Int.reduceSub,Int.reduceMul,Int.reducePow,Nat.reducePow,Int.reduceGT,Int.reduceGE,if_true,if_false,ite_true,ite_false,beq_self_eq_true,BEq.rfl,reduceCtorEq,eq_self,ne_eq,Function.comp_def,beq_iff_eq]
  obtain ⟨_, _, h3, h4, _⟩ := may_facts hmay
  by_cases hsm : w * h ≤ 64
  · obtain ⟨W, rfl⟩ := Int.eq_ofNat_of_zero_le (show 0 ≤ w by omega)
    obtain ⟨H, rfl⟩ := Int.eq_ofNat_of_zero_le (show 0 ≤ h by omega)
    have hWH : W * H ≤ 64 := by exact_mod_cast hsm
    have hW : W ≤ W * H := Nat.le_mul_of_pos_right W (by omega)
    have hH : H ≤ W * H := Nat.le_mul_of_pos_left H (by omega)
    refine o_meets (n := n) (sb := fun i => i != id) (by rw [fsz]; decide) hr.int ((g1 _).grw j1) hWH hmay (by omega) (by omega) ?_ fun s2 j2 => ?_
    · intro i s3 j3 K' hK'
      have k2 := j3 _ _ k1
      refine acallF_inF Try.func71 rfl rfl Try.ntmps71 (by simp) ?_
      simp only [k2, evf,↓evp,evq,evr,fxa0,fxa1,fxa2,fxa3,fxa4,fxu,fxn,fxl,↓fxp,lgc,absL,fitL,flatL,ares,ares1,ofVal,unSc,aload,afill,splice,abound,asI,elems,IntKind.bits,sortT,eqNil,closedL,allByte,patch,pendOK,numA,Value.cells,Value.oneCell',ibin,List.replicate,Option.elim,Nat.reduceAdd,Nat.reduceSub,Nat.reduceMul,Nat.reduceLT,Nat.reduceEqDiff,Nat.reduceLeDiff,Nat.reduceBEq,Int.reduceLE,Int.reduceLT,Int.reduceToNat,Int.reduceBNe,Int.reduceBEq,Int.reduceNeg,Int.reduceEq,Int.reduceNe,Nat.reduceBNe,Int.reduceAdd,Int.reduceSub,Int.reduceMul,Int.reducePow,Nat.reducePow,Int.reduceGT,Int.reduceGE,if_true,if_false,ite_true,ite_false,beq_self_eq_true,BEq.rfl,reduceCtorEq,eq_self,ne_eq,Function.comp_def,beq_iff_eq]
      exact hK'
    · rw [hr.meetsM _ hmay]
      simp only [evf,↓evp,evq,evr,fxa0,fxa1,fxa2,fxa3,fxa4,fxu,fxn,fxl,↓fxp,lgc,absL,fitL,flatL,ares,ares1,ofVal,unSc,aload,afill,splice,abound,asI,elems,IntKind.bits,sortT,eqNil,closedL,allByte,patch,pendOK,numA,Value.cells,Value.oneCell',ibin,List.replicate,Option.elim,Nat.reduceAdd,Nat.reduceSub,Nat.reduceMul,Nat.reduceLT,Nat.reduceEqDiff,Nat.reduceLeDiff,Nat.reduceBEq,Int.reduceLE,Int.reduceLT,Int.reduceToNat,Int.reduceBNe,Int.reduceBEq,Int.reduceNeg,Int.reduceEq,Int.reduceNe,Nat.reduceBNe,Int.reduceAdd,Int.reduceSub,Int.reduceMul,Int.reducePow,Nat.reducePow,Int.reduceGT,Int.reduceGE,if_true,if_false,ite_true,ite_false,beq_self_eq_true,BEq.rfl,reduceCtorEq,eq_self,ne_eq,Function.comp_def,beq_iff_eq]
      exact hK _ (((Grw.push _ _).trans j1).trans j2)
  · refine acallF_told (meets_told (n := n) (m := m) (sb := fun i => i != id) (by rw [fsz]; decide) ((g1 _).grw j1) hab (fun e he => ?_) hmay (by omega) (by rw [hr.len]; omega) ?_) ?_
    · obtain ⟨p, _, _, h2⟩ := hr.entry e he
      exact ⟨_, _, _, _, h2⟩
    · intro i s3 j3 K' hK'
      have k2 := j3 _ _ k1
      refine acallF_inF Try.func71 rfl rfl Try.ntmps71 (by simp) ?_
      simp only [k2, evf,↓evp,evq,evr,fxa0,fxa1,fxa2,fxa3,fxa4,fxu,fxn,fxl,↓fxp,lgc,absL,fitL,flatL,ares,ares1,ofVal,unSc,aload,afill,splice,abound,asI,elems,IntKind.bits,sortT,eqNil,closedL,allByte,patch,pendOK,numA,Value.cells,Value.oneCell',ibin,List.replicate,Option.elim,Nat.reduceAdd,Nat.reduceSub,Nat.reduceMul,Nat.reduceLT,Nat.reduceEqDiff,Nat.reduceLeDiff,Nat.reduceBEq,Int.reduceLE,Int.reduceLT,Int.reduceToNat,Int.reduceBNe,Int.reduceBEq,Int.reduceNeg,Int.reduceEq,Int.reduceNe,Nat.reduceBNe,Int.reduceAdd,Int.reduceSub,Int.reduceMul,Int.reducePow,Nat.reducePow,Int.reduceGT,Int.reduceGE,if_true,if_false,ite_true,ite_false,beq_self_eq_true,BEq.rfl,reduceCtorEq,eq_self,ne_eq,Function.comp_def,beq_iff_eq]
      exact hK'
    · rw [hr.anyV]
      simp only [evf,↓evp,evq,evr,fxa0,fxa1,fxa2,fxa3,fxa4,fxu,fxn,fxl,↓fxp,lgc,absL,fitL,flatL,ares,ares1,ofVal,unSc,aload,afill,splice,abound,asI,elems,IntKind.bits,sortT,eqNil,closedL,allByte,patch,pendOK,numA,Value.cells,Value.oneCell',ibin,List.replicate,Option.elim,Nat.reduceAdd,Nat.reduceSub,Nat.reduceMul,Nat.reduceLT,Nat.reduceEqDiff,Nat.reduceLeDiff,Nat.reduceBEq,Int.reduceLE,Int.reduceLT,Int.reduceToNat,Int.reduceBNe,Int.reduceBEq,Int.reduceNeg,Int.reduceEq,Int.reduceNe,Nat.reduceBNe,Int.reduceAdd,Int.reduceSub,Int.reduceMul,Int.reducePow,Nat.reducePow,Int.reduceGT,Int.reduceGE,if_true,if_false,ite_true,ite_false,beq_self_eq_true,BEq.rfl,reduceCtorEq,eq_self,ne_eq,Function.comp_def,beq_iff_eq]
      exact hK _ ((Grw.push _ _).trans j1)
end
/-! ### Chapter 5's reference: a unit taken, a unit moved. -/
theorem splice_R (L : List U) (x y w h : Int) : ∀ (i : Nat) (hi : i < L.length), splice (L.flatMap U.v) (rc x y w h) (i * 5 + 1) = (L.set i ⟨L[i].id, x, y, w, h⟩).flatMap U.v := by
  intro i hi
  unfold splice
  have e1 : (L.flatMap U.v) = (L.take i).flatMap U.v ++ (U.v L[i] ++ (L.drop (i + 1)).flatMap U.v) := by
    rw [← List.flatMap_cons, ← List.drop_eq_getElem_cons hi, ← List.flatMap_append, List.take_append_drop]
  have l1 : ((L.take i).flatMap U.v).length = i * 5 := by rw [flatMap_len (f := U.v) (s := 5) (fun _ => rfl), List.length_take, Nat.min_eq_left (by omega)]
  rw [List.set_eq_take_append_cons_drop, if_pos hi, List.flatMap_append, List.flatMap_cons, e1]
  have l2 : (rc x y w h).length = 4 := rfl
  have d1 : List.drop (i * 5 + 1 + 4) ((L.take i).flatMap U.v) = [] := List.drop_of_length_le (by omega)
  rw [List.take_append, List.drop_append, List.take_of_length_le (by omega), l1, l2, show i * 5 + 1 - i * 5 = 1 by omega, d1, show i * 5 + 1 + 4 - i * 5 = 5 by omega]
  simp only [U.v, rc, List.cons_append, List.nil_append, List.take_succ_cons, List.take_zero, List.drop_succ_cons, List.drop_zero, List.append_assoc]
section
variable {n m : Nat} {st s : List Ob} {K : V → List Ob → Prop} {iy : Nat} {L : List U} {x y id : Int} {sv : V}
set_option maxHeartbeats 4000000 in
theorem r_Take (hy : Ri st iy sv L) (hm : 300 < m) (hl : L.length ≤ 256)
    (hN : placeI id L 0 = -1 → ∀ s, Grw st s → K (.sc (.int .i64 4)) s)
    (h0 : ∀ i (hi : i < L.length), placeI id L 0 = i → L[i].id = id → ∀ sv' s, Ri s iy sv' (L.take i ++ L.drop (i + 1)) → (∀ j o, j ≠ iy → st[j]? = some o → s[j]? = some o) → K (.sc (.int .i64 0)) s) :
    acallF Try.prog pl (n + 2) m 55 [.ref iy 0, .sc (.int .i64 id)] st K := by
  refine acallF_inF Try.func55 rfl rfl Try.ntmps55 (by simp) ?_
  have y0 := hy.at_
  simp only [evf,↓evp,evq,evr,fxa0,fxa1,fxa2,fxa3,fxa4,fxu,fxn,fxl,↓fxp,lgc,absL,fitL,flatL,ares,ares1,ofVal,unSc,aload,afill,splice,abound,asI,elems,IntKind.bits,sortT,eqNil,closedL,allByte,patch,pendOK,numA,Value.cells,Value.oneCell',ibin,List.replicate,Option.elim,Nat.reduceAdd,Nat.reduceSub,Nat.reduceMul,Nat.reduceLT,Nat.reduceEqDiff,Nat.reduceLeDiff,Nat.reduceBEq,Int.reduceLE,Int.reduceLT,Int.reduceToNat,Int.reduceBNe,Int.reduceBEq,Int.reduceNeg,Int.reduceEq,Int.reduceNe,Nat.reduceBNe,Int.reduceAdd,Int.reduceSub,Int.reduceMul,Int.reducePow,Nat.reducePow,Int.reduceGT,Int.reduceGE,if_true,if_false,ite_true,ite_false,beq_self_eq_true,BEq.rfl,reduceCtorEq,eq_self,ne_eq,Function.comp_def,beq_iff_eq]
  refine r_place (n := n) hy (by omega) (by omega) ?_
  rcases placeI_spec id L 0 with ⟨e1, e2⟩ | ⟨i, hil, e1, e2⟩
  · have d : decide ((-1 : Int) < 0) = true := rfl
    rw [e1]
    simp only [d, evf,↓evp,evq,evr,fxa0,fxa1,fxa2,fxa3,fxa4,fxu,fxn,fxl,↓fxp,lgc,absL,fitL,flatL,ares,ares1,ofVal,unSc,aload,afill,splice,abound,asI,elems,IntKind.bits,sortT,eqNil,closedL,allByte,patch,pendOK,numA,Value.cells,Value.oneCell',ibin,List.replicate,Option.elim,Nat.reduceAdd,Nat.reduceSub,Nat.reduceMul,Nat.reduceLT,Nat.reduceEqDiff,Nat.reduceLeDiff,Nat.reduceBEq,Int.reduceLE,Int.reduceLT,Int.reduceToNat,Int.reduceBNe,Int.reduceBEq,Int.reduceNeg,Int.reduceEq,Int.reduceNe,Nat.reduceBNe,Int.reduceAdd,Int.reduceSub,Int.reduceMul,Int.reducePow,Nat.reducePow,Int.reduceGT,Int.reduceGE,if_true,if_false,ite_true,ite_false,beq_self_eq_true,BEq.rfl,reduceCtorEq,eq_self,ne_eq,Function.comp_def,beq_iff_eq]
    exact hN e1 _ (fun _ _ h => h)
  · have d : decide (((0 + i : Nat) : Int) < 0) = false := decide_eq_false (by omega)
    rw [e1]
    rw [Nat.zero_add] at d e1 ⊢
    have e9 : IntKind.i64.wrap ((i : Int) + 1) = ((i + 1 : Nat) : Int) := by rw [IntWalk.i64_in _ (by omega)]; rfl
    obtain ⟨va, ka, na⟩ := slice_start hy.rd Try.underlying27 sz48 (show i ≤ L.length by omega)
    obtain ⟨vb, kb, nb⟩ := slice_end hy.rd Try.underlying27 sz48 (show i + 1 ≤ L.length by omega)
    have ka' := fun X => aslice_grw (Grw.push st X) ka
    have kb' := fun X => aslice_grw (Grw.push st X) kb
    have y3 := fun X => Grw.push st X _ _ y0
    have a1 := append_own (st := st ++ [Ob.row 48 [] 0 0 false]) (id := st.length) (get_new0 _ _) (Nat.zero_le _) Try.underlying27 sz48 by48 ze48 (by omega) rfl (na.1.grw (.push st _)).1 (by rw [flat_take]; exact closed_us _) (na.1.2.2 _ sz48) (by omega) (by omega)
    rw [Go.M.set_new0] at a1
    simp only [Nat.zero_add, List.nil_append, List.set_cons_zero] at a1
    have a2 := append_own (st := st ++ [Ob.row 48 ((L.flatMap U.v).take (i * 5)) i 0 false]) (id := st.length) (get_new0 _ _) (Nat.zero_le _) Try.underlying27 sz48 by48 ze48 (by omega) rfl (nb.1.grw (.push st _)).1 (by rw [flatMap_drop (f := U.v) (s := 5) fun _ => rfl]; exact closed_us _) (nb.1.2.2 _ sz48) (by omega) (by omega)
    rw [Go.M.set_new0] at a2
    simp only [List.set_cons_zero] at a2
    have hiy : iy < st.length := (List.getElem?_eq_some_iff.1 y0).1
    have so : ∀ X o, (st ++ X).set iy o = st.set iy o ++ X := fun X o => Go.M.set_old hiy X o
    have q1 : ∀ o X, (st.set iy o ++ X)[st.length]? = X[0]? := fun o X => by have := get_new0 (st.set iy o) X; rwa [List.length_set] at this
    simp only [d, e9, y0, y3, ka', kb', a1, a2, so, q1, evf,↓evp,evq,evr,fxa0,fxa1,fxa2,fxa3,fxa4,fxu,fxn,fxl,↓fxp,lgc,absL,fitL,flatL,ares,ares1,ofVal,unSc,aload,afill,splice,abound,asI,elems,IntKind.bits,sortT,eqNil,closedL,allByte,patch,pendOK,numA,Value.cells,Value.oneCell',ibin,List.replicate,Option.elim,Nat.reduceAdd,Nat.reduceSub,Nat.reduceMul,Nat.reduceLT,Nat.reduceEqDiff,Nat.reduceLeDiff,Nat.reduceBEq,Int.reduceLE,Int.reduceLT,Int.reduceToNat,Int.reduceBNe,Int.reduceBEq,Int.reduceNeg,Int.reduceEq,Int.reduceNe,Nat.reduceBNe,Int.reduceAdd,Int.reduceSub,Int.reduceMul,Int.reducePow,Nat.reducePow,Int.reduceGT,Int.reduceGE,if_true,if_false,ite_true,ite_false,beq_self_eq_true,BEq.rfl,reduceCtorEq,eq_self,ne_eq,Function.comp_def,beq_iff_eq]
    have hrow : (L.flatMap U.v).take (i * 5) ++ (L.flatMap U.v).drop ((i + 1) * 5) = (L.take i ++ L.drop (i + 1)).flatMap U.v := by
      rw [flat_take, flatMap_drop (f := U.v) (s := 5) (fun _ => rfl), List.flatMap_append]
    have hlen : (L.take i ++ L.drop (i + 1)).length = i + (L.length - (i + 1)) := by rw [List.length_append, List.length_take, List.length_drop]; omega
    refine h0 i hil e1 e2 (.sl st.length 0 (i + (L.length - (i + 1))) false (i + (L.length - (i + 1)))) _ ⟨?_, ?_⟩ fun j o hj ho => ?_
    · rw [List.getElem?_append_left (by rw [List.length_set]; exact hiy), List.getElem?_set_self hiy]
    · refine Gl.cut (.inr ⟨st.length, 0, by rw [hlen], ?_, Nat.zero_le _⟩) sz48 (flatMap_len (f := U.v) (s := 5) (fun _ => rfl) _)
      rw [q1, hrow, hlen]
      rfl
    · have lj : j < st.length := (List.getElem?_eq_some_iff.1 ho).1
      rw [List.getElem?_append_left (by rw [List.length_set]; exact lj), List.getElem?_set_ne (Ne.symm hj)]
      exact ho
theorem rowU_R {X : List U} {rid N lo i : Nat} (h : s[rid]? = some (.row 48 (X.flatMap U.v) N lo false)) (hlo : lo ≤ N) (hn : X.length = N) (hi : i < X.length) :
    aix Try.prog s 27 (.sl rid 0 N false N) (.sc (.int .i64 i)) = some (.rref rid (i * 5) N, s) ∧ afa Try.prog s 48 1 (.rref rid (i * 5) N) = some (.rref rid (i * 5 + 1) N, s) ∧
    ∀ x y w h, asto Try.prog s 34 (.rref rid (i * 5 + 1) N) (.agg (rc x y w h)) = some (.sc undef, s.set rid (.row 48 ((X.set i ⟨X[i].id, x, y, w, h⟩).flatMap U.v) N N false)) := by
  subst hn
  obtain ⟨p1, _, _, p4, _, _⟩ := rowU_at h hlo rfl hi
  refine ⟨p1, p4, fun x y w hh => ?_⟩
  rw [asto_rref, h]
  have hl : (X.flatMap U.v).length = X.length * 5 := flatMap_len (f := U.v) (s := 5) (fun _ => rfl) _
  have hb : i * 5 + 1 + 4 ≤ X.length * 5 := by omega
  have ec : cellsV (.agg (rc x y w hh)) = rc x y w hh := rfl
  simp only [ec]
  rw [if_pos ⟨by rw [sz34]; rfl, by rw [hl]; exact hb, trivial, trivial, rfl, rfl⟩, splice_R X x y w hh i hi]
set_option maxHeartbeats 4000000 in
theorem r_Move (hy : Ri st iy sv L) (hm : 300 < m) (hl : L.length ≤ 256)
    (hN : placeI id L 0 = -1 → ∀ s, Grw st s → K (.sc (.int .i64 4)) s)
    (hA : ∀ i (hi : i < L.length), placeI id L 0 = i → L[i].id = id → mayB x y L[i].w L[i].h = false → ∀ s, Grw st s → K (.sc (.int .i64 1)) s)
    (hB : ∀ i (hi : i < L.length), placeI id L 0 = i → L[i].id = id → mayB x y L[i].w L[i].h = true → L.any (othR id x y L[i].w L[i].h) = true → ∀ s, Grw st s → K (.sc (.int .i64 6)) s)
    (h0 : ∀ i (hi : i < L.length), placeI id L 0 = i → L[i].id = id → mayB x y L[i].w L[i].h = true → L.any (othR id x y L[i].w L[i].h) = false → ∀ sv' s, Ri s iy sv' (L.set i (mvU L[i] x y)) → (∀ j o, j ≠ iy → st[j]? = some o → s[j]? = some o) → K (.sc (.int .i64 0)) s) :
    acallF Try.prog pl (n + 7) m 54 [.ref iy 0, .sc (.int .i64 id), .agg (cl x y)] st K := by
  refine acallF_inF Try.func54 rfl rfl Try.ntmps54 (by simp) ?_
  obtain ⟨s1, hs1⟩ : ∃ s1, s1 = st ++ [Ob.cells (cl x y)] := ⟨_, rfl⟩
  have g1 : Grw st s1 := by rw [hs1]; exact .push _ _
  have c1 : s1[st.length]? = some (.cells (cl x y)) := by rw [hs1]; exact get_new0 _ _
  have hy1 := hy.grw g1
  have y1 := hy1.at_
  simp only [cl] at hs1 c1
  simp only [cl, evf,↓evp,evq,evr,fxa0,fxa1,fxa2,fxa3,fxa4,fxu,fxn,fxl,↓fxp,lgc,absL,fitL,flatL,ares,ares1,ofVal,unSc,aload,afill,splice,abound,asI,elems,IntKind.bits,sortT,eqNil,closedL,allByte,patch,pendOK,numA,Value.cells,Value.oneCell',ibin,List.replicate,Option.elim,Nat.reduceAdd,Nat.reduceSub,Nat.reduceMul,Nat.reduceLT,Nat.reduceEqDiff,Nat.reduceLeDiff,Nat.reduceBEq,Int.reduceLE,Int.reduceLT,Int.reduceToNat,Int.reduceBNe,Int.reduceBEq,Int.reduceNeg,Int.reduceEq,Int.reduceNe,Nat.reduceBNe,Int.reduceAdd,Int.reduceSub,Int.reduceMul,Int.reducePow,Nat.reducePow,Int.reduceGT,Int.reduceGE,if_true,if_false,ite_true,ite_false,beq_self_eq_true,BEq.rfl,reduceCtorEq,eq_self,ne_eq,Function.comp_def,beq_iff_eq]
  rw [← hs1]
  refine r_place (n := n + 5) hy1 (by omega) (by omega) ?_
  rcases placeI_spec id L 0 with ⟨e1, e2⟩ | ⟨i, hil, e1, e2⟩
  · have d : decide ((-1 : Int) < 0) = true := rfl
    rw [e1]
    simp only [d, evf,↓evp,evq,evr,fxa0,fxa1,fxa2,fxa3,fxa4,fxu,fxn,fxl,↓fxp,lgc,absL,fitL,flatL,ares,ares1,ofVal,unSc,aload,afill,splice,abound,asI,elems,IntKind.bits,sortT,eqNil,closedL,allByte,patch,pendOK,numA,Value.cells,Value.oneCell',ibin,List.replicate,Option.elim,Nat.reduceAdd,Nat.reduceSub,Nat.reduceMul,Nat.reduceLT,Nat.reduceEqDiff,Nat.reduceLeDiff,Nat.reduceBEq,Int.reduceLE,Int.reduceLT,Int.reduceToNat,Int.reduceBNe,Int.reduceBEq,Int.reduceNeg,Int.reduceEq,Int.reduceNe,Nat.reduceBNe,Int.reduceAdd,Int.reduceSub,Int.reduceMul,Int.reducePow,Nat.reducePow,Int.reduceGT,Int.reduceGE,if_true,if_false,ite_true,ite_false,beq_self_eq_true,BEq.rfl,reduceCtorEq,eq_self,ne_eq,Function.comp_def,beq_iff_eq]
    exact hN e1 _ g1
  have d : decide (((0 + i : Nat) : Int) < 0) = false := decide_eq_false (by omega)
  rw [e1]
  rw [Nat.zero_add] at d e1 ⊢
  obtain ⟨p1, p2⟩ := ix_flat (f := U.v) (fun a => rfl) hy1.rd.1 Try.underlying27 sz48 ag48 (by omega) hil
  obtain ⟨p3, p4⟩ := u_r hy1.rd.1 hil
  obtain ⟨s2, hs2⟩ : ∃ s2, s2 = s1 ++ [Ob.cells (rc x y L[i].w L[i].h)] := ⟨_, rfl⟩
  have g2 : Grw s1 s2 := by rw [hs2]; exact .push _ _
  have r2 : s2[s1.length]? = some (.cells (rc x y L[i].w L[i].h)) := by rw [hs2]; exact get_new0 _ _
  simp only [rc] at p4 hs2 r2
  have cX := fun X => Grw.push s1 X _ _ c1
  simp only [d, y1, p1, p3, p4, cX, get_new, get_new0, Go.M.set_new, Go.M.set_new0, evf,↓evp,evq,evr,fxa0,fxa1,fxa2,fxa3,fxa4,fxu,fxn,fxl,↓fxp,lgc,absL,fitL,flatL,ares,ares1,ofVal,unSc,aload,afill,splice,abound,asI,elems,IntKind.bits,sortT,eqNil,closedL,allByte,patch,pendOK,numA,Value.cells,Value.oneCell',ibin,List.replicate,Option.elim,Nat.reduceAdd,Nat.reduceSub,Nat.reduceMul,Nat.reduceLT,Nat.reduceEqDiff,Nat.reduceLeDiff,Nat.reduceBEq,Int.reduceLE,Int.reduceLT,Int.reduceToNat,Int.reduceBNe,Int.reduceBEq,Int.reduceNeg,Int.reduceEq,Int.reduceNe,Nat.reduceBNe,Int.reduceAdd,Int.reduceSub,Int.reduceMul,Int.reducePow,Nat.reducePow,Int.reduceGT,Int.reduceGE,if_true,if_false,ite_true,ite_false,beq_self_eq_true,BEq.rfl,reduceCtorEq,eq_self,ne_eq,Function.comp_def,beq_iff_eq]
  rw [← hs2]
  have hy2 := hy1.grw g2
  refine r_May (n := n + 3) fun s3 g3 => ?_
  have r3 := g3 _ _ r2
  have gg3 := (g1.trans g2).trans g3
  have hy3 := hy2.grw g3
  cases hmay : mayB x y L[i].w L[i].h
  · simp only [hmay, evf,↓evp,evq,evr,fxa0,fxa1,fxa2,fxa3,fxa4,fxu,fxn,fxl,↓fxp,lgc,absL,fitL,flatL,ares,ares1,ofVal,unSc,aload,afill,splice,abound,asI,elems,IntKind.bits,sortT,eqNil,closedL,allByte,patch,pendOK,numA,Value.cells,Value.oneCell',ibin,List.replicate,Option.elim,Nat.reduceAdd,Nat.reduceSub,Nat.reduceMul,Nat.reduceLT,Nat.reduceEqDiff,Nat.reduceLeDiff,Nat.reduceBEq,Int.reduceLE,Int.reduceLT,Int.reduceToNat,Int.reduceBNe,Int.reduceBEq,Int.reduceNeg,Int.reduceEq,Int.reduceNe,Nat.reduceBNe,Int.reduceAdd,Int.reduceSub,Int.reduceMul,Int.reducePow,Nat.reducePow,Int.reduceGT,Int.reduceGE,if_true,if_false,ite_true,ite_false,beq_self_eq_true,BEq.rfl,reduceCtorEq,eq_self,ne_eq,Function.comp_def,beq_iff_eq]
    exact hA i hil e1 e2 hmay _ gg3
  simp only [r3, hmay, evf,↓evp,evq,evr,fxa0,fxa1,fxa2,fxa3,fxa4,fxu,fxn,fxl,↓fxp,lgc,absL,fitL,flatL,ares,ares1,ofVal,unSc,aload,afill,splice,abound,asI,elems,IntKind.bits,sortT,eqNil,closedL,allByte,patch,pendOK,numA,Value.cells,Value.oneCell',ibin,List.replicate,Option.elim,Nat.reduceAdd,Nat.reduceSub,Nat.reduceMul,Nat.reduceLT,Nat.reduceEqDiff,Nat.reduceLeDiff,Nat.reduceBEq,Int.reduceLE,Int.reduceLT,Int.reduceToNat,Int.reduceBNe,Int.reduceBEq,Int.reduceNeg,Int.reduceEq,Int.reduceNe,Nat.reduceBNe,Int.reduceAdd,Int.reduceSub,Int.reduceMul,Int.reducePow,Nat.reducePow,Int.reduceGT,Int.reduceGE,if_true,if_false,ite_true,ite_false,beq_self_eq_true,BEq.rfl,reduceCtorEq,eq_self,ne_eq,Function.comp_def,beq_iff_eq]
  refine r_Free (n := n) hy3 (by omega) (by omega) fun s4 g4 => ?_
  have r4 := g4 _ _ r3
  have gg4 := gg3.trans g4
  have hy4 := hy3.grw g4
  have y4 := hy4.at_
  rw [hmay, Bool.true_and]
  cases hany : L.any (othR id x y L[i].w L[i].h)
  case true =>
    simp only [Bool.not_true, evf,↓evp,evq,evr,fxa0,fxa1,fxa2,fxa3,fxa4,fxu,fxn,fxl,↓fxp,lgc,absL,fitL,flatL,ares,ares1,ofVal,unSc,aload,afill,splice,abound,asI,elems,IntKind.bits,sortT,eqNil,closedL,allByte,patch,pendOK,numA,Value.cells,Value.oneCell',ibin,List.replicate,Option.elim,Nat.reduceAdd,Nat.reduceSub,Nat.reduceMul,Nat.reduceLT,Nat.reduceEqDiff,Nat.reduceLeDiff,Nat.reduceBEq,Int.reduceLE,Int.reduceLT,Int.reduceToNat,Int.reduceBNe,Int.reduceBEq,Int.reduceNeg,Int.reduceEq,Int.reduceNe,Nat.reduceBNe,Int.reduceAdd,Int.reduceSub,Int.reduceMul,Int.reducePow,Nat.reducePow,Int.reduceGT,Int.reduceGE,if_true,if_false,ite_true,ite_false,beq_self_eq_true,BEq.rfl,reduceCtorEq,eq_self,ne_eq,Function.comp_def,beq_iff_eq]
    exact hB i hil e1 e2 hmay hany _ gg4
  have a1 := append_own (st := s4 ++ [Ob.row 48 [] 0 0 false]) (id := s4.length) (get_new0 _ _) (Nat.zero_le _) Try.underlying27 sz48 by48 ze48 (by omega) rfl (hy4.rd.grw (.push s4 _)).1.1 (closed_us L) (hy4.rd.1.2.2 _ sz48) (by omega) (by omega)
  rw [Go.M.set_new0] at a1
  simp only [Nat.zero_add, List.nil_append, List.set_cons_zero] at a1
  have y5 := fun X => Grw.push s4 X _ _ y4
  have hiy : iy < s4.length := (List.getElem?_eq_some_iff.1 y4).1
  have so : ∀ X o, (s4 ++ X).set iy o = s4.set iy o ++ X := fun X o => Go.M.set_old hiy X o
  obtain ⟨s5, hs5⟩ : ∃ s5, s5 = s4.set iy (Ob.cells [V.sl s4.length 0 L.length false L.length]) ++ [Ob.row 48 (L.flatMap U.v) L.length 0 false] := ⟨_, rfl⟩
  have w5 : s5[iy]? = some (.cells [V.sl s4.length 0 L.length false L.length]) := by rw [hs5, List.getElem?_append_left (by rw [List.length_set]; exact hiy), List.getElem?_set_self hiy]
  have row5 : s5[s4.length]? = some (.row 48 (L.flatMap U.v) L.length 0 false) := by rw [hs5]; have := get_new0 (s4.set iy (Ob.cells [V.sl s4.length 0 L.length false L.length])) [Ob.row 48 (L.flatMap U.v) L.length 0 false]; rwa [List.length_set] at this
  have k5 : ∀ j o, j ≠ iy → s4[j]? = some o → s5[j]? = some o := fun j o hj ho => by
    have lj : j < s4.length := (List.getElem?_eq_some_iff.1 ho).1
    rw [hs5, List.getElem?_append_left (by rw [List.length_set]; exact lj), List.getElem?_set_ne (Ne.symm hj)]
    exact ho
  have l1 : s1.length ≠ iy := fun he => by rw [← he] at y1; rw [List.getElem?_eq_none (Nat.le_refl _)] at y1; cases y1
  have r5 := k5 _ _ l1 r4
  obtain ⟨q1, q2, q3⟩ := rowU_R row5 (Nat.zero_le _) rfl hil
  have q3 := q3 x y L[i].w L[i].h
  simp only [rc] at q3
  simp only [Bool.not_false, y4, y5, a1, so, evf,↓evp,evq,evr,fxa0,fxa1,fxa2,fxa3,fxa4,fxu,fxn,fxl,↓fxp,lgc,absL,fitL,flatL,ares,ares1,ofVal,unSc,aload,afill,splice,abound,asI,elems,IntKind.bits,sortT,eqNil,closedL,allByte,patch,pendOK,numA,Value.cells,Value.oneCell',ibin,List.replicate,Option.elim,Nat.reduceAdd,Nat.reduceSub,Nat.reduceMul,Nat.reduceLT,Nat.reduceEqDiff,Nat.reduceLeDiff,Nat.reduceBEq,Int.reduceLE,Int.reduceLT,Int.reduceToNat,Int.reduceBNe,Int.reduceBEq,Int.reduceNeg,Int.reduceEq,Int.reduceNe,Nat.reduceBNe,Int.reduceAdd,Int.reduceSub,Int.reduceMul,Int.reducePow,Nat.reducePow,Int.reduceGT,Int.reduceGE,if_true,if_false,ite_true,ite_false,beq_self_eq_true,BEq.rfl,reduceCtorEq,eq_self,ne_eq,Function.comp_def,beq_iff_eq]
  rw [← hs5]
  simp only [w5, r5, q1, q2, q3, evf,↓evp,evq,evr,fxa0,fxa1,fxa2,fxa3,fxa4,fxu,fxn,fxl,↓fxp,lgc,absL,fitL,flatL,ares,ares1,ofVal,unSc,aload,afill,splice,abound,asI,elems,IntKind.bits,sortT,eqNil,closedL,allByte,patch,pendOK,numA,Value.cells,Value.oneCell',ibin,List.replicate,Option.elim,Nat.reduceAdd,Nat.reduceSub,Nat.reduceMul,Nat.reduceLT,Nat.reduceEqDiff,Nat.reduceLeDiff,Nat.reduceBEq,Int.reduceLE,Int.reduceLT,Int.reduceToNat,Int.reduceBNe,Int.reduceBEq,Int.reduceNeg,Int.reduceEq,Int.reduceNe,Nat.reduceBNe,Int.reduceAdd,Int.reduceSub,Int.reduceMul,Int.reducePow,Nat.reducePow,Int.reduceGT,Int.reduceGE,if_true,if_false,ite_true,ite_false,beq_self_eq_true,BEq.rfl,reduceCtorEq,eq_self,ne_eq,Function.comp_def,beq_iff_eq]
  have ls5 : s4.length < s5.length := (List.getElem?_eq_some_iff.1 row5).1
  refine h0 i hil e1 e2 hmay hany (V.sl s4.length 0 L.length false L.length) _ ⟨?_, ?_⟩ fun j o hj ho => ?_
  · rw [List.getElem?_set_ne (by omega)]; exact w5
  · have hlen : (L.set i (mvU L[i] x y)).length = L.length := List.length_set
    refine Gl.cut (.inr ⟨s4.length, L.length, by rw [hlen], ?_, by rw [hlen]; exact Nat.le_refl _⟩) sz48 (flatMap_len (f := U.v) (s := 5) (fun _ => rfl) _)
    rw [List.getElem?_set_self ls5, hlen]
    rfl
  · have lj : j < st.length := (List.getElem?_eq_some_iff.1 ho).1
    have := gg4.le
    rw [List.getElem?_set_ne (by omega)]
    exact k5 _ _ hj (gg4 _ _ ho)
end
/-! ### Chapter 5: an act, with both: they tell the same. -/
/-- Variables stay, but one. -/
def FY (iy : Nat) (s s' : List Ob) : Prop := ∀ (j : Nat) (cs : List V), j ≠ iy → s[j]? = some (.cells cs) → s'[j]? = some (.cells cs)
theorem grw_fy {iy : Nat} {s s' : List Ob} (h : Grw s s') : FY iy s s' := fun j cs _ hj => h _ _ hj
theorem FY.trans {iy : Nat} {s s' s2 : List Ob} (h : FY iy s s') (k : FY iy s' s2) : FY iy s s2 := fun j cs h1 hj => k _ _ h1 (h _ _ h1 hj)
section
variable {n m : Nat} {st s : List Ob} {K : V → List Ob → Prop} {ix a b iy : Nat} {us : List (Int × V)} {os : List ((Int × Int) × V)} {L : List U} {sv : V}
set_option maxHeartbeats 8000000 in
theorem l5_does (e : A6) (hr : Rel us os L) (hg : Gd L) (hi : Ix st ix a b us os) (hab : a ≠ b) (hy : Ri st iy sv L) (hid : inR e.id) (hm : 300 < m)
    (hK : ∀ us' os' L' sv' s, Ix s ix a b us' os' → Rel us' os' L' → Gd L' → Ri s iy sv' L' → FY iy st s → K (.sc (.bool true)) s) :
    acallF Try.prog pl (n + 8) m 17 [.ref ix 0, .ref iy 0, .agg (A6.v e)] st K := by
  refine acallF_inF Try.func17 rfl rfl Try.ntmps17 (by simp) ?_
  obtain ⟨d, id, x, y, w, h⟩ := e
  obtain ⟨s1, hs1⟩ : ∃ s1, s1 = st ++ [Ob.cells (A6.v ⟨d, id, x, y, w, h⟩)] := ⟨_, rfl⟩
  have g1 : Grw st s1 := by rw [hs1]; exact .push _ _
  have c1 : s1[st.length]? = some (.cells (A6.v ⟨d, id, x, y, w, h⟩)) := by rw [hs1]; exact get_new0 _ _
  have hi1 := hi.grw g1
  have hy1 := hy.grw g1
  have hl := hg.len
  have lst : st.length < s1.length := (List.getElem?_eq_some_iff.1 c1).1
  have liy : iy < st.length := (List.getElem?_eq_some_iff.1 hy.at_).1
  have lix : ix < st.length := (List.getElem?_eq_some_iff.1 hi.ix).1
  have nyx : iy ≠ ix := fun he => by have := hy.at_; rw [he, hi.ix] at this; cases this
  simp only [A6.v, rc] at hs1 c1
  simp only [A6.v, rc, evf,↓evp,evq,evr,fxa0,fxa1,fxa2,fxa3,fxa4,fxu,fxn,fxl,↓fxp,lgc,absL,fitL,flatL,ares,ares1,ofVal,unSc,aload,afill,splice,abound,asI,elems,IntKind.bits,sortT,eqNil,closedL,allByte,patch,pendOK,numA,Value.cells,Value.oneCell',ibin,List.replicate,Option.elim,Nat.reduceAdd,Nat.reduceSub,Nat.reduceMul,Nat.reduceLT,Nat.reduceEqDiff,Nat.reduceLeDiff,Nat.reduceBEq,Int.reduceLE,Int.reduceLT,Int.reduceToNat,Int.reduceBNe,Int.reduceBEq,Int.reduceNeg,Int.reduceEq,Int.reduceNe,Nat.reduceBNe,Int.reduceAdd,Int.reduceSub,Int.reduceMul,Int.reducePow,Nat.reducePow,Int.reduceGT,Int.reduceGE,if_true,if_false,ite_true,ite_false,beq_self_eq_true,BEq.rfl,reduceCtorEq,eq_self,ne_eq,Function.comp_def,beq_iff_eq]
  rw [← hs1]
  have ntm : ∀ (j : Nat) (c : List V), s1[j]? = some (.cells c) → j ≠ a ∧ j ≠ b := fun j c hj => ⟨(fun h => by have := hi1.us; rw [← h, hj] at this; cases this), (fun h => by have := hi1.os; rw [← h, hj] at this; cases this)⟩
  have bq : ∀ z : Int, (z == z) = true := fun z => by simp
  have bb : ∀ z : Bool, (z == z) = true := fun z => by simp
  have fin0 : ∀ s, Grw st s → K (.sc (.bool true)) s := fun s g => hK us os L sv s (hi.grw g) hr hg (hy.grw g) (grw_fy g)
  -- behind a turn of the program's
  have fin1 : ∀ {us' : List (Int × V)} {os' : List ((Int × Int) × V)} {L' : List U} {s2 s3 : List Ob} {sv' : V}, Kp a b s1 s2 → Ix s2 ix a b us' os' → Rel us' os' L' → Gd L' → Ri s3 iy sv' L' → (∀ j o, j ≠ iy → s2[j]? = some o → s3[j]? = some o) → K (.sc (.bool true)) s3 := fun k2 hi2 hr2 hg2 hy3 k3 => by
    have yy := k2 _ _ (ntm _ _ hy1.at_).1 (ntm _ _ hy1.at_).2 hy1.at_
    refine hK _ _ _ _ _ (hi2.fr yy k3) hr2 hg2 hy3 fun j cs hj hjc => k3 _ _ hj ?_
    have := g1 _ _ hjc
    exact k2 _ _ (ntm _ _ this).1 (ntm _ _ this).2 this
  cases q1 : d.tmod 4 == 1
  case true =>
    simp only [q1, c1, evf,↓evp,evq,evr,fxa0,fxa1,fxa2,fxa3,fxa4,fxu,fxn,fxl,↓fxp,lgc,absL,fitL,flatL,ares,ares1,ofVal,unSc,aload,afill,splice,abound,asI,elems,IntKind.bits,sortT,eqNil,closedL,allByte,patch,pendOK,numA,Value.cells,Value.oneCell',ibin,List.replicate,Option.elim,Nat.reduceAdd,Nat.reduceSub,Nat.reduceMul,Nat.reduceLT,Nat.reduceEqDiff,Nat.reduceLeDiff,Nat.reduceBEq,Int.reduceLE,Int.reduceLT,Int.reduceToNat,Int.reduceBNe,Int.reduceBEq,Int.reduceNeg,Int.reduceEq,Int.reduceNe,Nat.reduceBNe,Int.reduceAdd,Int.reduceSub,Int.reduceMul,Int.reducePow,Nat.reducePow,Int.reduceGT,Int.reduceGE,if_true,if_false,ite_true,ite_false,beq_self_eq_true,BEq.rfl,reduceCtorEq,eq_self,ne_eq,Function.comp_def,beq_iff_eq]
    refine o_Move (n := n) hr hi1 hab (by omega) (fun e s2 g2 => ?_) (fun i hil e e1 e2 s2 g2 => ?_) (fun i hil e e1 e2 e3 s2 g2 => ?_) fun i hil e e1 e2 e3 us' os' s2 hi2 hr2 k2 => ?_
    · have c2 := g2 _ _ c1
      simp only [c1, c2, g2, true_or, evf,↓evp,evq,evr,fxa0,fxa1,fxa2,fxa3,fxa4,fxu,fxn,fxl,↓fxp,lgc,absL,fitL,flatL,ares,ares1,ofVal,unSc,aload,afill,splice,abound,asI,elems,IntKind.bits,sortT,eqNil,closedL,allByte,patch,pendOK,numA,Value.cells,Value.oneCell',ibin,List.replicate,Option.elim,Nat.reduceAdd,Nat.reduceSub,Nat.reduceMul,Nat.reduceLT,Nat.reduceEqDiff,Nat.reduceLeDiff,Nat.reduceBEq,Int.reduceLE,Int.reduceLT,Int.reduceToNat,Int.reduceBNe,Int.reduceBEq,Int.reduceNeg,Int.reduceEq,Int.reduceNe,Nat.reduceBNe,Int.reduceAdd,Int.reduceSub,Int.reduceMul,Int.reducePow,Nat.reducePow,Int.reduceGT,Int.reduceGE,if_true,if_false,ite_true,ite_false,beq_self_eq_true,BEq.rfl,reduceCtorEq,eq_self,ne_eq,Function.comp_def,beq_iff_eq]
      refine r_Move (n := n) (hy1.grw g2) hm hl (fun _ s3 g3 => ?_) (fun i _ e' => by omega) (fun i _ e' => by omega) fun i _ e' => by omega
      have c3 := g3 _ _ c2
      simp only [bq, c1, c2, c3, g2, g3, true_or, evf,↓evp,evq,evr,fxa0,fxa1,fxa2,fxa3,fxa4,fxu,fxn,fxl,↓fxp,lgc,absL,fitL,flatL,ares,ares1,ofVal,unSc,aload,afill,splice,abound,asI,elems,IntKind.bits,sortT,eqNil,closedL,allByte,patch,pendOK,numA,Value.cells,Value.oneCell',ibin,List.replicate,Option.elim,Nat.reduceAdd,Nat.reduceSub,Nat.reduceMul,Nat.reduceLT,Nat.reduceEqDiff,Nat.reduceLeDiff,Nat.reduceBEq,Int.reduceLE,Int.reduceLT,Int.reduceToNat,Int.reduceBNe,Int.reduceBEq,Int.reduceNeg,Int.reduceEq,Int.reduceNe,Nat.reduceBNe,Int.reduceAdd,Int.reduceSub,Int.reduceMul,Int.reducePow,Nat.reducePow,Int.reduceGT,Int.reduceGE,if_true,if_false,ite_true,ite_false,beq_self_eq_true,BEq.rfl,reduceCtorEq,eq_self,ne_eq,Function.comp_def,beq_iff_eq]
      exact fin0 _ ((g1.trans g2).trans g3)
    · have c2 := g2 _ _ c1
      simp only [c1, c2, g2, true_or, evf,↓evp,evq,evr,fxa0,fxa1,fxa2,fxa3,fxa4,fxu,fxn,fxl,↓fxp,lgc,absL,fitL,flatL,ares,ares1,ofVal,unSc,aload,afill,splice,abound,asI,elems,IntKind.bits,sortT,eqNil,closedL,allByte,patch,pendOK,numA,Value.cells,Value.oneCell',ibin,List.replicate,Option.elim,Nat.reduceAdd,Nat.reduceSub,Nat.reduceMul,Nat.reduceLT,Nat.reduceEqDiff,Nat.reduceLeDiff,Nat.reduceBEq,Int.reduceLE,Int.reduceLT,Int.reduceToNat,Int.reduceBNe,Int.reduceBEq,Int.reduceNeg,Int.reduceEq,Int.reduceNe,Nat.reduceBNe,Int.reduceAdd,Int.reduceSub,Int.reduceMul,Int.reducePow,Nat.reducePow,Int.reduceGT,Int.reduceGE,if_true,if_false,ite_true,ite_false,beq_self_eq_true,BEq.rfl,reduceCtorEq,eq_self,ne_eq,Function.comp_def,beq_iff_eq]
      refine r_Move (n := n) (hy1.grw g2) hm hl (fun e' => by omega) (fun i2 _ e' _ _ s3 g3 => ?_) (fun i2 hi2 e' _ e4 => ?_) fun i2 hi2 e' _ e4 => ?_
      · have c3 := g3 _ _ c2
        simp only [bq, c1, c2, c3, g2, g3, true_or, evf,↓evp,evq,evr,fxa0,fxa1,fxa2,fxa3,fxa4,fxu,fxn,fxl,↓fxp,lgc,absL,fitL,flatL,ares,ares1,ofVal,unSc,aload,afill,splice,abound,asI,elems,IntKind.bits,sortT,eqNil,closedL,allByte,patch,pendOK,numA,Value.cells,Value.oneCell',ibin,List.replicate,Option.elim,Nat.reduceAdd,Nat.reduceSub,Nat.reduceMul,Nat.reduceLT,Nat.reduceEqDiff,Nat.reduceLeDiff,Nat.reduceBEq,Int.reduceLE,Int.reduceLT,Int.reduceToNat,Int.reduceBNe,Int.reduceBEq,Int.reduceNeg,Int.reduceEq,Int.reduceNe,Nat.reduceBNe,Int.reduceAdd,Int.reduceSub,Int.reduceMul,Int.reducePow,Nat.reducePow,Int.reduceGT,Int.reduceGE,if_true,if_false,ite_true,ite_false,beq_self_eq_true,BEq.rfl,reduceCtorEq,eq_self,ne_eq,Function.comp_def,beq_iff_eq]
        exact fin0 _ ((g1.trans g2).trans g3)
      · obtain rfl : i2 = i := by omega
        rw [e2] at e4; cases e4
      · obtain rfl : i2 = i := by omega
        rw [e2] at e4; cases e4
    · have c2 := g2 _ _ c1
      simp only [c1, c2, g2, true_or, evf,↓evp,evq,evr,fxa0,fxa1,fxa2,fxa3,fxa4,fxu,fxn,fxl,↓fxp,lgc,absL,fitL,flatL,ares,ares1,ofVal,unSc,aload,afill,splice,abound,asI,elems,IntKind.bits,sortT,eqNil,closedL,allByte,patch,pendOK,numA,Value.cells,Value.oneCell',ibin,List.replicate,Option.elim,Nat.reduceAdd,Nat.reduceSub,Nat.reduceMul,Nat.reduceLT,Nat.reduceEqDiff,Nat.reduceLeDiff,Nat.reduceBEq,Int.reduceLE,Int.reduceLT,Int.reduceToNat,Int.reduceBNe,Int.reduceBEq,Int.reduceNeg,Int.reduceEq,Int.reduceNe,Nat.reduceBNe,Int.reduceAdd,Int.reduceSub,Int.reduceMul,Int.reducePow,Nat.reducePow,Int.reduceGT,Int.reduceGE,if_true,if_false,ite_true,ite_false,beq_self_eq_true,BEq.rfl,reduceCtorEq,eq_self,ne_eq,Function.comp_def,beq_iff_eq]
      refine r_Move (n := n) (hy1.grw g2) hm hl (fun e' => by omega) (fun i2 hi2 e' _ e4 => ?_) (fun i2 _ e' _ _ _ s3 g3 => ?_) fun i2 hi2 e' _ e4 e5 => ?_
      · obtain rfl : i2 = i := by omega
        rw [e2] at e4; cases e4
      · have c3 := g3 _ _ c2
        simp only [bq, c1, c2, c3, g2, g3, true_or, evf,↓evp,evq,evr,fxa0,fxa1,fxa2,fxa3,fxa4,fxu,fxn,fxl,↓fxp,lgc,absL,fitL,flatL,ares,ares1,ofVal,unSc,aload,afill,splice,abound,asI,elems,IntKind.bits,sortT,eqNil,closedL,allByte,patch,pendOK,numA,Value.cells,Value.oneCell',ibin,List.replicate,Option.elim,Nat.reduceAdd,Nat.reduceSub,Nat.reduceMul,Nat.reduceLT,Nat.reduceEqDiff,Nat.reduceLeDiff,Nat.reduceBEq,Int.reduceLE,Int.reduceLT,Int.reduceToNat,Int.reduceBNe,Int.reduceBEq,Int.reduceNeg,Int.reduceEq,Int.reduceNe,Nat.reduceBNe,Int.reduceAdd,Int.reduceSub,Int.reduceMul,Int.reducePow,Nat.reducePow,Int.reduceGT,Int.reduceGE,if_true,if_false,ite_true,ite_false,beq_self_eq_true,BEq.rfl,reduceCtorEq,eq_self,ne_eq,Function.comp_def,beq_iff_eq]
        exact fin0 _ ((g1.trans g2).trans g3)
      · obtain rfl : i2 = i := by omega
        have : L.any (othR id x y L[i2].w L[i2].h) = true := e3
        rw [this] at e5; cases e5
    · have c2 := k2 _ _ (ntm _ _ c1).1 (ntm _ _ c1).2 c1
      have hy2 := hy1.km (kp_km k2 hi1.us hi1.os)
      simp only [c1, c2, evf,↓evp,evq,evr,fxa0,fxa1,fxa2,fxa3,fxa4,fxu,fxn,fxl,↓fxp,lgc,absL,fitL,flatL,ares,ares1,ofVal,unSc,aload,afill,splice,abound,asI,elems,IntKind.bits,sortT,eqNil,closedL,allByte,patch,pendOK,numA,Value.cells,Value.oneCell',ibin,List.replicate,Option.elim,Nat.reduceAdd,Nat.reduceSub,Nat.reduceMul,Nat.reduceLT,Nat.reduceEqDiff,Nat.reduceLeDiff,Nat.reduceBEq,Int.reduceLE,Int.reduceLT,Int.reduceToNat,Int.reduceBNe,Int.reduceBEq,Int.reduceNeg,Int.reduceEq,Int.reduceNe,Nat.reduceBNe,Int.reduceAdd,Int.reduceSub,Int.reduceMul,Int.reducePow,Nat.reducePow,Int.reduceGT,Int.reduceGE,if_true,if_false,ite_true,ite_false,beq_self_eq_true,BEq.rfl,reduceCtorEq,eq_self,ne_eq,Function.comp_def,beq_iff_eq]
      refine r_Move (n := n) hy2 hm hl (fun e' => by omega) (fun i2 hj2 e' _ e4 => ?_) (fun i2 hj2 e' _ _ e5 => ?_) fun i2 hj2 e' _ _ _ sv' s3 hy3 k3 => ?_
      · obtain rfl : i2 = i := by omega
        rw [e2] at e4; cases e4
      · obtain rfl : i2 = i := by omega
        have : L.any (othR id x y L[i2].w L[i2].h) = false := e3
        rw [this] at e5; cases e5
      · obtain rfl : i2 = i := by omega
        have c3 := k3 _ _ (by omega) c2
        simp only [bq, c1, c2, c3, evf,↓evp,evq,evr,fxa0,fxa1,fxa2,fxa3,fxa4,fxu,fxn,fxl,↓fxp,lgc,absL,fitL,flatL,ares,ares1,ofVal,unSc,aload,afill,splice,abound,asI,elems,IntKind.bits,sortT,eqNil,closedL,allByte,patch,pendOK,numA,Value.cells,Value.oneCell',ibin,List.replicate,Option.elim,Nat.reduceAdd,Nat.reduceSub,Nat.reduceMul,Nat.reduceLT,Nat.reduceEqDiff,Nat.reduceLeDiff,Nat.reduceBEq,Int.reduceLE,Int.reduceLT,Int.reduceToNat,Int.reduceBNe,Int.reduceBEq,Int.reduceNeg,Int.reduceEq,Int.reduceNe,Nat.reduceBNe,Int.reduceAdd,Int.reduceSub,Int.reduceMul,Int.reducePow,Nat.reducePow,Int.reduceGT,Int.reduceGE,if_true,if_false,ite_true,ite_false,beq_self_eq_true,BEq.rfl,reduceCtorEq,eq_self,ne_eq,Function.comp_def,beq_iff_eq]
        exact fin1 k2 hi2 hr2 (hg.move i2 hil x y) hy3 k3
  cases q2 : d.tmod 4 == 2
  case true =>
    simp only [q1, q2, c1, evf,↓evp,evq,evr,fxa0,fxa1,fxa2,fxa3,fxa4,fxu,fxn,fxl,↓fxp,lgc,absL,fitL,flatL,ares,ares1,ofVal,unSc,aload,afill,splice,abound,asI,elems,IntKind.bits,sortT,eqNil,closedL,allByte,patch,pendOK,numA,Value.cells,Value.oneCell',ibin,List.replicate,Option.elim,Nat.reduceAdd,Nat.reduceSub,Nat.reduceMul,Nat.reduceLT,Nat.reduceEqDiff,Nat.reduceLeDiff,Nat.reduceBEq,Int.reduceLE,Int.reduceLT,Int.reduceToNat,Int.reduceBNe,Int.reduceBEq,Int.reduceNeg,Int.reduceEq,Int.reduceNe,Nat.reduceBNe,Int.reduceAdd,Int.reduceSub,Int.reduceMul,Int.reducePow,Nat.reducePow,Int.reduceGT,Int.reduceGE,if_true,if_false,ite_true,ite_false,beq_self_eq_true,BEq.rfl,reduceCtorEq,eq_self,ne_eq,Function.comp_def,beq_iff_eq]
    refine o_Take (n := n + 1) hr hi1 hab (by omega) (fun e s2 g2 => ?_) fun i hil e e1 us' os' s2 hi2 hr2 k2 => ?_
    · have c2 := g2 _ _ c1
      simp only [c1, c2, g2, true_or, evf,↓evp,evq,evr,fxa0,fxa1,fxa2,fxa3,fxa4,fxu,fxn,fxl,↓fxp,lgc,absL,fitL,flatL,ares,ares1,ofVal,unSc,aload,afill,splice,abound,asI,elems,IntKind.bits,sortT,eqNil,closedL,allByte,patch,pendOK,numA,Value.cells,Value.oneCell',ibin,List.replicate,Option.elim,Nat.reduceAdd,Nat.reduceSub,Nat.reduceMul,Nat.reduceLT,Nat.reduceEqDiff,Nat.reduceLeDiff,Nat.reduceBEq,Int.reduceLE,Int.reduceLT,Int.reduceToNat,Int.reduceBNe,Int.reduceBEq,Int.reduceNeg,Int.reduceEq,Int.reduceNe,Nat.reduceBNe,Int.reduceAdd,Int.reduceSub,Int.reduceMul,Int.reducePow,Nat.reducePow,Int.reduceGT,Int.reduceGE,if_true,if_false,ite_true,ite_false,beq_self_eq_true,BEq.rfl,reduceCtorEq,eq_self,ne_eq,Function.comp_def,beq_iff_eq]
      refine r_Take (n := n + 5) (hy1.grw g2) hm hl (fun _ s3 g3 => ?_) fun i _ e' => by omega
      have c3 := g3 _ _ c2
      simp only [bq, c1, c2, c3, g2, g3, true_or, evf,↓evp,evq,evr,fxa0,fxa1,fxa2,fxa3,fxa4,fxu,fxn,fxl,↓fxp,lgc,absL,fitL,flatL,ares,ares1,ofVal,unSc,aload,afill,splice,abound,asI,elems,IntKind.bits,sortT,eqNil,closedL,allByte,patch,pendOK,numA,Value.cells,Value.oneCell',ibin,List.replicate,Option.elim,Nat.reduceAdd,Nat.reduceSub,Nat.reduceMul,Nat.reduceLT,Nat.reduceEqDiff,Nat.reduceLeDiff,Nat.reduceBEq,Int.reduceLE,Int.reduceLT,Int.reduceToNat,Int.reduceBNe,Int.reduceBEq,Int.reduceNeg,Int.reduceEq,Int.reduceNe,Nat.reduceBNe,Int.reduceAdd,Int.reduceSub,Int.reduceMul,Int.reducePow,Nat.reducePow,Int.reduceGT,Int.reduceGE,if_true,if_false,ite_true,ite_false,beq_self_eq_true,BEq.rfl,reduceCtorEq,eq_self,ne_eq,Function.comp_def,beq_iff_eq]
      exact fin0 _ ((g1.trans g2).trans g3)
    · have c2 := k2 _ _ (ntm _ _ c1).1 (ntm _ _ c1).2 c1
      have hy2 := hy1.km (kp_km k2 hi1.us hi1.os)
      simp only [c1, c2, evf,↓evp,evq,evr,fxa0,fxa1,fxa2,fxa3,fxa4,fxu,fxn,fxl,↓fxp,lgc,absL,fitL,flatL,ares,ares1,ofVal,unSc,aload,afill,splice,abound,asI,elems,IntKind.bits,sortT,eqNil,closedL,allByte,patch,pendOK,numA,Value.cells,Value.oneCell',ibin,List.replicate,Option.elim,Nat.reduceAdd,Nat.reduceSub,Nat.reduceMul,Nat.reduceLT,Nat.reduceEqDiff,Nat.reduceLeDiff,Nat.reduceBEq,Int.reduceLE,Int.reduceLT,Int.reduceToNat,Int.reduceBNe,Int.reduceBEq,Int.reduceNeg,Int.reduceEq,Int.reduceNe,Nat.reduceBNe,Int.reduceAdd,Int.reduceSub,Int.reduceMul,Int.reducePow,Nat.reducePow,Int.reduceGT,Int.reduceGE,if_true,if_false,ite_true,ite_false,beq_self_eq_true,BEq.rfl,reduceCtorEq,eq_self,ne_eq,Function.comp_def,beq_iff_eq]
      refine r_Take (n := n + 5) hy2 hm hl (fun e' => by omega) fun i2 hj2 e' _ sv' s3 hy3 k3 => ?_
      obtain rfl : i2 = i := by omega
      have c3 := k3 _ _ (by omega) c2
      simp only [bq, c1, c2, c3, evf,↓evp,evq,evr,fxa0,fxa1,fxa2,fxa3,fxa4,fxu,fxn,fxl,↓fxp,lgc,absL,fitL,flatL,ares,ares1,ofVal,unSc,aload,afill,splice,abound,asI,elems,IntKind.bits,sortT,eqNil,closedL,allByte,patch,pendOK,numA,Value.cells,Value.oneCell',ibin,List.replicate,Option.elim,Nat.reduceAdd,Nat.reduceSub,Nat.reduceMul,Nat.reduceLT,Nat.reduceEqDiff,Nat.reduceLeDiff,Nat.reduceBEq,Int.reduceLE,Int.reduceLT,Int.reduceToNat,Int.reduceBNe,Int.reduceBEq,Int.reduceNeg,Int.reduceEq,Int.reduceNe,Nat.reduceBNe,Int.reduceAdd,Int.reduceSub,Int.reduceMul,Int.reducePow,Nat.reducePow,Int.reduceGT,Int.reduceGE,if_true,if_false,ite_true,ite_false,beq_self_eq_true,BEq.rfl,reduceCtorEq,eq_self,ne_eq,Function.comp_def,beq_iff_eq]
      exact fin1 k2 hi2 hr2 (hg.take i2 hil) hy3 k3
  cases q3 : d.tmod 4 == 3
  case true =>
    simp only [q1, q2, q3, c1, evf,↓evp,evq,evr,fxa0,fxa1,fxa2,fxa3,fxa4,fxu,fxn,fxl,↓fxp,lgc,absL,fitL,flatL,ares,ares1,ofVal,unSc,aload,afill,splice,abound,asI,elems,IntKind.bits,sortT,eqNil,closedL,allByte,patch,pendOK,numA,Value.cells,Value.oneCell',ibin,List.replicate,Option.elim,Nat.reduceAdd,Nat.reduceSub,Nat.reduceMul,Nat.reduceLT,Nat.reduceEqDiff,Nat.reduceLeDiff,Nat.reduceBEq,Int.reduceLE,Int.reduceLT,Int.reduceToNat,Int.reduceBNe,Int.reduceBEq,Int.reduceNeg,Int.reduceEq,Int.reduceNe,Nat.reduceBNe,Int.reduceAdd,Int.reduceSub,Int.reduceMul,Int.reducePow,Nat.reducePow,Int.reduceGT,Int.reduceGE,if_true,if_false,ite_true,ite_false,beq_self_eq_true,BEq.rfl,reduceCtorEq,eq_self,ne_eq,Function.comp_def,beq_iff_eq]
    refine o_FreeA (n := n + 1) hr hi1 hab hm hl fun s2 g2 => ?_
    have c2 := g2 _ _ c1
    simp only [c1, c2, g2, true_or, evf,↓evp,evq,evr,fxa0,fxa1,fxa2,fxa3,fxa4,fxu,fxn,fxl,↓fxp,lgc,absL,fitL,flatL,ares,ares1,ofVal,unSc,aload,afill,splice,abound,asI,elems,IntKind.bits,sortT,eqNil,closedL,allByte,patch,pendOK,numA,Value.cells,Value.oneCell',ibin,List.replicate,Option.elim,Nat.reduceAdd,Nat.reduceSub,Nat.reduceMul,Nat.reduceLT,Nat.reduceEqDiff,Nat.reduceLeDiff,Nat.reduceBEq,Int.reduceLE,Int.reduceLT,Int.reduceToNat,Int.reduceBNe,Int.reduceBEq,Int.reduceNeg,Int.reduceEq,Int.reduceNe,Nat.reduceBNe,Int.reduceAdd,Int.reduceSub,Int.reduceMul,Int.reducePow,Nat.reducePow,Int.reduceGT,Int.reduceGE,if_true,if_false,ite_true,ite_false,beq_self_eq_true,BEq.rfl,reduceCtorEq,eq_self,ne_eq,Function.comp_def,beq_iff_eq]
    refine r_Free (n := n + 1) (hy1.grw g2) (by omega) (by omega) fun s3 g3 => ?_
    have c3 := g3 _ _ c2
    simp only [bb, c1, c2, c3, g2, g3, true_or, evf,↓evp,evq,evr,fxa0,fxa1,fxa2,fxa3,fxa4,fxu,fxn,fxl,↓fxp,lgc,absL,fitL,flatL,ares,ares1,ofVal,unSc,aload,afill,splice,abound,asI,elems,IntKind.bits,sortT,eqNil,closedL,allByte,patch,pendOK,numA,Value.cells,Value.oneCell',ibin,List.replicate,Option.elim,Nat.reduceAdd,Nat.reduceSub,Nat.reduceMul,Nat.reduceLT,Nat.reduceEqDiff,Nat.reduceLeDiff,Nat.reduceBEq,Int.reduceLE,Int.reduceLT,Int.reduceToNat,Int.reduceBNe,Int.reduceBEq,Int.reduceNeg,Int.reduceEq,Int.reduceNe,Nat.reduceBNe,Int.reduceAdd,Int.reduceSub,Int.reduceMul,Int.reducePow,Nat.reducePow,Int.reduceGT,Int.reduceGE,if_true,if_false,ite_true,ite_false,beq_self_eq_true,BEq.rfl,reduceCtorEq,eq_self,ne_eq,Function.comp_def,beq_iff_eq]
    exact fin0 _ ((g1.trans g2).trans g3)
  simp only [q1, q2, q3, c1, evf,↓evp,evq,evr,fxa0,fxa1,fxa2,fxa3,fxa4,fxu,fxn,fxl,↓fxp,lgc,absL,fitL,flatL,ares,ares1,ofVal,unSc,aload,afill,splice,abound,asI,elems,IntKind.bits,sortT,eqNil,closedL,allByte,patch,pendOK,numA,Value.cells,Value.oneCell',ibin,List.replicate,Option.elim,Nat.reduceAdd,Nat.reduceSub,Nat.reduceMul,Nat.reduceLT,Nat.reduceEqDiff,Nat.reduceLeDiff,Nat.reduceBEq,Int.reduceLE,Int.reduceLT,Int.reduceToNat,Int.reduceBNe,Int.reduceBEq,Int.reduceNeg,Int.reduceEq,Int.reduceNe,Nat.reduceBNe,Int.reduceAdd,Int.reduceSub,Int.reduceMul,Int.reducePow,Nat.reducePow,Int.reduceGT,Int.reduceGE,if_true,if_false,ite_true,ite_false,beq_self_eq_true,BEq.rfl,reduceCtorEq,eq_self,ne_eq,Function.comp_def,beq_iff_eq]
  refine o_Put (n := n + 1) hr hi1 hab (by omega) (fun hne s2 g2 => ?_) fun hz hv hgn hno hll s2 hi2 k2 => ?_
  · have c2 := g2 _ _ c1
    simp only [c1, c2, g2, true_or, evf,↓evp,evq,evr,fxa0,fxa1,fxa2,fxa3,fxa4,fxu,fxn,fxl,↓fxp,lgc,absL,fitL,flatL,ares,ares1,ofVal,unSc,aload,afill,splice,abound,asI,elems,IntKind.bits,sortT,eqNil,closedL,allByte,patch,pendOK,numA,Value.cells,Value.oneCell',ibin,List.replicate,Option.elim,Nat.reduceAdd,Nat.reduceSub,Nat.reduceMul,Nat.reduceLT,Nat.reduceEqDiff,Nat.reduceLeDiff,Nat.reduceBEq,Int.reduceLE,Int.reduceLT,Int.reduceToNat,Int.reduceBNe,Int.reduceBEq,Int.reduceNeg,Int.reduceEq,Int.reduceNe,Nat.reduceBNe,Int.reduceAdd,Int.reduceSub,Int.reduceMul,Int.reducePow,Nat.reducePow,Int.reduceGT,Int.reduceGE,if_true,if_false,ite_true,ite_false,beq_self_eq_true,BEq.rfl,reduceCtorEq,eq_self,ne_eq,Function.comp_def,beq_iff_eq]
    refine r_PutR (n := n) (hy1.grw g2) hm hl (fun _ s3 g3 => ?_) fun hz => absurd hz hne
    have c3 := g3 _ _ c2
    simp only [bq, c1, c2, c3, g2, g3, true_or, evf,↓evp,evq,evr,fxa0,fxa1,fxa2,fxa3,fxa4,fxu,fxn,fxl,↓fxp,lgc,absL,fitL,flatL,ares,ares1,ofVal,unSc,aload,afill,splice,abound,asI,elems,IntKind.bits,sortT,eqNil,closedL,allByte,patch,pendOK,numA,Value.cells,Value.oneCell',ibin,List.replicate,Option.elim,Nat.reduceAdd,Nat.reduceSub,Nat.reduceMul,Nat.reduceLT,Nat.reduceEqDiff,Nat.reduceLeDiff,Nat.reduceBEq,Int.reduceLE,Int.reduceLT,Int.reduceToNat,Int.reduceBNe,Int.reduceBEq,Int.reduceNeg,Int.reduceEq,Int.reduceNe,Nat.reduceBNe,Int.reduceAdd,Int.reduceSub,Int.reduceMul,Int.reducePow,Nat.reducePow,Int.reduceGT,Int.reduceGE,if_true,if_false,ite_true,ite_false,beq_self_eq_true,BEq.rfl,reduceCtorEq,eq_self,ne_eq,Function.comp_def,beq_iff_eq]
    exact fin0 _ ((g1.trans g2).trans g3)
  · have c2 := k2 _ _ (ntm _ _ c1).1 (ntm _ _ c1).2 c1
    have hy2 := hy1.km (kp_km k2 hi1.us hi1.os)
    simp only [c1, c2, evf,↓evp,evq,evr,fxa0,fxa1,fxa2,fxa3,fxa4,fxu,fxn,fxl,↓fxp,lgc,absL,fitL,flatL,ares,ares1,ofVal,unSc,aload,afill,splice,abound,asI,elems,IntKind.bits,sortT,eqNil,closedL,allByte,patch,pendOK,numA,Value.cells,Value.oneCell',ibin,List.replicate,Option.elim,Nat.reduceAdd,Nat.reduceSub,Nat.reduceMul,Nat.reduceLT,Nat.reduceEqDiff,Nat.reduceLeDiff,Nat.reduceBEq,Int.reduceLE,Int.reduceLT,Int.reduceToNat,Int.reduceBNe,Int.reduceBEq,Int.reduceNeg,Int.reduceEq,Int.reduceNe,Nat.reduceBNe,Int.reduceAdd,Int.reduceSub,Int.reduceMul,Int.reducePow,Nat.reducePow,Int.reduceGT,Int.reduceGE,if_true,if_false,ite_true,ite_false,beq_self_eq_true,BEq.rfl,reduceCtorEq,eq_self,ne_eq,Function.comp_def,beq_iff_eq]
    refine r_PutR (n := n) hy2 hm hl (fun hne => absurd hz hne) fun _ sv' s3 hy3 k3 => ?_
    have c3 := k3 _ _ (by omega) c2
    simp only [bq, c1, c2, c3, beq_self_eq_true, evf,↓evp,evq,evr,fxa0,fxa1,fxa2,fxa3,fxa4,fxu,fxn,fxl,↓fxp,lgc,absL,fitL,flatL,ares,ares1,ofVal,unSc,aload,afill,splice,abound,asI,elems,IntKind.bits,sortT,eqNil,closedL,allByte,patch,pendOK,numA,Value.cells,Value.oneCell',ibin,List.replicate,Option.elim,Nat.reduceAdd,Nat.reduceSub,Nat.reduceMul,Nat.reduceLT,Nat.reduceEqDiff,Nat.reduceLeDiff,Nat.reduceBEq,Int.reduceLE,Int.reduceLT,Int.reduceToNat,Int.reduceBNe,Int.reduceBEq,Int.reduceNeg,Int.reduceEq,Int.reduceNe,Nat.reduceBNe,Int.reduceAdd,Int.reduceSub,Int.reduceMul,Int.reducePow,Nat.reducePow,Int.reduceGT,Int.reduceGE,if_true,if_false,ite_true,ite_false,beq_self_eq_true,BEq.rfl,reduceCtorEq,eq_self,ne_eq,Function.comp_def,beq_iff_eq]
    exact fin1 k2 hi2 (hr.place ⟨id, x, y, w, h⟩ hv hgn hno) (hg.place hll (hr.new hgn) hid) hy3 k3
end
/-! ### Chapter 5: the law OccupyActs. -/
section
variable {n m : Nat} {st s : List Ob} {K : V → List Ob → Prop} {E : List A6} {lv : V}
theorem a_all (hv : Rd Try.prog s 36 lv (E.flatMap A6.v) E.length) {i : Nat} (hi : i < E.length) : ald Try.prog s 36 (ixp 6 lv i 0) = some (.agg (A6.v E[i]), s) :=
  (ix_flat (f := A6.v) (fun a => rfl) hv Try.underlying22 sz36 ag36 (by omega) hi).2
theorem ri_nil {iy : Nat} (h : s[iy]? = some (.cells [.tsl [] 0 true true])) : Ri s iy (.tsl [] 0 true true) [] := ⟨h, cut_nil _ _⟩
set_option maxHeartbeats 4000000 in
theorem l5_Acts (he : ∀ s, Rd Try.prog s 36 lv (E.flatMap A6.v) E.length) (hid : ∀ e ∈ E, inR e.id) (hEl : E.length ≤ 2932031007402) (hEm : E.length < m) (hm : 500 < m) (hK : ∀ s, K (.sc (.bool true)) s) :
    acallF Try.prog pl (n + 12) m 3 [lv] st K := by
  refine acallF_inF Try.func3 rfl rfl Try.ntmps3 (by simp) ?_
  simp only [evf,↓evp,evq,evr,fxa0,fxa1,fxa2,fxa3,fxa4,fxu,fxn,fxl,↓fxp,lgc,absL,fitL,flatL,ares,ares1,ofVal,unSc,aload,afill,splice,abound,asI,elems,IntKind.bits,sortT,eqNil,closedL,allByte,patch,pendOK,numA,Value.cells,Value.oneCell',ibin,List.replicate,Option.elim,Nat.reduceAdd,Nat.reduceSub,Nat.reduceMul,Nat.reduceLT,Nat.reduceEqDiff,Nat.reduceLeDiff,Nat.reduceBEq,Int.reduceLE,Int.reduceLT,Int.reduceToNat,Int.reduceBNe,Int.reduceBEq,Int.reduceNeg,Int.reduceEq,Int.reduceNe,Nat.reduceBNe,Int.reduceAdd,Int.reduceSub,Int.reduceMul,Int.reducePow,Nat.reducePow,Int.reduceGT,Int.reduceGE,if_true,if_false,ite_true,ite_false,beq_self_eq_true,BEq.rfl,reduceCtorEq,eq_self,ne_eq,Function.comp_def,beq_iff_eq]
  refine awake5 (n := n + 4) (by omega) fun s2 g2 => ?_
  simp only [evf,↓evp,evq,evr,fxa0,fxa1,fxa2,fxa3,fxa4,fxu,fxn,fxl,↓fxp,lgc,absL,fitL,flatL,ares,ares1,ofVal,unSc,aload,afill,splice,abound,asI,elems,IntKind.bits,sortT,eqNil,closedL,allByte,patch,pendOK,numA,Value.cells,Value.oneCell',ibin,List.replicate,Option.elim,Nat.reduceAdd,Nat.reduceSub,Nat.reduceMul,Nat.reduceLT,Nat.reduceEqDiff,Nat.reduceLeDiff,Nat.reduceBEq,Int.reduceLE,Int.reduceLT,Int.reduceToNat,Int.reduceBNe,Int.reduceBEq,Int.reduceNeg,Int.reduceEq,Int.reduceNe,Nat.reduceBNe,Int.reduceAdd,Int.reduceSub,Int.reduceMul,Int.reducePow,Nat.reducePow,Int.reduceGT,Int.reduceGE,if_true,if_false,ite_true,ite_false,beq_self_eq_true,BEq.rfl,reduceCtorEq,eq_self,ne_eq,Function.comp_def,beq_iff_eq]
  refine o_New (n := n + 10) fun s3 hi3 g3 => ?_
  simp only [evf,↓evp,evq,evr,fxa0,fxa1,fxa2,fxa3,fxa4,fxu,fxn,fxl,↓fxp,lgc,absL,fitL,flatL,ares,ares1,ofVal,unSc,aload,afill,splice,abound,asI,elems,IntKind.bits,sortT,eqNil,closedL,allByte,patch,pendOK,numA,Value.cells,Value.oneCell',ibin,List.replicate,Option.elim,Nat.reduceAdd,Nat.reduceSub,Nat.reduceMul,Nat.reduceLT,Nat.reduceEqDiff,Nat.reduceLeDiff,Nat.reduceBEq,Int.reduceLE,Int.reduceLT,Int.reduceToNat,Int.reduceBNe,Int.reduceBEq,Int.reduceNeg,Int.reduceEq,Int.reduceNe,Nat.reduceBNe,Int.reduceAdd,Int.reduceSub,Int.reduceMul,Int.reducePow,Nat.reducePow,Int.reduceGT,Int.reduceGE,if_true,if_false,ite_true,ite_false,beq_self_eq_true,BEq.rfl,reduceCtorEq,eq_self,ne_eq,Function.comp_def,beq_iff_eq]
  generalize hS : s3 ++ _ = S
  have gS : Grw s3 S := by rw [← hS]; exact .push _ _
  have y0 : S[s3.length]? = some (.cells [.tsl [] 0 true true]) := by rw [← hS]; exact get_new0 _ _
  have hiS := hi3.grw gS
  refine aloop_forF (fun k f s => ∃ (i : Nat) (us : List (Int × V)) (os : List ((Int × Int) × V)) (L : List U) (sv : V), k + i = m ∧ i ≤ E.length ∧ Ix s (s2.length + 2) s2.length (s2.length + 1) us os ∧ Rel us os L ∧ Gd L ∧ Ri s s3.length sv L ∧ f 0 = lv ∧ f 3 = .ref (s2.length + 2) 0 ∧ f 4 = .ref s3.length 0 ∧ f 5 = .sc (.int .i64 i))
    ⟨0, [], [], [], _, by omega, by omega, hiS, Rel.nil, Gd.nil, ri_nil y0, by simp only [evf, ne_eq, Nat.reduceEqDiff, Nat.reduceLT, not_false_eq_true], by simp only [evf, ne_eq, Nat.reduceEqDiff, Nat.reduceLT, not_false_eq_true], by simp only [evf, ne_eq, Nat.reduceEqDiff, Nat.reduceLT, not_false_eq_true], by simp only [evf, ne_eq, Nat.reduceEqDiff, Nat.reduceLT, not_false_eq_true]; rfl⟩ ?_
  rintro I' hI' k f s ⟨i, us, os, L, sv, hk, hi, ix, rel, gd, hy, f0, f3, f4, f5⟩
  refine ⟨k - 1, by omega, ?_⟩
  have al := alen_rd (he s) Try.underlying22
  have e3 : IntKind.i64.wrap ((i : Int) + 1) = ((i + 1 : Nat) : Int) := by rw [IntWalk.i64_in _ (by omega)]; rfl
  by_cases hil : i < E.length
  · have d : decide ((i : Int) < E.length) = true := decide_eq_true (by omega)
    obtain ⟨p1, p2⟩ := ix_flat (f := A6.v) (fun a => rfl) (he s) Try.underlying22 sz36 ag36 (by omega) hil
    simp only [f0, f3, f4, f5, al, d, p1, p2, evf,↓evp,evq,evr,fxa0,fxa1,fxa2,fxa3,fxa4,fxu,fxn,fxl,↓fxp,lgc,absL,fitL,flatL,ares,ares1,ofVal,unSc,aload,afill,splice,abound,asI,elems,IntKind.bits,sortT,eqNil,closedL,allByte,patch,pendOK,numA,Value.cells,Value.oneCell',ibin,List.replicate,Option.elim,Nat.reduceAdd,Nat.reduceSub,Nat.reduceMul,Nat.reduceLT,Nat.reduceEqDiff,Nat.reduceLeDiff,Nat.reduceBEq,Int.reduceLE,Int.reduceLT,Int.reduceToNat,Int.reduceBNe,Int.reduceBEq,Int.reduceNeg,Int.reduceEq,Int.reduceNe,Nat.reduceBNe,Int.reduceAdd,Int.reduceSub,Int.reduceMul,Int.reducePow,Nat.reducePow,Int.reduceGT,Int.reduceGE,if_true,if_false,ite_true,ite_false,beq_self_eq_true,BEq.rfl,reduceCtorEq,eq_self,ne_eq,Function.comp_def,beq_iff_eq]
    refine l5_does (n := n + 3) E[i] rel gd ix (by omega) hy (hid _ (List.getElem_mem hil)) (by omega) fun us' os' L' sv' s' ix' rel' gd' hy' _ => ?_
    simp only [f0, f3, f4, f5, e3, evf,↓evp,evq,evr,fxa0,fxa1,fxa2,fxa3,fxa4,fxu,fxn,fxl,↓fxp,lgc,absL,fitL,flatL,ares,ares1,ofVal,unSc,aload,afill,splice,abound,asI,elems,IntKind.bits,sortT,eqNil,closedL,allByte,patch,pendOK,numA,Value.cells,Value.oneCell',ibin,List.replicate,Option.elim,Nat.reduceAdd,Nat.reduceSub,Nat.reduceMul,Nat.reduceLT,Nat.reduceEqDiff,Nat.reduceLeDiff,Nat.reduceBEq,Int.reduceLE,Int.reduceLT,Int.reduceToNat,Int.reduceBNe,Int.reduceBEq,Int.reduceNeg,Int.reduceEq,Int.reduceNe,Nat.reduceBNe,Int.reduceAdd,Int.reduceSub,Int.reduceMul,Int.reducePow,Nat.reducePow,Int.reduceGT,Int.reduceGE,if_true,if_false,ite_true,ite_false,beq_self_eq_true,BEq.rfl,reduceCtorEq,eq_self,ne_eq,Function.comp_def,beq_iff_eq]
    exact hI' _ _ _ ⟨i + 1, us', os', L', sv', by omega, hil, ix', rel', gd', hy', by simp only [f0, evf, ne_eq, Nat.reduceEqDiff, Nat.reduceLT, not_false_eq_true], by simp only [f3, evf, ne_eq, Nat.reduceEqDiff, Nat.reduceLT, not_false_eq_true], by simp only [f4, evf, ne_eq, Nat.reduceEqDiff, Nat.reduceLT, not_false_eq_true], by simp only [evf, ne_eq, Nat.reduceEqDiff, Nat.reduceLT, not_false_eq_true]⟩
  · have d : decide ((i : Int) < E.length) = false := decide_eq_false (by omega)
    simp only [f0, f3, f4, f5, al, d, evf,↓evp,evq,evr,fxa0,fxa1,fxa2,fxa3,fxa4,fxu,fxn,fxl,↓fxp,lgc,absL,fitL,flatL,ares,ares1,ofVal,unSc,aload,afill,splice,abound,asI,elems,IntKind.bits,sortT,eqNil,closedL,allByte,patch,pendOK,numA,Value.cells,Value.oneCell',ibin,List.replicate,Option.elim,Nat.reduceAdd,Nat.reduceSub,Nat.reduceMul,Nat.reduceLT,Nat.reduceEqDiff,Nat.reduceLeDiff,Nat.reduceBEq,Int.reduceLE,Int.reduceLT,Int.reduceToNat,Int.reduceBNe,Int.reduceBEq,Int.reduceNeg,Int.reduceEq,Int.reduceNe,Nat.reduceBNe,Int.reduceAdd,Int.reduceSub,Int.reduceMul,Int.reducePow,Nat.reducePow,Int.reduceGT,Int.reduceGE,if_true,if_false,ite_true,ite_false,beq_self_eq_true,BEq.rfl,reduceCtorEq,eq_self,ne_eq,Function.comp_def,beq_iff_eq]
    refine l5_same (n := n + 6) rel gd ix hy (by omega) fun s5 g5 => ?_
    simp only [f0, f3, f4, f5, evf,↓evp,evq,evr,fxa0,fxa1,fxa2,fxa3,fxa4,fxu,fxn,fxl,↓fxp,lgc,absL,fitL,flatL,ares,ares1,ofVal,unSc,aload,afill,splice,abound,asI,elems,IntKind.bits,sortT,eqNil,closedL,allByte,patch,pendOK,numA,Value.cells,Value.oneCell',ibin,List.replicate,Option.elim,Nat.reduceAdd,Nat.reduceSub,Nat.reduceMul,Nat.reduceLT,Nat.reduceEqDiff,Nat.reduceLeDiff,Nat.reduceBEq,Int.reduceLE,Int.reduceLT,Int.reduceToNat,Int.reduceBNe,Int.reduceBEq,Int.reduceNeg,Int.reduceEq,Int.reduceNe,Nat.reduceBNe,Int.reduceAdd,Int.reduceSub,Int.reduceMul,Int.reducePow,Nat.reducePow,Int.reduceGT,Int.reduceGE,if_true,if_false,ite_true,ite_false,beq_self_eq_true,BEq.rfl,reduceCtorEq,eq_self,ne_eq,Function.comp_def,beq_iff_eq]
    refine awake5 (n := n + 4) (by omega) fun s6 g6 => ?_
    simp only [evf,↓evp,evq,evr,fxa0,fxa1,fxa2,fxa3,fxa4,fxu,fxn,fxl,↓fxp,lgc,absL,fitL,flatL,ares,ares1,ofVal,unSc,aload,afill,splice,abound,asI,elems,IntKind.bits,sortT,eqNil,closedL,allByte,patch,pendOK,numA,Value.cells,Value.oneCell',ibin,List.replicate,Option.elim,Nat.reduceAdd,Nat.reduceSub,Nat.reduceMul,Nat.reduceLT,Nat.reduceEqDiff,Nat.reduceLeDiff,Nat.reduceBEq,Int.reduceLE,Int.reduceLT,Int.reduceToNat,Int.reduceBNe,Int.reduceBEq,Int.reduceNeg,Int.reduceEq,Int.reduceNe,Nat.reduceBNe,Int.reduceAdd,Int.reduceSub,Int.reduceMul,Int.reducePow,Nat.reducePow,Int.reduceGT,Int.reduceGE,if_true,if_false,ite_true,ite_false,beq_self_eq_true,BEq.rfl,reduceCtorEq,eq_self,ne_eq,Function.comp_def,beq_iff_eq]
    exact hK _
end
end Go.Proofs.Ytgmccnnjpejigaa
