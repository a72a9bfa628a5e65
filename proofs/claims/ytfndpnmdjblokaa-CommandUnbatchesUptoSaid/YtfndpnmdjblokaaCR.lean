/- Chapter 24: a command's bytes, by the document. Chapter 24: a command's bytes, by the document, whole. Chapter 24: the plain law: a command that is read. Chapter 24: units are read, by the program: the loop. Chapter 24: a command is read, by the program, whole. -/
import Derived.Test.YtfndpnmdjblokaaCU
import Derived.Test.YtfndpnmdjblokaaWR
set_option linter.unusedVariables false
set_option linter.unusedSimpArgs false
set_option maxRecDepth 10000
namespace Go.Proofs.Ytfndpnmdjblokaa
open Go Go.M Go.RowKit
attribute [local congr] acallF_cong aloop_cong bcase_cong resK_cong valK_cong wantK_cong callK_cong xputK_cong qputK_cong
attribute [local irreducible] seqK blockK loopK nextK bcase resK valK wantK funK putK dputK xputK qputK callK aops aop acode adraw aloop acallF acall invK
/-! ### Chapter 24: a command's bytes, by the document. -/
theorem closed_is : ∀ l : List Int, closedL (is l) = true
  | [] => rfl
  | n :: l => by simp only [is, List.map_cons, closedL, closed, Bool.true_and]; exact closed_is l
theorem is_append (a b : List Int) : is (a ++ b) = is a ++ is b := by simp [is]
theorem ns_append (a b : List Nat) : ns (a ++ b) = ns a ++ ns b := by simp [ns]
theorem appI {s0 s : List Ob} {w : V} {L : List Nat} (h : Buf Try.prog 3 s0 s w (is (ns L)) L.length) {x : V} {Z : List Nat} (hx : Rd Try.prog s 3 x (is (ns Z)) Z.length) (hb : L.length + Z.length ≤ 1000000000) :
    ∃ w' s', aappend Try.prog s 53 w x = some (w', s') ∧ Buf Try.prog 3 s0 s' w' (is (ns (L ++ Z))) (L ++ Z).length ∧ Gro s s' := by
  obtain ⟨w', s', h1, h2, h3⟩ := h.append' Try.underlying53 sz3 by3 ze3 (by omega) rfl hx.1 (closed_is _) (by rw [is_length, ns_length]; omega) (by omega) (by omega)
  exact ⟨w', s', h1, by rw [ns_append, is_append, List.length_append]; exact h2, h3⟩
/-- A row of numbers that was laid for an append. -/
theorem appL {s0 s : List Ob} {w : V} {L : List Nat} (h : Buf Try.prog 3 s0 s w (is (ns L)) L.length) (Z : List Nat) (hb : L.length + Z.length ≤ 1000000000) :
    ∃ w' s', aappend Try.prog (s ++ [.row 3 (is (ns Z)) Z.length 0 false]) 53 w (.sl s.length 0 Z.length false) = some (w', s') ∧ Buf Try.prog 3 s0 s' w' (is (ns (L ++ Z))) (L ++ Z).length ∧ Gro s s' := by
  obtain ⟨w', s', h1, h2, h3⟩ := appI (h.grw (.push s [.row 3 (is (ns Z)) Z.length 0 false])) (row_at (id := s.length) (l := Z) (get_new0 _ _)) hb
  exact ⟨w', s', h1, h2, (Grw.push _ _).gro.trans h3⟩
/-- A new row may grow. -/
theorem row_buf {s0 s : List Ob} {e id sz n : Nat} {xs : List V} (h : s[id]? = some (.row e xs n 0 false)) (hs : szOf Try.prog e = some sz) (hl : xs.length = n * sz) (hg : Grw s0 s) (hi : s0.length ≤ id) : Buf Try.prog e s0 s (.sl id 0 n false) xs n :=
  ⟨hg, .inr ⟨id, 0, sz, hi, rfl, h, Nat.zero_le _, hs, hl⟩⟩
section
variable {n m : Nat} {st : List Ob} {K : V → List Ob → Prop}
set_option maxHeartbeats 1000000 in
theorem q_list {v : V} {U : List Nat} (hv : Rd Try.prog st 3 v (is (ns U)) U.length) (hr : rises 0 U) (hU : U.length ≤ 64) (hm : 100 < m)
    (hK : ∀ w s, Buf Try.prog 3 st s w (is (ns (U.length :: dif 0 U))) (U.length :: dif 0 U).length → K w s) : acallF Try.prog pl (n + 1) m 84 [v] st K := by
  refine acallF_inF Try.func84 rfl Try.ntmps84 (by simp) ?_
  have lv := alen_rd hv Try.underlying53
  simp only [lv, evf,↓evp,evq,evr,fxa0,fxa1,fxa2,fxa3,fxu,fxn,fxl,↓fxp,lgc,absL,fitL,flatL,ares,ares1,ofVal,unSc,aload,afill,splice,abound,asI,elems,IntKind.bits,sortT,eqNil,closedL,allByte,patch,pendOK,numA,Value.cells,Value.oneCell',ibin,List.replicate,Option.elim,Nat.reduceAdd,Nat.reduceSub,Nat.reduceMul,Nat.reduceLT,Nat.reduceEqDiff,Nat.reduceLeDiff,Nat.reduceBEq,Int.reduceLE,Int.reduceLT,Int.reduceToNat,Int.reduceBNe,Int.reduceBEq,Int.reduceNeg,Int.reduceEq,Int.reduceNe,Nat.reduceBNe,Int.reduceAdd,Int.reduceSub,Int.reduceMul,Int.reducePow,Nat.reducePow,Int.reduceGT,Int.reduceGE,if_true,if_false,ite_true,ite_false,beq_self_eq_true,BEq.rfl,reduceCtorEq,eq_self,ne_eq,Function.comp_def,beq_iff_eq]
  have B0 : Buf Try.prog 3 st (st ++ [.row 3 (is (ns [U.length])) 1 0 false]) (.sl st.length 0 1 false) (is (ns [U.length])) [U.length].length := row_buf (get_new0 _ _) sz3 rfl (.push _ _) (Nat.le_refl _)
  refine aloop_forF (fun k f s => ∃ (i last : Nat) (cur : List Nat) (w : V), k + i = m ∧ i ≤ U.length ∧ rises last (U.drop i) ∧ U.length :: dif 0 U = cur ++ dif last (U.drop i) ∧ cur.length = 1 + i ∧ Buf Try.prog 3 st s w (is (ns cur)) cur.length ∧ last ≤ 2147483647 ∧
    f 0 = v ∧ f 3 = w ∧ f 4 = .sc (.int .i64 last) ∧ f 5 = .sc (.int .i64 i)) ⟨0, 0, [U.length], .sl st.length 0 1 false, by omega, by omega, hr, rfl, rfl, B0, by omega, by simp only [evf, ne_eq, Nat.reduceEqDiff, Nat.reduceLT, not_false_eq_true], by simp only [evf, ne_eq, Nat.reduceEqDiff, Nat.reduceLT, not_false_eq_true], by simp only [evf, ne_eq, Nat.reduceEqDiff, Nat.reduceLT, not_false_eq_true]; rfl, by simp only [evf, ne_eq, Nat.reduceEqDiff, Nat.reduceLT, not_false_eq_true]; rfl⟩ ?_
  rintro I' hI' k f s ⟨i, last, cur, w, hk, hi, hri, heq, hcl, hw, hlast, f0, f3, f4, f5⟩
  refine ⟨k - 1, by omega, ?_⟩
  have hvs := hv.grw hw.1
  have lvs := alen_rd hvs Try.underlying53
  by_cases hil : i < U.length
  · have d : decide ((i : Int) < U.length) = true := decide_eq_true (by omega)
    have hus : Rd Try.prog s 3 v (is (ns U)) (ns U).length := by rw [ns_length]; exact hvs
    obtain ⟨p1, p2⟩ := ix_is hus (i := i) (by rw [ns_length]; exact hil)
    have e : (ns U)[i]'(by rw [ns_length]; exact hil) = (U[i] : Int) := by simp [ns]
    rw [e] at p2
    rw [List.drop_eq_getElem_cons hil] at hri heq
    obtain ⟨r1, r2, r3⟩ := hri
    rw [dif] at heq
    have a1 : IntKind.i64.wrap ((i : Int) + 1) = ((i + 1 : Nat) : Int) := by rw [IntWalk.i64_in _ (by omega)]; rfl
    have a2 : IntKind.i64.wrap ((U[i] : Int) - last) = ((U[i] - last : Nat) : Int) := by rw [IntWalk.i64_in _ (by omega)]; omega
    obtain ⟨w2, s2, q1, q2, q3⟩ := appL hw [U[i] - last] (by simp only [List.length_cons, List.length_nil]; omega)
    have hus2 : Rd Try.prog s2 3 v (is (ns U)) (ns U).length := hus.gro q3
    obtain ⟨p3, p4⟩ := ix_is hus2 (i := i) (by rw [ns_length]; exact hil)
    rw [e] at p4
    simp only [is, ns, List.map_cons, List.map_nil, List.length_cons, List.length_nil, Nat.zero_add] at q1
    simp only [f0, f3, f4, f5, lvs, d, p1, p2, a1, a2, q1, p3, p4, evf,↓evp,evq,evr,fxa0,fxa1,fxa2,fxa3,fxu,fxn,fxl,↓fxp,lgc,absL,fitL,flatL,ares,ares1,ofVal,unSc,aload,afill,splice,abound,asI,elems,IntKind.bits,sortT,eqNil,closedL,allByte,patch,pendOK,numA,Value.cells,Value.oneCell',ibin,List.replicate,Option.elim,Nat.reduceAdd,Nat.reduceSub,Nat.reduceMul,Nat.reduceLT,Nat.reduceEqDiff,Nat.reduceLeDiff,Nat.reduceBEq,Int.reduceLE,Int.reduceLT,Int.reduceToNat,Int.reduceBNe,Int.reduceBEq,Int.reduceNeg,Int.reduceEq,Int.reduceNe,Nat.reduceBNe,Int.reduceAdd,Int.reduceSub,Int.reduceMul,Int.reducePow,Nat.reducePow,Int.reduceGT,Int.reduceGE,if_true,if_false,ite_true,ite_false,beq_self_eq_true,BEq.rfl,reduceCtorEq,eq_self,ne_eq,Function.comp_def,beq_iff_eq]
    exact hI' _ _ _ ⟨i + 1, U[i], cur ++ [U[i] - last], w2, by omega, hil, r3, by rw [heq]; simp, by simp; omega, q2, r2, by simp only [f0, evf, ne_eq, Nat.reduceEqDiff, Nat.reduceLT, not_false_eq_true], by simp only [evf, ne_eq, Nat.reduceEqDiff, Nat.reduceLT, not_false_eq_true], by simp only [evf, ne_eq, Nat.reduceEqDiff, Nat.reduceLT, not_false_eq_true], by simp only [evf, ne_eq, Nat.reduceEqDiff, Nat.reduceLT, not_false_eq_true]⟩
  · have d : decide ((i : Int) < U.length) = false := decide_eq_false (by omega)
    rw [List.drop_eq_nil_of_le (by omega), dif, List.append_nil] at heq
    simp only [f0, f3, f5, lvs, d, evf,↓evp,evq,evr,fxa0,fxa1,fxa2,fxa3,fxu,fxn,fxl,↓fxp,lgc,absL,fitL,flatL,ares,ares1,ofVal,unSc,aload,afill,splice,abound,asI,elems,IntKind.bits,sortT,eqNil,closedL,allByte,patch,pendOK,numA,Value.cells,Value.oneCell',ibin,List.replicate,Option.elim,Nat.reduceAdd,Nat.reduceSub,Nat.reduceMul,Nat.reduceLT,Nat.reduceEqDiff,Nat.reduceLeDiff,Nat.reduceBEq,Int.reduceLE,Int.reduceLT,Int.reduceToNat,Int.reduceBNe,Int.reduceBEq,Int.reduceNeg,Int.reduceEq,Int.reduceNe,Nat.reduceBNe,Int.reduceAdd,Int.reduceSub,Int.reduceMul,Int.reducePow,Nat.reducePow,Int.reduceGT,Int.reduceGE,if_true,if_false,ite_true,ite_false,beq_self_eq_true,BEq.rfl,reduceCtorEq,eq_self,ne_eq,Function.comp_def,beq_iff_eq]
    rw [heq] at hK
    exact hK _ _ hw
set_option maxHeartbeats 1000000 in
theorem q_numbersB {v : V} {L : List Nat} (hv : Rd Try.prog st 3 v (is (ns L)) L.length) (hL : L.length ≤ 1000) (hl : ∀ x ∈ L, x < 9223372036854775808) (hm : 1000 < m)
    (hK : ∀ w s, Buf Try.prog 5 st s w (bs (nb L)) (nb L).length → K w s) : acallF Try.prog pl (n + 2) m 85 [v] st K := by
  refine acallF_inF Try.func85 rfl Try.ntmps85 (by simp) ?_
  simp only [evf,↓evp,evq,evr,fxa0,fxa1,fxa2,fxa3,fxu,fxn,fxl,↓fxp,lgc,absL,fitL,flatL,ares,ares1,ofVal,unSc,aload,afill,splice,abound,asI,elems,IntKind.bits,sortT,eqNil,closedL,allByte,patch,pendOK,numA,Value.cells,Value.oneCell',ibin,List.replicate,Option.elim,Nat.reduceAdd,Nat.reduceSub,Nat.reduceMul,Nat.reduceLT,Nat.reduceEqDiff,Nat.reduceLeDiff,Nat.reduceBEq,Int.reduceLE,Int.reduceLT,Int.reduceToNat,Int.reduceBNe,Int.reduceBEq,Int.reduceNeg,Int.reduceEq,Int.reduceNe,Nat.reduceBNe,Int.reduceAdd,Int.reduceSub,Int.reduceMul,Int.reducePow,Nat.reducePow,Int.reduceGT,Int.reduceGE,if_true,if_false,ite_true,ite_false,beq_self_eq_true,BEq.rfl,reduceCtorEq,eq_self,ne_eq,Function.comp_def,beq_iff_eq]
  have B0 : Buf Try.prog 5 st (st ++ [.row 5 [] 0 0 false]) (.sl st.length 0 0 false) (bs (nb [])) (nb []).length := row_buf (get_new0 _ _) sz5 rfl (.push _ _) (Nat.le_refl _)
  refine aloop_forF (fun k f s => ∃ (i : Nat) (w : V), k + i = m ∧ i ≤ L.length ∧ Buf Try.prog 5 st s w (bs (nb (L.take i))) (nb (L.take i)).length ∧ f 0 = v ∧ f 3 = w ∧ f 4 = .sc (.int .i64 i)) ⟨0, .sl st.length 0 0 false, by omega, by omega, B0, by simp only [evf, ne_eq, Nat.reduceEqDiff, Nat.reduceLT, not_false_eq_true], by simp only [evf, ne_eq, Nat.reduceEqDiff, Nat.reduceLT, not_false_eq_true], by simp only [evf, ne_eq, Nat.reduceEqDiff, Nat.reduceLT, not_false_eq_true]; rfl⟩ ?_
  rintro I' hI' k f s ⟨i, w, hk, hi, hw, f0, f3, f4⟩
  refine ⟨k - 1, by omega, ?_⟩
  have hvs := hv.grw hw.1
  have lvs := alen_rd hvs Try.underlying53
  by_cases hil : i < L.length
  · have d : decide ((i : Int) < L.length) = true := decide_eq_true (by omega)
    have hus : Rd Try.prog s 3 v (is (ns L)) (ns L).length := by rw [ns_length]; exact hvs
    obtain ⟨p1, p2⟩ := ix_is hus (i := i) (by rw [ns_length]; exact hil)
    have e : (ns L)[i]'(by rw [ns_length]; exact hil) = (L[i] : Int) := by simp [ns]
    rw [e] at p2
    have hx := hl L[i] (List.getElem_mem hil)
    have a1 : IntKind.i64.wrap ((i : Int) + 1) = ((i + 1 : Nat) : Int) := by rw [IntWalk.i64_in _ (by omega)]; rfl
    have a2 : IntKind.u64.wrap (L[i] : Int) = (L[i] : Int) := IntWalk.u64_in _ (by omega)
    have hnl := nb_len (L.take i) (fun x hx => by have := hl x (List.take_subset _ _ hx); omega)
    rw [List.length_take] at hnl
    have hul := uvb_len L[i] (by omega)
    simp only [f0, f3, f4, lvs, d, p1, p2, a2, evf,↓evp,evq,evr,fxa0,fxa1,fxa2,fxa3,fxu,fxn,fxl,↓fxp,lgc,absL,fitL,flatL,ares,ares1,ofVal,unSc,aload,afill,splice,abound,asI,elems,IntKind.bits,sortT,eqNil,closedL,allByte,patch,pendOK,numA,Value.cells,Value.oneCell',ibin,List.replicate,Option.elim,Nat.reduceAdd,Nat.reduceSub,Nat.reduceMul,Nat.reduceLT,Nat.reduceEqDiff,Nat.reduceLeDiff,Nat.reduceBEq,Int.reduceLE,Int.reduceLT,Int.reduceToNat,Int.reduceBNe,Int.reduceBEq,Int.reduceNeg,Int.reduceEq,Int.reduceNe,Nat.reduceBNe,Int.reduceAdd,Int.reduceSub,Int.reduceMul,Int.reducePow,Nat.reducePow,Int.reduceGT,Int.reduceGE,if_true,if_false,ite_true,ite_false,beq_self_eq_true,BEq.rfl,reduceCtorEq,eq_self,ne_eq,Function.comp_def,beq_iff_eq]
    refine r_Uvarint (by omega) (by omega) fun w2 s2 hw2 => ?_
    obtain ⟨w3, s3, q1, q2, q3⟩ := app_rd (hw.grw hw2.1) hw2.rd (by omega)
    simp only [f4, q1, a1, evf,↓evp,evq,evr,fxa0,fxa1,fxa2,fxa3,fxu,fxn,fxl,↓fxp,lgc,absL,fitL,flatL,ares,ares1,ofVal,unSc,aload,afill,splice,abound,asI,elems,IntKind.bits,sortT,eqNil,closedL,allByte,patch,pendOK,numA,Value.cells,Value.oneCell',ibin,List.replicate,Option.elim,Nat.reduceAdd,Nat.reduceSub,Nat.reduceMul,Nat.reduceLT,Nat.reduceEqDiff,Nat.reduceLeDiff,Nat.reduceBEq,Int.reduceLE,Int.reduceLT,Int.reduceToNat,Int.reduceBNe,Int.reduceBEq,Int.reduceNeg,Int.reduceEq,Int.reduceNe,Nat.reduceBNe,Int.reduceAdd,Int.reduceSub,Int.reduceMul,Int.reducePow,Nat.reducePow,Int.reduceGT,Int.reduceGE,if_true,if_false,ite_true,ite_false,beq_self_eq_true,BEq.rfl,reduceCtorEq,eq_self,ne_eq,Function.comp_def,beq_iff_eq]
    have e2 : nb (L.take (i + 1)) = nb (L.take i) ++ uvb L[i] := by rw [nb, flatMap_take_succ _ _ hil]; rfl
    exact hI' _ _ _ ⟨i + 1, w3, by omega, hil, by rw [e2]; exact q2, by simp only [f0, evf, ne_eq, Nat.reduceEqDiff, Nat.reduceLT, not_false_eq_true], by simp only [evf, ne_eq, Nat.reduceEqDiff, Nat.reduceLT, not_false_eq_true], by simp only [evf, ne_eq, Nat.reduceEqDiff, Nat.reduceLT, not_false_eq_true]⟩
  · have d : decide ((i : Int) < L.length) = false := decide_eq_false (by omega)
    obtain rfl : i = L.length := by omega
    rw [List.take_length] at hw
    simp only [f0, f3, f4, lvs, d, evf,↓evp,evq,evr,fxa0,fxa1,fxa2,fxa3,fxu,fxn,fxl,↓fxp,lgc,absL,fitL,flatL,ares,ares1,ofVal,unSc,aload,afill,splice,abound,asI,elems,IntKind.bits,sortT,eqNil,closedL,allByte,patch,pendOK,numA,Value.cells,Value.oneCell',ibin,List.replicate,Option.elim,Nat.reduceAdd,Nat.reduceSub,Nat.reduceMul,Nat.reduceLT,Nat.reduceEqDiff,Nat.reduceLeDiff,Nat.reduceBEq,Int.reduceLE,Int.reduceLT,Int.reduceToNat,Int.reduceBNe,Int.reduceBEq,Int.reduceNeg,Int.reduceEq,Int.reduceNe,Nat.reduceBNe,Int.reduceAdd,Int.reduceSub,Int.reduceMul,Int.reducePow,Nat.reducePow,Int.reduceGT,Int.reduceGE,if_true,if_false,ite_true,ite_false,beq_self_eq_true,BEq.rfl,reduceCtorEq,eq_self,ne_eq,Function.comp_def,beq_iff_eq]
    exact hK _ _ hw
theorem q_numbers {v : V} {L : List Nat} (hv : Rd Try.prog st 3 v (is (ns L)) L.length) (hL : L.length ≤ 1000) (hl : ∀ x ∈ L, x < 9223372036854775808) (hm : 1000 < m)
    (hK : ∀ w s, Grw st s → Rd Try.prog s 5 w (bs (nb L)) (nb L).length → K w s) : acallF Try.prog pl (n + 2) m 85 [v] st K :=
  q_numbersB hv hL hl hm fun w s h => hK w s h.1 h.rd
end
/-! ### Chapter 24: a command's bytes, by the document, whole. -/
theorem cmdNums_len {c : Cmd} (h : checkB c = true) : (cmdNums c).length ≤ 100 := by
  obtain ⟨_, _, _, _, hp⟩ := check_facts h
  unfold partsB at hp
  simp only [Bool.and_eq_true] at hp
  have hu := hp.1.1.1.1
  have h2 : (if kU c.kind then c.units.length :: dif 0 (c.units.map Int.toNat) else []).length ≤ 65 := by
    split
    · rename_i hi
      rw [hi] at hu
      simp only [if_true, unitsB, Bool.and_eq_true] at hu
      have := hu.2
      simp [withinB] at this
      simp [dif_len]
      omega
    · simp
  unfold cmdNums
  simp only [List.length_append]
  have h1 : (if kI c.kind then [c.id.toNat] else []).length ≤ 1 := by split <;> simp
  have h3 : (if kA c.kind then [c.x.toNat, c.y.toNat] else []).length ≤ 2 := by split <;> simp
  have h4 : (if kZ c.kind then [c.w.toNat, c.h.toNat] else []).length ≤ 2 := by split <;> simp
  have h5 : (if kS c.kind then [c.cls.toNat, c.sz.toNat] else []).length ≤ 2 := by split <;> simp
  simp only [List.length_cons, List.length_nil]
  omega
/-- A place that is filled turns nothing that grows. -/
theorem buf_fill {P : Program} {e : TypeId} {s0 s : List Ob} {w : V} {ys : List V} {n j : Nat} {o : Ob} (h : Buf P e s0 s w ys n) (hj : s0.length ≤ j) (hz : s[j]? = some .gone) : Buf P e s0 (s.set j o) w ys n := by
  refine ⟨h.1.set hj o, ?_⟩
  rcases h.2 with ⟨h1, h2⟩ | ⟨id, lo, sz, k1, k2, k3, k4⟩
  · refine .inl ⟨?_, h2⟩
    rcases h1.cases with ⟨nil, full, rfl⟩ | ⟨id, off, full, zs, m, lo, fz, s', rfl, r1, r2, r3, hxs⟩
    · exact ⟨rfl, h1.2⟩
    · refine ⟨?_, h1.2⟩
      have hne : j ≠ id := fun he => by subst he; rw [hz] at r1; cases r1
      simp only [elems, List.getElem?_set_ne hne, r1, r2]
      rw [if_pos ⟨trivial, r3⟩, hxs]
  · have hne : j ≠ id := fun he => by subst he; rw [hz] at k3; cases k3
    exact .inr ⟨id, lo, sz, k1, k2, by rw [List.getElem?_set_ne hne]; exact k3, k4⟩
theorem nums_lt63 {c : Cmd} (h : checkB c = true) : ∀ x ∈ cmdNums c, x < 9223372036854775808 := by
  intro x hx
  have := nums_lt32 h x hx
  omega
section
variable {n m : Nat} {st : List Ob} {K : V → List Ob → Prop}
set_option maxHeartbeats 4000000 in
theorem q_Encode {c : Cmd} (hc : c.at_ st) (hm : 1000 < m) (hm2 : c.units.length < m) (h0 : checkB c = false → ∀ s, Grw st s → K (.tup [.tsl [] 0 true true, .sc (.int .i64 1)]) s)
    (h1 : checkB c = true → ∀ w s, Grw st s → Rd Try.prog s 5 w (bs (nb (cmdNums c))) (nb (cmdNums c)).length → K (.tup [w, .sc (.int .i64 0)]) s) : acallF Try.prog pl (n + 4) m 45 [.agg c.v] st K := by
  refine acallF_inF Try.func45 rfl Try.ntmps45 (by simp) ?_
  have g0 := Grw.push st [.cells c.v]
  have b0 : (st ++ [Ob.cells c.v])[st.length]? = some (.cells c.v) := get_new0 _ _
  have hc0 := hc.grw g0
  simp only [Cmd.v] at g0 b0 hc0
  simp only [Cmd.v, hc.one, hc.cv, evf,↓evp,evq,evr,fxa0,fxa1,fxa2,fxa3,fxu,fxn,fxl,↓fxp,lgc,absL,fitL,flatL,ares,ares1,ofVal,unSc,aload,afill,splice,abound,asI,elems,IntKind.bits,sortT,eqNil,closedL,allByte,patch,pendOK,numA,Value.cells,Value.oneCell',ibin,List.replicate,Option.elim,Nat.reduceAdd,Nat.reduceSub,Nat.reduceMul,Nat.reduceLT,Nat.reduceEqDiff,Nat.reduceLeDiff,Nat.reduceBEq,Int.reduceLE,Int.reduceLT,Int.reduceToNat,Int.reduceBNe,Int.reduceBEq,Int.reduceNeg,Int.reduceEq,Int.reduceNe,Nat.reduceBNe,Int.reduceAdd,Int.reduceSub,Int.reduceMul,Int.reducePow,Nat.reducePow,Int.reduceGT,Int.reduceGE,if_true,if_false,ite_true,ite_false,beq_self_eq_true,BEq.rfl,reduceCtorEq,eq_self,ne_eq,Function.comp_def,beq_iff_eq]
  refine q_May (c := c) hc0 hm2 fun s1 j1 => ?_
  rw [← check_may]
  have b1 := j1 _ _ b0
  have g1 := g0.trans j1
  cases e : checkB c
  · simp only [evf,↓evp,evq,evr,fxa0,fxa1,fxa2,fxa3,fxu,fxn,fxl,↓fxp,lgc,absL,fitL,flatL,ares,ares1,ofVal,unSc,aload,afill,splice,abound,asI,elems,IntKind.bits,sortT,eqNil,closedL,allByte,patch,pendOK,numA,Value.cells,Value.oneCell',ibin,List.replicate,Option.elim,Nat.reduceAdd,Nat.reduceSub,Nat.reduceMul,Nat.reduceLT,Nat.reduceEqDiff,Nat.reduceLeDiff,Nat.reduceBEq,Int.reduceLE,Int.reduceLT,Int.reduceToNat,Int.reduceBNe,Int.reduceBEq,Int.reduceNeg,Int.reduceEq,Int.reduceNe,Nat.reduceBNe,Int.reduceAdd,Int.reduceSub,Int.reduceMul,Int.reducePow,Nat.reducePow,Int.reduceGT,Int.reduceGE,if_true,if_false,ite_true,ite_false,beq_self_eq_true,BEq.rfl,reduceCtorEq,eq_self,ne_eq,Function.comp_def,beq_iff_eq]
    exact h0 e _ g1
  have h1 := h1 e
  have hlt := nums_lt e
  have hle := cmdNums_len e
  have hlt' : ∀ x ∈ cmdNums c, x < 9223372036854775808 := nums_lt63 e
  obtain ⟨⟨k0, k5⟩, ⟨t0, t1⟩, ⟨p0, p1⟩, ⟨s0, s5⟩, hpart⟩ := check_facts e
  obtain ⟨T, hT⟩ : ∃ T : Nat, c.tick = T := ⟨c.tick.toNat, by omega⟩
  obtain ⟨P, hP⟩ : ∃ T : Nat, c.player = T := ⟨c.player.toNat, by omega⟩
  obtain ⟨Q, hQ⟩ : ∃ T : Nat, c.seq = T := ⟨c.seq.toNat, by omega⟩
  unfold partsB at hpart
  have hk : c.kind = 1 ∨ c.kind = 2 ∨ c.kind = 3 ∨ c.kind = 4 ∨ c.kind = 5 := by omega
  rcases hk with hk | hk | hk | hk | hk
  · have fU : kU 1 = true := rfl
    have fA : kA 1 = true := rfl
    have fZ : kZ 1 = false := rfl
    have fI : kI 1 = false := rfl
    have fS : kS 1 = false := rfl
    simp only [hk, fU, fA, fZ, fI, fS, Bool.false_eq_true, if_true, if_false, Bool.and_eq_true, beq_iff_eq] at hpart
    have hxy : 0 ≤ c.x ∧ c.x < 128 ∧ 0 ≤ c.y ∧ c.y < 128 := by have := hpart.1.1.1.2; rw [has_cell] at this; simp [cellB] at this; omega
    obtain ⟨X, hX⟩ : ∃ T : Nat, c.x = T := ⟨c.x.toNat, by omega⟩
    obtain ⟨Y, hY⟩ : ∃ T : Nat, c.y = T := ⟨c.y.toNat, by omega⟩
    have hun := hpart.1.1.1.1
    simp only [unitsB, Bool.and_eq_true] at hun
    obtain ⟨U, hU, hris⟩ := go_rises c.units 0 hun.1
    have hul : c.units.length = U.length := by rw [hU, ns_length]
    have hu64 : U.length ≤ 64 := by have := hun.2; rw [hul] at this; simp [withinB] at this; omega
    have q1 : ((1 : Int) == 1) = true := rfl
    have q2 : ((1 : Int) == 2) = false := rfl
    have q3 : ((1 : Int) == 3) = false := rfl
    have q4 : ((1 : Int) == 4) = false := rfl
    have q5 : ((1 : Int) == 5) = false := rfl
    have B0 : Buf Try.prog 3 s1 (s1 ++ [.row 3 (is (ns [1, T, P, Q])) 4 0 false]) (.sl s1.length 0 4 false) (is (ns [1, T, P, Q])) ([1, T, P, Q] : List Nat).length := row_buf (get_new0 _ _) sz3 rfl (.push _ _) (Nat.le_refl _)
    have b2 := B0.1 _ _ b1
    have B0' : Buf Try.prog 3 s1 (s1 ++ [.row 3 (is (ns [1, T, P, Q])) 4 0 false, .gone]) (.sl s1.length 0 4 false) (is (ns [1, T, P, Q])) ([1, T, P, Q] : List Nat).length := row_buf (get_new0 _ _) sz3 rfl (.push _ _) (Nat.le_refl _)
    have b3 := B0'.1 _ _ b1
    have z0 := get_new s1 [.row 3 (is (ns [1, T, P, Q])) 4 0 false, .gone] 1
    simp only [List.getElem?_cons_succ, List.getElem?_cons_zero] at z0
    have hus : Rd Try.prog (s1 ++ [.row 3 (is (ns [1, T, P, Q])) 4 0 false, .gone]) 3 c.uv (is (ns U)) U.length := by have := (hc.grw (g1.trans B0'.1)).rd; rw [hU, ns_length] at this; exact this
    have b2' := b2
    have b3' := b3
    simp only [is, ns, List.map_cons, List.map_nil, Int.cast_ofNat_Int, Int.natCast_one] at b2' b3'
    simp only [b1, b2', b3', hk, hT, hP, hQ, hX, hY, q1, q2, q3, q4, q5, evf,↓evp,evq,evr,fxa0,fxa1,fxa2,fxa3,fxu,fxn,fxl,↓fxp,lgc,absL,fitL,flatL,ares,ares1,ofVal,unSc,aload,afill,splice,abound,asI,elems,IntKind.bits,sortT,eqNil,closedL,allByte,patch,pendOK,numA,Value.cells,Value.oneCell',ibin,List.replicate,Option.elim,Nat.reduceAdd,Nat.reduceSub,Nat.reduceMul,Nat.reduceLT,Nat.reduceEqDiff,Nat.reduceLeDiff,Nat.reduceBEq,Int.reduceLE,Int.reduceLT,Int.reduceToNat,Int.reduceBNe,Int.reduceBEq,Int.reduceNeg,Int.reduceEq,Int.reduceNe,Nat.reduceBNe,Int.reduceAdd,Int.reduceSub,Int.reduceMul,Int.reducePow,Nat.reducePow,Int.reduceGT,Int.reduceGE,if_true,if_false,ite_true,ite_false,beq_self_eq_true,BEq.rfl,reduceCtorEq,eq_self,ne_eq,Function.comp_def,beq_iff_eq]
    refine q_list (n := n + 2) hus hris hu64 (by omega) fun wl s2 hl => ?_
    have hg2 := hl.1
    have c2 := hg2 _ _ b3
    have z2 := hg2 _ _ z0
    obtain ⟨w2, s3, a1, B2, G2⟩ := appI (B0'.grw hl.1) (Z := U.length :: dif 0 U) hl.rd (by simp [dif_len]; omega)
    have c3 := G2.cells c2
    have z3 : s3[s1.length + 1]? = some .gone := by
      rcases G2 _ _ z2 with h | ⟨_, _, _, _, _, _, _, _, h, _⟩
      · exact h
      · cases h
    have F3 := buf_fill B2 (o := .row 3 (is (ns [X, Y])) 2 0 false) (by omega) z3
    obtain ⟨w4, s4, a4, B4, G4⟩ := appI F3 (Z := [X, Y]) (row_at (id := s1.length + 1) (l := [X, Y]) (get_set z3 _)) (by simp [dif_len]; omega)
    have hnum : cmdNums c = [1, T, P, Q] ++ (U.length :: dif 0 U) ++ [X, Y] := by
      simp [cmdNums, fU, fA, fZ, fI, fS, hk, hT, hP, hQ, hX, hY, hU, ns_toNat, ns_length]
    rw [← hnum] at B4
    obtain ⟨e4, x4, n4, l4, y4, z4⟩ : ∃ e4 x4 n4 l4 y4, s4[s1.length + 1]? = some (.row e4 x4 n4 l4 y4) := by
      rcases G4 _ _ (get_set z3 _) with h | ⟨_, _, _, _, _, _, _, _, _, h⟩
      · exact ⟨_, _, _, _, _, h⟩
      · exact ⟨_, _, _, _, _, h⟩
    simp only [is, ns, List.map_cons, List.map_nil, List.length_cons, List.length_nil, Nat.zero_add, Nat.reduceAdd] at a4
    simp only [b1, b2', b3', c2, c3, z2, z3, z4, hg2, hk, hT, hP, hQ, hX, hY, q1, q2, q3, q4, q5, a1, a4, evf,↓evp,evq,evr,fxa0,fxa1,fxa2,fxa3,fxu,fxn,fxl,↓fxp,lgc,absL,fitL,flatL,ares,ares1,ofVal,unSc,aload,afill,splice,abound,asI,elems,IntKind.bits,sortT,eqNil,closedL,allByte,patch,pendOK,numA,Value.cells,Value.oneCell',ibin,List.replicate,Option.elim,Nat.reduceAdd,Nat.reduceSub,Nat.reduceMul,Nat.reduceLT,Nat.reduceEqDiff,Nat.reduceLeDiff,Nat.reduceBEq,Int.reduceLE,Int.reduceLT,Int.reduceToNat,Int.reduceBNe,Int.reduceBEq,Int.reduceNeg,Int.reduceEq,Int.reduceNe,Nat.reduceBNe,Int.reduceAdd,Int.reduceSub,Int.reduceMul,Int.reducePow,Nat.reducePow,Int.reduceGT,Int.reduceGE,if_true,if_false,ite_true,ite_false,beq_self_eq_true,BEq.rfl,reduceCtorEq,eq_self,ne_eq,Function.comp_def,beq_iff_eq]
    refine q_numbers (n := n + 1) B4.rd (by omega) hlt' hm fun w5 s5 j5 hw5 => ?_
    simp only [evf,↓evp,evq,evr,fxa0,fxa1,fxa2,fxa3,fxu,fxn,fxl,↓fxp,lgc,absL,fitL,flatL,ares,ares1,ofVal,unSc,aload,afill,splice,abound,asI,elems,IntKind.bits,sortT,eqNil,closedL,allByte,patch,pendOK,numA,Value.cells,Value.oneCell',ibin,List.replicate,Option.elim,Nat.reduceAdd,Nat.reduceSub,Nat.reduceMul,Nat.reduceLT,Nat.reduceEqDiff,Nat.reduceLeDiff,Nat.reduceBEq,Int.reduceLE,Int.reduceLT,Int.reduceToNat,Int.reduceBNe,Int.reduceBEq,Int.reduceNeg,Int.reduceEq,Int.reduceNe,Nat.reduceBNe,Int.reduceAdd,Int.reduceSub,Int.reduceMul,Int.reducePow,Nat.reducePow,Int.reduceGT,Int.reduceGE,if_true,if_false,ite_true,ite_false,beq_self_eq_true,BEq.rfl,reduceCtorEq,eq_self,ne_eq,Function.comp_def,beq_iff_eq]
    exact h1 _ _ (g1.trans (B4.1.trans j5)) hw5
  · have fU : kU 2 = true := rfl
    have fA : kA 2 = false := rfl
    have fZ : kZ 2 = false := rfl
    have fI : kI 2 = false := rfl
    have fS : kS 2 = false := rfl
    simp only [hk, fU, fA, fZ, fI, fS, Bool.false_eq_true, if_true, if_false, Bool.and_eq_true, beq_iff_eq] at hpart
    have hun := hpart.1.1.1.1
    simp only [unitsB, Bool.and_eq_true] at hun
    obtain ⟨U, hU, hris⟩ := go_rises c.units 0 hun.1
    have hul : c.units.length = U.length := by rw [hU, ns_length]
    have hu64 : U.length ≤ 64 := by have := hun.2; rw [hul] at this; simp [withinB] at this; omega
    have q1 : ((2 : Int) == 1) = false := rfl
    have q2 : ((2 : Int) == 2) = true := rfl
    have q3 : ((2 : Int) == 3) = false := rfl
    have q4 : ((2 : Int) == 4) = false := rfl
    have q5 : ((2 : Int) == 5) = false := rfl
    have B0 : Buf Try.prog 3 s1 (s1 ++ [.row 3 (is (ns [2, T, P, Q])) 4 0 false]) (.sl s1.length 0 4 false) (is (ns [2, T, P, Q])) ([2, T, P, Q] : List Nat).length := row_buf (get_new0 _ _) sz3 rfl (.push _ _) (Nat.le_refl _)
    have b2 := B0.1 _ _ b1
    simp only [is, ns, List.map_cons, List.map_nil, Int.cast_ofNat_Int, Int.natCast_one] at b2
    simp only [b1, b2, hk, hT, hP, hQ, q1, q2, q3, q4, q5, evf,↓evp,evq,evr,fxa0,fxa1,fxa2,fxa3,fxu,fxn,fxl,↓fxp,lgc,absL,fitL,flatL,ares,ares1,ofVal,unSc,aload,afill,splice,abound,asI,elems,IntKind.bits,sortT,eqNil,closedL,allByte,patch,pendOK,numA,Value.cells,Value.oneCell',ibin,List.replicate,Option.elim,Nat.reduceAdd,Nat.reduceSub,Nat.reduceMul,Nat.reduceLT,Nat.reduceEqDiff,Nat.reduceLeDiff,Nat.reduceBEq,Int.reduceLE,Int.reduceLT,Int.reduceToNat,Int.reduceBNe,Int.reduceBEq,Int.reduceNeg,Int.reduceEq,Int.reduceNe,Nat.reduceBNe,Int.reduceAdd,Int.reduceSub,Int.reduceMul,Int.reducePow,Nat.reducePow,Int.reduceGT,Int.reduceGE,if_true,if_false,ite_true,ite_false,beq_self_eq_true,BEq.rfl,reduceCtorEq,eq_self,ne_eq,Function.comp_def,beq_iff_eq]
    have hus : Rd Try.prog (s1 ++ [.row 3 (is (ns [2, T, P, Q])) 4 0 false]) 3 c.uv (is (ns U)) U.length := by have := (hc.grw (g1.trans B0.1)).rd; rw [hU, ns_length] at this; exact this
    refine q_list (n := n + 2) hus hris hu64 (by omega) fun wl s2 hl => ?_
    obtain ⟨w2, s3, a1, B2, G2⟩ := appI (B0.grw hl.1) (Z := U.length :: dif 0 U) hl.rd (by simp [dif_len]; omega)
    have hnum : cmdNums c = [2, T, P, Q] ++ (U.length :: dif 0 U) := by
      simp [cmdNums, fU, fA, fZ, fI, fS, hk, hT, hP, hQ, hU, ns_toNat, ns_length]
    rw [← hnum] at B2
    simp only [hk, hT, hP, hQ, q1, q2, q3, q4, q5, a1, evf,↓evp,evq,evr,fxa0,fxa1,fxa2,fxa3,fxu,fxn,fxl,↓fxp,lgc,absL,fitL,flatL,ares,ares1,ofVal,unSc,aload,afill,splice,abound,asI,elems,IntKind.bits,sortT,eqNil,closedL,allByte,patch,pendOK,numA,Value.cells,Value.oneCell',ibin,List.replicate,Option.elim,Nat.reduceAdd,Nat.reduceSub,Nat.reduceMul,Nat.reduceLT,Nat.reduceEqDiff,Nat.reduceLeDiff,Nat.reduceBEq,Int.reduceLE,Int.reduceLT,Int.reduceToNat,Int.reduceBNe,Int.reduceBEq,Int.reduceNeg,Int.reduceEq,Int.reduceNe,Nat.reduceBNe,Int.reduceAdd,Int.reduceSub,Int.reduceMul,Int.reducePow,Nat.reducePow,Int.reduceGT,Int.reduceGE,if_true,if_false,ite_true,ite_false,beq_self_eq_true,BEq.rfl,reduceCtorEq,eq_self,ne_eq,Function.comp_def,beq_iff_eq]
    refine q_numbers (n := n + 1) B2.rd (by omega) hlt' hm fun w3 s4 j3 hw3 => ?_
    simp only [evf,↓evp,evq,evr,fxa0,fxa1,fxa2,fxa3,fxu,fxn,fxl,↓fxp,lgc,absL,fitL,flatL,ares,ares1,ofVal,unSc,aload,afill,splice,abound,asI,elems,IntKind.bits,sortT,eqNil,closedL,allByte,patch,pendOK,numA,Value.cells,Value.oneCell',ibin,List.replicate,Option.elim,Nat.reduceAdd,Nat.reduceSub,Nat.reduceMul,Nat.reduceLT,Nat.reduceEqDiff,Nat.reduceLeDiff,Nat.reduceBEq,Int.reduceLE,Int.reduceLT,Int.reduceToNat,Int.reduceBNe,Int.reduceBEq,Int.reduceNeg,Int.reduceEq,Int.reduceNe,Nat.reduceBNe,Int.reduceAdd,Int.reduceSub,Int.reduceMul,Int.reducePow,Nat.reducePow,Int.reduceGT,Int.reduceGE,if_true,if_false,ite_true,ite_false,beq_self_eq_true,BEq.rfl,reduceCtorEq,eq_self,ne_eq,Function.comp_def,beq_iff_eq]
    exact h1 _ _ (g1.trans (B2.1.trans j3)) hw3
  · have fU : kU 3 = false := rfl
    have fA : kA 3 = true := rfl
    have fZ : kZ 3 = true := rfl
    have fI : kI 3 = true := rfl
    have fS : kS 3 = false := rfl
    simp only [hk, fU, fA, fZ, fI, fS, Bool.false_eq_true, if_true, if_false, Bool.and_eq_true, beq_iff_eq] at hpart
    obtain ⟨I, hI⟩ : ∃ T : Nat, c.id = T := ⟨c.id.toNat, by simp [withinB] at hpart; omega⟩
    have hxy : 0 ≤ c.x ∧ c.x < 128 ∧ 0 ≤ c.y ∧ c.y < 128 := by have := hpart.1.1.1.2; rw [has_cell] at this; simp [cellB] at this; omega
    obtain ⟨X, hX⟩ : ∃ T : Nat, c.x = T := ⟨c.x.toNat, by omega⟩
    obtain ⟨Y, hY⟩ : ∃ T : Nat, c.y = T := ⟨c.y.toNat, by omega⟩
    have hwh : 1 ≤ c.w ∧ c.w ≤ 8 ∧ 1 ≤ c.h ∧ c.h ≤ 8 := by have := hpart.1.1.2; simp [withinB] at this; omega
    obtain ⟨W, hW⟩ : ∃ T : Nat, c.w = T := ⟨c.w.toNat, by omega⟩
    obtain ⟨H, hH⟩ : ∃ T : Nat, c.h = T := ⟨c.h.toNat, by omega⟩
    have q1 : ((3 : Int) == 1) = false := rfl
    have q2 : ((3 : Int) == 2) = false := rfl
    have q3 : ((3 : Int) == 3) = true := rfl
    have q4 : ((3 : Int) == 4) = false := rfl
    have q5 : ((3 : Int) == 5) = false := rfl
    have B0 : Buf Try.prog 3 s1 (s1 ++ [.row 3 (is (ns [3, T, P, Q])) 4 0 false]) (.sl s1.length 0 4 false) (is (ns [3, T, P, Q])) ([3, T, P, Q] : List Nat).length := row_buf (get_new0 _ _) sz3 rfl (.push _ _) (Nat.le_refl _)
    have b2 := B0.1 _ _ b1
    obtain ⟨w2, s2, a1, B2, G2⟩ := appL B0 [I, X, Y, W, H] (by simp)
    simp only [is, ns, List.map_cons, List.map_nil, List.length_cons, List.length_nil, Nat.zero_add, Nat.reduceAdd, Int.cast_ofNat_Int, Int.natCast_one] at b2
    simp only [is, ns, List.map_cons, List.map_nil, List.length_cons, List.length_nil, Nat.zero_add, Nat.reduceAdd, Int.cast_ofNat_Int, Int.natCast_one, List.append_assoc, List.cons_append, List.nil_append, List.length_append] at a1
    have hnum : cmdNums c = [3, T, P, Q] ++ [I, X, Y, W, H] := by
      simp [cmdNums, fU, fA, fZ, fI, fS, hk, hT, hP, hQ, hI, hX, hY, hW, hH]
    rw [← hnum] at B2
    simp only [b1, b2, hk, hT, hP, hQ, hI, hX, hY, hW, hH, q1, q2, q3, q4, q5, a1, evf,↓evp,evq,evr,fxa0,fxa1,fxa2,fxa3,fxu,fxn,fxl,↓fxp,lgc,absL,fitL,flatL,ares,ares1,ofVal,unSc,aload,afill,splice,abound,asI,elems,IntKind.bits,sortT,eqNil,closedL,allByte,patch,pendOK,numA,Value.cells,Value.oneCell',ibin,List.replicate,Option.elim,Nat.reduceAdd,Nat.reduceSub,Nat.reduceMul,Nat.reduceLT,Nat.reduceEqDiff,Nat.reduceLeDiff,Nat.reduceBEq,Int.reduceLE,Int.reduceLT,Int.reduceToNat,Int.reduceBNe,Int.reduceBEq,Int.reduceNeg,Int.reduceEq,Int.reduceNe,Nat.reduceBNe,Int.reduceAdd,Int.reduceSub,Int.reduceMul,Int.reducePow,Nat.reducePow,Int.reduceGT,Int.reduceGE,if_true,if_false,ite_true,ite_false,beq_self_eq_true,BEq.rfl,reduceCtorEq,eq_self,ne_eq,Function.comp_def,beq_iff_eq]
    refine q_numbers (n := n + 1) B2.rd (by omega) hlt' hm fun w3 s3 j3 hw3 => ?_
    simp only [evf,↓evp,evq,evr,fxa0,fxa1,fxa2,fxa3,fxu,fxn,fxl,↓fxp,lgc,absL,fitL,flatL,ares,ares1,ofVal,unSc,aload,afill,splice,abound,asI,elems,IntKind.bits,sortT,eqNil,closedL,allByte,patch,pendOK,numA,Value.cells,Value.oneCell',ibin,List.replicate,Option.elim,Nat.reduceAdd,Nat.reduceSub,Nat.reduceMul,Nat.reduceLT,Nat.reduceEqDiff,Nat.reduceLeDiff,Nat.reduceBEq,Int.reduceLE,Int.reduceLT,Int.reduceToNat,Int.reduceBNe,Int.reduceBEq,Int.reduceNeg,Int.reduceEq,Int.reduceNe,Nat.reduceBNe,Int.reduceAdd,Int.reduceSub,Int.reduceMul,Int.reducePow,Nat.reducePow,Int.reduceGT,Int.reduceGE,if_true,if_false,ite_true,ite_false,beq_self_eq_true,BEq.rfl,reduceCtorEq,eq_self,ne_eq,Function.comp_def,beq_iff_eq]
    exact h1 _ _ (g1.trans (B2.1.trans j3)) hw3
  · have fU : kU 4 = false := rfl
    have fA : kA 4 = false := rfl
    have fZ : kZ 4 = false := rfl
    have fI : kI 4 = true := rfl
    have fS : kS 4 = false := rfl
    simp only [hk, fU, fA, fZ, fI, fS, Bool.false_eq_true, if_true, if_false, Bool.and_eq_true, beq_iff_eq] at hpart
    obtain ⟨I, hI⟩ : ∃ T : Nat, c.id = T := ⟨c.id.toNat, by simp [withinB] at hpart; omega⟩
    have q1 : ((4 : Int) == 1) = false := rfl
    have q2 : ((4 : Int) == 2) = false := rfl
    have q3 : ((4 : Int) == 3) = false := rfl
    have q4 : ((4 : Int) == 4) = true := rfl
    have q5 : ((4 : Int) == 5) = false := rfl
    have B0 : Buf Try.prog 3 s1 (s1 ++ [.row 3 (is (ns [4, T, P, Q])) 4 0 false]) (.sl s1.length 0 4 false) (is (ns [4, T, P, Q])) ([4, T, P, Q] : List Nat).length := row_buf (get_new0 _ _) sz3 rfl (.push _ _) (Nat.le_refl _)
    have b2 := B0.1 _ _ b1
    obtain ⟨w2, s2, a1, B2, G2⟩ := appL B0 [I] (by simp)
    simp only [is, ns, List.map_cons, List.map_nil, List.length_cons, List.length_nil, Nat.zero_add, Nat.reduceAdd, Int.cast_ofNat_Int, Int.natCast_one] at b2
    simp only [is, ns, List.map_cons, List.map_nil, List.length_cons, List.length_nil, Nat.zero_add, Nat.reduceAdd, Int.cast_ofNat_Int, Int.natCast_one, List.append_assoc, List.cons_append, List.nil_append, List.length_append] at a1
    have hnum : cmdNums c = [4, T, P, Q] ++ [I] := by
      simp [cmdNums, fU, fA, fZ, fI, fS, hk, hT, hP, hQ, hI]
    rw [← hnum] at B2
    simp only [b1, b2, hk, hT, hP, hQ, hI, q1, q2, q3, q4, q5, a1, evf,↓evp,evq,evr,fxa0,fxa1,fxa2,fxa3,fxu,fxn,fxl,↓fxp,lgc,absL,fitL,flatL,ares,ares1,ofVal,unSc,aload,afill,splice,abound,asI,elems,IntKind.bits,sortT,eqNil,closedL,allByte,patch,pendOK,numA,Value.cells,Value.oneCell',ibin,List.replicate,Option.elim,Nat.reduceAdd,Nat.reduceSub,Nat.reduceMul,Nat.reduceLT,Nat.reduceEqDiff,Nat.reduceLeDiff,Nat.reduceBEq,Int.reduceLE,Int.reduceLT,Int.reduceToNat,Int.reduceBNe,Int.reduceBEq,Int.reduceNeg,Int.reduceEq,Int.reduceNe,Nat.reduceBNe,Int.reduceAdd,Int.reduceSub,Int.reduceMul,Int.reducePow,Nat.reducePow,Int.reduceGT,Int.reduceGE,if_true,if_false,ite_true,ite_false,beq_self_eq_true,BEq.rfl,reduceCtorEq,eq_self,ne_eq,Function.comp_def,beq_iff_eq]
    refine q_numbers (n := n + 1) B2.rd (by omega) hlt' hm fun w3 s3 j3 hw3 => ?_
    simp only [evf,↓evp,evq,evr,fxa0,fxa1,fxa2,fxa3,fxu,fxn,fxl,↓fxp,lgc,absL,fitL,flatL,ares,ares1,ofVal,unSc,aload,afill,splice,abound,asI,elems,IntKind.bits,sortT,eqNil,closedL,allByte,patch,pendOK,numA,Value.cells,Value.oneCell',ibin,List.replicate,Option.elim,Nat.reduceAdd,Nat.reduceSub,Nat.reduceMul,Nat.reduceLT,Nat.reduceEqDiff,Nat.reduceLeDiff,Nat.reduceBEq,Int.reduceLE,Int.reduceLT,Int.reduceToNat,Int.reduceBNe,Int.reduceBEq,Int.reduceNeg,Int.reduceEq,Int.reduceNe,Nat.reduceBNe,Int.reduceAdd,Int.reduceSub,Int.reduceMul,Int.reducePow,Nat.reducePow,Int.reduceGT,Int.reduceGE,if_true,if_false,ite_true,ite_false,beq_self_eq_true,BEq.rfl,reduceCtorEq,eq_self,ne_eq,Function.comp_def,beq_iff_eq]
    exact h1 _ _ (g1.trans (B2.1.trans j3)) hw3
  · have fU : kU 5 = false := rfl
    have fA : kA 5 = true := rfl
    have fZ : kZ 5 = false := rfl
    have fI : kI 5 = true := rfl
    have fS : kS 5 = true := rfl
    simp only [hk, fU, fA, fZ, fI, fS, Bool.false_eq_true, if_true, if_false, Bool.and_eq_true, beq_iff_eq] at hpart
    obtain ⟨I, hI⟩ : ∃ T : Nat, c.id = T := ⟨c.id.toNat, by simp [withinB] at hpart; omega⟩
    have hxy : 0 ≤ c.x ∧ c.x < 128 ∧ 0 ≤ c.y ∧ c.y < 128 := by have := hpart.1.1.1.2; rw [has_cell] at this; simp [cellB] at this; omega
    obtain ⟨X, hX⟩ : ∃ T : Nat, c.x = T := ⟨c.x.toNat, by omega⟩
    obtain ⟨Y, hY⟩ : ∃ T : Nat, c.y = T := ⟨c.y.toNat, by omega⟩
    have hcz : 0 ≤ c.cls ∧ c.cls < 4 ∧ 1 ≤ c.sz ∧ c.sz ≤ 4 := by have := hpart.2; simp [shapeB] at this; omega
    obtain ⟨C, hC⟩ : ∃ T : Nat, c.cls = T := ⟨c.cls.toNat, by omega⟩
    obtain ⟨Z, hZ⟩ : ∃ T : Nat, c.sz = T := ⟨c.sz.toNat, by omega⟩
    have q1 : ((5 : Int) == 1) = false := rfl
    have q2 : ((5 : Int) == 2) = false := rfl
    have q3 : ((5 : Int) == 3) = false := rfl
    have q4 : ((5 : Int) == 4) = false := rfl
    have q5 : ((5 : Int) == 5) = true := rfl
    have B0 : Buf Try.prog 3 s1 (s1 ++ [.row 3 (is (ns [5, T, P, Q])) 4 0 false]) (.sl s1.length 0 4 false) (is (ns [5, T, P, Q])) ([5, T, P, Q] : List Nat).length := row_buf (get_new0 _ _) sz3 rfl (.push _ _) (Nat.le_refl _)
    have b2 := B0.1 _ _ b1
    obtain ⟨w2, s2, a1, B2, G2⟩ := appL B0 [I, X, Y, C, Z] (by simp)
    simp only [is, ns, List.map_cons, List.map_nil, List.length_cons, List.length_nil, Nat.zero_add, Nat.reduceAdd, Int.cast_ofNat_Int, Int.natCast_one] at b2
    simp only [is, ns, List.map_cons, List.map_nil, List.length_cons, List.length_nil, Nat.zero_add, Nat.reduceAdd, Int.cast_ofNat_Int, Int.natCast_one, List.append_assoc, List.cons_append, List.nil_append, List.length_append] at a1
    have hnum : cmdNums c = [5, T, P, Q] ++ [I, X, Y, C, Z] := by
      simp [cmdNums, fU, fA, fZ, fI, fS, hk, hT, hP, hQ, hI, hX, hY, hC, hZ]
    rw [← hnum] at B2
    simp only [b1, b2, hk, hT, hP, hQ, hI, hX, hY, hC, hZ, q1, q2, q3, q4, q5, a1, evf,↓evp,evq,evr,fxa0,fxa1,fxa2,fxa3,fxu,fxn,fxl,↓fxp,lgc,absL,fitL,flatL,ares,ares1,ofVal,unSc,aload,afill,splice,abound,asI,elems,IntKind.bits,sortT,eqNil,closedL,allByte,patch,pendOK,numA,Value.cells,Value.oneCell',ibin,List.replicate,Option.elim,Nat.reduceAdd,Nat.reduceSub,Nat.reduceMul,Nat.reduceLT,Nat.reduceEqDiff,Nat.reduceLeDiff,Nat.reduceBEq,Int.reduceLE,Int.reduceLT,Int.reduceToNat,Int.reduceBNe,Int.reduceBEq,Int.reduceNeg,Int.reduceEq,Int.reduceNe,Nat.reduceBNe,Int.reduceAdd,Int.reduceSub,Int.reduceMul,Int.reducePow,Nat.reducePow,Int.reduceGT,Int.reduceGE,if_true,if_false,ite_true,ite_false,beq_self_eq_true,BEq.rfl,reduceCtorEq,eq_self,ne_eq,Function.comp_def,beq_iff_eq]
    refine q_numbers (n := n + 1) B2.rd (by omega) hlt' hm fun w3 s3 j3 hw3 => ?_
    simp only [evf,↓evp,evq,evr,fxa0,fxa1,fxa2,fxa3,fxu,fxn,fxl,↓fxp,lgc,absL,fitL,flatL,ares,ares1,ofVal,unSc,aload,afill,splice,abound,asI,elems,IntKind.bits,sortT,eqNil,closedL,allByte,patch,pendOK,numA,Value.cells,Value.oneCell',ibin,List.replicate,Option.elim,Nat.reduceAdd,Nat.reduceSub,Nat.reduceMul,Nat.reduceLT,Nat.reduceEqDiff,Nat.reduceLeDiff,Nat.reduceBEq,Int.reduceLE,Int.reduceLT,Int.reduceToNat,Int.reduceBNe,Int.reduceBEq,Int.reduceNeg,Int.reduceEq,Int.reduceNe,Nat.reduceBNe,Int.reduceAdd,Int.reduceSub,Int.reduceMul,Int.reducePow,Nat.reducePow,Int.reduceGT,Int.reduceGE,if_true,if_false,ite_true,ite_false,beq_self_eq_true,BEq.rfl,reduceCtorEq,eq_self,ne_eq,Function.comp_def,beq_iff_eq]
    exact h1 _ _ (g1.trans (B2.1.trans j3)) hw3
end
/-! ### Chapter 24: the plain law: a command that is read. -/
/-- Units that are read: how many, the one ahead. -/
def rdL : Nat → Int → RS → List Int × RS
  | 0, _, r => ([], r)
  | k + 1, a, r => ((a + (r.nb 2147483647).1) :: (rdL k (a + (r.nb 2147483647).1) (r.nb 2147483647).2).1, (rdL k (a + (r.nb 2147483647).1) (r.nb 2147483647).2).2)
def rdIf (b : Bool) (r : RS) : Int × RS := if b then r.nb 2147483647 else (0, r)
def rdU (b : Bool) (r : RS) : List Int × RS := if b then rdL (r.nb 64).1.toNat 0 (r.nb 64).2 else ([], r)
/-- A command that is read. -/
def rdCmd (w : V) (r : RS) : Cmd × RS :=
  let k := r.nb 2147483647
  let t := k.2.nb 2147483647
  let p := t.2.nb 2147483647
  let q := p.2.nb 2147483647
  let i := rdIf (kI k.1) q.2
  let u := rdU (kU k.1) i.2
  let x := rdIf (kA k.1) u.2
  let y := rdIf (kA k.1) x.2
  let a := rdIf (kZ k.1) y.2
  let b := rdIf (kZ k.1) a.2
  let c := rdIf (kS k.1) b.2
  let z := rdIf (kS k.1) c.2
  (⟨t.1, p.1, q.1, k.1, w, u.1, x.1, y.1, a.1, b.1, i.1, c.1, z.1⟩, z.2)
theorem nb_canon {r : RS} {M : Int} (ho : r.ok) (h : (r.nb M).2.e = 0) : r.e = 0 ∧ 0 ≤ (r.nb M).1 ∧ (r.nb M).1 ≤ M ∧ r.b.drop r.at_ = nb [(r.nb M).1.toNat] ++ (r.nb M).2.b.drop (r.nb M).2.at_ := by
  unfold RS.nb at h ⊢
  by_cases he : r.e = 0
  · rw [if_pos he] at h ⊢
    by_cases hk : (pk (r.b.drop r.at_) 0 0).2 = 0
    · rw [if_pos hk] at h; exact absurd h (by simp)
    · rw [if_neg hk] at h ⊢
      by_cases hb : ((pk (r.b.drop r.at_) 0 0).1 : Int) > M ∨ M < 0
      · rw [if_pos hb] at h; exact absurd h (by simp)
      · rw [if_neg hb]
        obtain ⟨z, j, h1, h2, h3, _⟩ := pk_canon (r.b.drop r.at_) 0 0 (fun c hc => ho.b c (List.drop_subset _ _ hc)) hk
        refine ⟨he, by simp only; omega, by simp only; omega, ?_⟩
        simp only [Int.toNat_natCast, h1, h2, Nat.zero_add, Nat.pow_zero, Nat.mul_one]
        rw [← List.drop_drop, show nb [z] = uvb z by simp [nb], ← h3, List.take_append_drop]
  · rw [if_neg he] at h; exact absurd h he
theorem nb_e {r : RS} {M : Int} (h : (r.nb M).2.e = 0) : r.e = 0 := by
  unfold RS.nb at h
  by_cases he : r.e = 0
  · exact he
  · rw [if_neg he] at h; exact h
theorem rdIf_ok {b : Bool} {r : RS} (h : r.ok) : (rdIf b r).2.ok := by
  unfold rdIf; split
  · exact RS.nb_ok h _
  · exact h
theorem rdL_ok : ∀ (k : Nat) (a : Int) {r : RS}, r.ok → (rdL k a r).2.ok
  | 0, _, _, h => h
  | k + 1, a, r, h => rdL_ok k _ (RS.nb_ok h _)
theorem rdU_ok {b : Bool} {r : RS} (h : r.ok) : (rdU b r).2.ok := by
  unfold rdU; split
  · exact rdL_ok _ _ (RS.nb_ok h _)
  · exact h
theorem rdL_len : ∀ (k : Nat) (a : Int) (r : RS), (rdL k a r).1.length = k
  | 0, _, _ => rfl
  | k + 1, a, r => by simp [rdL, rdL_len k]
theorem rdIf_canon {b : Bool} {r : RS} (ho : r.ok) (h : (rdIf b r).2.e = 0) : r.e = 0 ∧ 0 ≤ (rdIf b r).1 ∧ r.b.drop r.at_ = nb (if b then [(rdIf b r).1.toNat] else []) ++ (rdIf b r).2.b.drop (rdIf b r).2.at_ := by
  cases b
  · exact ⟨h, Int.le_refl _, by simp [rdIf, nb]⟩
  · have := nb_canon ho h
    exact ⟨this.1, this.2.1, by simpa [rdIf] using this.2.2.2⟩
theorem rdL_canon : ∀ (k : Nat) (a : Nat) {r : RS}, r.ok → (rdL k a r).2.e = 0 → r.e = 0 ∧ r.b.drop r.at_ = nb (dif a ((rdL k a r).1.map Int.toNat)) ++ (rdL k a r).2.b.drop (rdL k a r).2.at_
  | 0, a, r, ho, h => ⟨h, by simp [rdL, dif, nb]⟩
  | k + 1, a, r, ho, h => by
    simp only [rdL] at h ⊢
    obtain ⟨X, hX⟩ : ∃ X : Nat, (r.nb 2147483647).1 = X := ⟨(r.nb 2147483647).1.toNat, by
      have : ∀ r : RS, 0 ≤ (r.nb 2147483647).1 := fun r => by
        unfold RS.nb; repeat' split
        all_goals simp
      have := this r
      omega⟩
    have e : (a : Int) + (r.nb 2147483647).1 = ((a + X : Nat) : Int) := by omega
    rw [e] at h ⊢
    obtain ⟨h1, h2⟩ := rdL_canon k (a + X) (RS.nb_ok ho _) h
    obtain ⟨h3, _, _, h4⟩ := nb_canon ho h1
    refine ⟨h3, ?_⟩
    rw [h4, h2, ← List.append_assoc, ← nb_append]
    congr 2
    simp only [List.map_cons, Int.toNat_natCast, dif, List.cons_append, List.nil_append, hX]
    congr 1
    omega
theorem rdU_canon {b : Bool} {r : RS} (ho : r.ok) (h : (rdU b r).2.e = 0) : r.e = 0 ∧ r.b.drop r.at_ = nb (if b then (rdU b r).1.length :: dif 0 ((rdU b r).1.map Int.toNat) else []) ++ (rdU b r).2.b.drop (rdU b r).2.at_ := by
  cases b
  · exact ⟨h, by simp [rdU, nb]⟩
  · simp only [rdU, if_true] at h ⊢
    obtain ⟨h1, h2⟩ := rdL_canon _ 0 (RS.nb_ok ho _) h
    obtain ⟨h3, h5, _, h4⟩ := nb_canon ho h1
    refine ⟨h3, ?_⟩
    rw [h4, h2, rdL_len, ← List.append_assoc, ← nb_append]
    rfl
theorem cmdNums_mk (t p q k : Int) (w : V) (u : List Int) (x y a b i c z : Int) : cmdNums ⟨t, p, q, k, w, u, x, y, a, b, i, c, z⟩ = [k.toNat, t.toNat, p.toNat, q.toNat] ++ (if kI k then [i.toNat] else []) ++ (if kU k then u.length :: dif 0 (u.map Int.toNat) else []) ++
  (if kA k then [x.toNat] else []) ++ (if kA k then [y.toNat] else []) ++ (if kZ k then [a.toNat] else []) ++ (if kZ k then [b.toNat] else []) ++ (if kS k then [c.toNat] else []) ++ (if kS k then [z.toNat] else []) := by
  simp only [cmdNums]
  split <;> split <;> split <;> split <;> split <;> simp_all
/-- What is read without fault is canonical. -/
theorem rd_canon {w : V} {r : RS} (ho : r.ok) (h : (rdCmd w r).2.e = 0) : r.e = 0 ∧ r.b.drop r.at_ = nb (cmdNums (rdCmd w r).1) ++ (rdCmd w r).2.b.drop (rdCmd w r).2.at_ := by
  have o1 := RS.nb_ok ho 2147483647
  have o2 := RS.nb_ok o1 2147483647
  have o3 := RS.nb_ok o2 2147483647
  have o4 := RS.nb_ok o3 2147483647
  simp only [rdCmd] at h
  have o5 := rdIf_ok (b := kI (r.nb 2147483647).1) o4
  have o6 := rdU_ok (b := kU (r.nb 2147483647).1) o5
  have o7 := rdIf_ok (b := kA (r.nb 2147483647).1) o6
  have o8 := rdIf_ok (b := kA (r.nb 2147483647).1) o7
  have o9 := rdIf_ok (b := kZ (r.nb 2147483647).1) o8
  have o10 := rdIf_ok (b := kZ (r.nb 2147483647).1) o9
  have o11 := rdIf_ok (b := kS (r.nb 2147483647).1) o10
  obtain ⟨e12, _, d12⟩ := rdIf_canon o11 h
  obtain ⟨e11, _, d11⟩ := rdIf_canon o10 e12
  obtain ⟨e10, _, d10⟩ := rdIf_canon o9 e11
  obtain ⟨e9, _, d9⟩ := rdIf_canon o8 e10
  obtain ⟨e8, _, d8⟩ := rdIf_canon o7 e9
  obtain ⟨e7, _, d7⟩ := rdIf_canon o6 e8
  obtain ⟨e6, d6⟩ := rdU_canon o5 e7
  obtain ⟨e5, _, d5⟩ := rdIf_canon o4 e6
  obtain ⟨e4, _, _, d4⟩ := nb_canon o3 e5
  obtain ⟨e3, _, _, d3⟩ := nb_canon o2 e4
  obtain ⟨e2, _, _, d2⟩ := nb_canon o1 e3
  obtain ⟨e1, _, _, d1⟩ := nb_canon ho e2
  refine ⟨e1, ?_⟩
  rw [d1, d2, d3, d4, d5, d6, d7, d8, d9, d10, d11, d12]
  simp only [rdCmd, cmdNums_mk, nb_append, List.append_assoc]
  simp only [nb, List.flatMap_cons, List.flatMap_nil, List.append_nil, List.append_assoc]
/-- Here it reads, and this is left. -/
def Pos (r : RS) (l : List Int) : Prop := r.e = 0 ∧ r.b.drop r.at_ = l
theorem nb_back {r : RS} {x : Nat} {M : Int} {l : List Int} (h : Pos r (uvb x ++ l)) (hx : (x : Int) ≤ M) (hM : M ≤ 2147483647) : (r.nb M).1 = x ∧ Pos (r.nb M).2 l := by
  obtain ⟨he, hd⟩ := h
  have := pk_back x 0 0 l (by omega) (by omega) (by omega)
  simp only [Nat.zero_add, Nat.pow_zero, Nat.mul_one] at this
  have hl : (uvb x).length ≠ 0 := fun e => uvb_ne x (List.eq_nil_of_length_eq_zero e)
  simp only [RS.nb, if_pos he, hd, this, if_neg hl]
  rw [if_neg (by omega)]
  refine ⟨rfl, he, ?_⟩
  simp only
  rw [← List.drop_drop, hd, List.drop_left]
theorem rdL_back : ∀ (U : List Nat) (a : Nat) {r : RS} {l : List Int}, rises a U → Pos r (nb (dif a U) ++ l) → (rdL U.length a r).1 = ns U ∧ Pos (rdL U.length a r).2 l
  | [], a, r, l, _, h => ⟨rfl, h⟩
  | x :: U, a, r, l, hr, h => by
    obtain ⟨h1, h2, h3⟩ := hr
    have h' : Pos r (uvb (x - a) ++ (nb (dif x U) ++ l)) := by simpa [dif, nb] using h
    obtain ⟨k1, k2⟩ := nb_back (M := 2147483647) h' (by omega) (by omega)
    have e : (a : Int) + (r.nb 2147483647).1 = (x : Int) := by omega
    simp only [List.length_cons, rdL, e]
    obtain ⟨k3, k4⟩ := rdL_back U x h3 k2
    exact ⟨by rw [k3]; rfl, k4⟩
theorem rdIf_back {b : Bool} {r : RS} {X : Nat} {l : List Int} (h : Pos r (nb (if b then [X] else []) ++ l)) (hx : X ≤ 2147483647) (h0 : b = false → X = 0) : (rdIf b r).1 = X ∧ Pos (rdIf b r).2 l := by
  cases b
  · rw [h0 rfl]
    exact ⟨rfl, by simpa [nb, rdIf] using h⟩
  · have h' : Pos r (uvb X ++ l) := by simpa [nb] using h
    simpa [rdIf] using nb_back (M := 2147483647) h' (by omega) (by omega)
theorem rdU_back {b : Bool} {r : RS} {U : List Nat} {l : List Int} (h : Pos r (nb (if b then U.length :: dif 0 U else []) ++ l)) (hU : b = true → rises 0 U ∧ U.length ≤ 64) (h0 : b = false → U = []) : (rdU b r).1 = ns U ∧ Pos (rdU b r).2 l := by
  cases b
  · rw [h0 rfl]
    exact ⟨rfl, by simpa [nb, rdU] using h⟩
  · obtain ⟨h1, h2⟩ := hU rfl
    have h' : Pos r (uvb U.length ++ (nb (dif 0 U) ++ l)) := by simpa [nb] using h
    obtain ⟨k1, k2⟩ := nb_back (M := 64) h' (by omega) (by omega)
    have := rdL_back U 0 h1 k2
    simpa [rdU, k1] using this
theorem check_nat {c : Cmd} (h : checkB c = true) : ∃ (K T P Q I X Y A B C Z : Nat) (U : List Nat), c = ⟨T, P, Q, K, c.uv, ns U, X, Y, A, B, I, C, Z⟩ ∧ (K ≤ 2147483647 ∧ T ≤ 2147483647 ∧ P ≤ 2147483647 ∧ Q ≤ 2147483647 ∧ I ≤ 2147483647 ∧ X ≤ 2147483647 ∧ Y ≤ 2147483647 ∧ A ≤ 2147483647 ∧ B ≤ 2147483647 ∧ C ≤ 2147483647 ∧ Z ≤ 2147483647) ∧
    (kI K = false → I = 0) ∧ (kA K = false → X = 0 ∧ Y = 0) ∧ (kZ K = false → A = 0 ∧ B = 0) ∧ (kS K = false → C = 0 ∧ Z = 0) ∧ (kU K = true → rises 0 U ∧ U.length ≤ 64) ∧ (kU K = false → U = []) := by
  obtain ⟨⟨k0, k5⟩, ⟨t0, t1⟩, ⟨p0, p1⟩, ⟨s0, s5⟩, hp⟩ := check_facts h
  unfold partsB at hp
  simp only [Bool.and_eq_true] at hp
  obtain ⟨⟨⟨⟨h1, h2⟩, h3⟩, h4⟩, h5⟩ := hp
  obtain ⟨K, hK⟩ : ∃ K : Nat, c.kind = K := ⟨c.kind.toNat, by omega⟩
  obtain ⟨T, hT⟩ : ∃ K : Nat, c.tick = K := ⟨c.tick.toNat, by omega⟩
  obtain ⟨P, hP⟩ : ∃ K : Nat, c.player = K := ⟨c.player.toNat, by omega⟩
  obtain ⟨Q, hQ⟩ : ∃ K : Nat, c.seq = K := ⟨c.seq.toNat, by omega⟩
  rw [hK] at h1 h2 h3 h4 h5
  obtain ⟨I, hI, I1, I0⟩ : ∃ I : Nat, c.id = I ∧ I ≤ 2147483647 ∧ (kI K = false → I = 0) := by
    cases e : kI K <;> rw [e] at h4
    · simp at h4; exact ⟨0, h4, by omega, fun _ => rfl⟩
    · simp [withinB] at h4; exact ⟨c.id.toNat, by omega, by omega, fun h => by cases h⟩
  obtain ⟨X, Y, hX, hY, X1, Y1, X0⟩ : ∃ X Y : Nat, c.x = X ∧ c.y = Y ∧ X ≤ 2147483647 ∧ Y ≤ 2147483647 ∧ (kA K = false → X = 0 ∧ Y = 0) := by
    cases e : kA K <;> rw [e] at h2
    · simp at h2; exact ⟨0, 0, h2.1, h2.2, by omega, by omega, fun _ => ⟨rfl, rfl⟩⟩
    · simp only [if_true, has_cell] at h2; simp [cellB] at h2; exact ⟨c.x.toNat, c.y.toNat, by omega, by omega, by omega, by omega, fun h => by cases h⟩
  obtain ⟨A, B, hA, hB, A1, B1, A0⟩ : ∃ X Y : Nat, c.w = X ∧ c.h = Y ∧ X ≤ 2147483647 ∧ Y ≤ 2147483647 ∧ (kZ K = false → X = 0 ∧ Y = 0) := by
    cases e : kZ K <;> rw [e] at h3
    · simp at h3; exact ⟨0, 0, h3.1, h3.2, by omega, by omega, fun _ => ⟨rfl, rfl⟩⟩
    · simp [withinB] at h3; exact ⟨c.w.toNat, c.h.toNat, by omega, by omega, by omega, by omega, fun h => by cases h⟩
  obtain ⟨C, Z, hC, hZ, C1, Z1, C0⟩ : ∃ X Y : Nat, c.cls = X ∧ c.sz = Y ∧ X ≤ 2147483647 ∧ Y ≤ 2147483647 ∧ (kS K = false → X = 0 ∧ Y = 0) := by
    cases e : kS K <;> rw [e] at h5
    · simp at h5; exact ⟨0, 0, h5.1, h5.2, by omega, by omega, fun _ => ⟨rfl, rfl⟩⟩
    · simp [shapeB] at h5; exact ⟨c.cls.toNat, c.sz.toNat, by omega, by omega, by omega, by omega, fun h => by cases h⟩
  obtain ⟨U, hU, U1, U0⟩ : ∃ U : List Nat, c.units = ns U ∧ (kU K = true → rises 0 U ∧ U.length ≤ 64) ∧ (kU K = false → U = []) := by
    cases e : kU K <;> rw [e] at h1
    · simp at h1; exact ⟨[], by simpa [ns] using h1, fun h => (by cases h), fun _ => rfl⟩
    · simp only [if_true, unitsB, Bool.and_eq_true] at h1
      obtain ⟨U, hU, hr⟩ := go_rises c.units 0 h1.1
      have hl := h1.2
      rw [hU, ns_length] at hl
      simp [withinB] at hl
      exact ⟨U, hU, fun _ => ⟨hr, by omega⟩, fun h => by cases h⟩
  refine ⟨K, T, P, Q, I, X, Y, A, B, C, Z, U, ?_, by omega, I0, X0, A0, C0, U1, U0⟩
  cases c
  simp_all
/-- What was written is what is read. -/
theorem rd_back {c : Cmd} (w : V) {r : RS} {l : List Int} (h : checkB c = true) (hp : Pos r (nb (cmdNums c) ++ l)) : (rdCmd w r).1 = { c with uv := w } ∧ Pos (rdCmd w r).2 l := by
  obtain ⟨K, T, P, Q, I, X, Y, A, B, C, Z, U, hc, ⟨k1, t1, p1, q1, i1, x1, y1, a1, b1, c1, z1⟩, I0, X0, A0, C0, U1, U0⟩ := check_nat h
  rw [hc, cmdNums_mk] at hp
  simp only [Int.toNat_natCast, ns_toNat, ns_length, nb_append, List.append_assoc, show ∀ a b c d : Nat, nb [a, b, c, d] = uvb a ++ (uvb b ++ (uvb c ++ uvb d)) from fun a b c d => by simp [nb]] at hp
  obtain ⟨e1, n1⟩ := nb_back (M := 2147483647) hp (by omega) (by omega)
  obtain ⟨e2, n2⟩ := nb_back (M := 2147483647) n1 (by omega) (by omega)
  obtain ⟨e3, n3⟩ := nb_back (M := 2147483647) n2 (by omega) (by omega)
  obtain ⟨e4, n4⟩ := nb_back (M := 2147483647) n3 (by omega) (by omega)
  obtain ⟨e5, n5⟩ := rdIf_back n4 i1 I0
  obtain ⟨e6, n6⟩ := rdU_back n5 U1 U0
  obtain ⟨e7, n7⟩ := rdIf_back n6 x1 fun h => (X0 h).1
  obtain ⟨e8, n8⟩ := rdIf_back n7 y1 fun h => (X0 h).2
  obtain ⟨e9, n9⟩ := rdIf_back n8 a1 fun h => (A0 h).1
  obtain ⟨e10, n10⟩ := rdIf_back n9 b1 fun h => (A0 h).2
  obtain ⟨e11, n11⟩ := rdIf_back n10 c1 fun h => (C0 h).1
  obtain ⟨e12, n12⟩ := rdIf_back n11 z1 fun h => (C0 h).2
  simp only [rdCmd, e1, e2, e3, e4, e5, e6, e7, e8, e9, e10, e11, e12, n12, and_true]
  rw [hc]
/-! ### Chapter 24: units are read, by the program: the loop. -/
section
variable {n m : Nat} {st : List Ob} {K : V → List Ob → Prop} {r : RS} {bv : V} {id : Nat}
theorem p_num {b : Nat} (ho : r.ok) (hr : st[id]? = some (.cells (r.c bv))) (hb : Cut Try.prog st 5 bv (bs r.b) r.b.length) (hm : 12 < m) (h1 : st[b]? = some (.cells [.ref id 0]))
    (h : ∀ s, Trn st id (RS.c bv (r.nb 2147483647).2) s → K (.sc (.int .i64 (r.nb 2147483647).1)) s) : acallF Try.prog pl (n + 4) m 94 [.ref b 0] st K := by
  refine acallF_inF Try.func94 rfl Try.ntmps94 (by simp) ?_
  simp only [h1, evf,↓evp,evq,evr,fxa0,fxa1,fxa2,fxa3,fxu,fxn,fxl,↓fxp,lgc,absL,fitL,flatL,ares,ares1,ofVal,unSc,aload,afill,splice,abound,asI,elems,IntKind.bits,sortT,eqNil,closedL,allByte,patch,pendOK,numA,Value.cells,Value.oneCell',ibin,List.replicate,Option.elim,Nat.reduceAdd,Nat.reduceSub,Nat.reduceMul,Nat.reduceLT,Nat.reduceEqDiff,Nat.reduceLeDiff,Nat.reduceBEq,Int.reduceLE,Int.reduceLT,Int.reduceToNat,Int.reduceBNe,Int.reduceBEq,Int.reduceNeg,Int.reduceEq,Int.reduceNe,Nat.reduceBNe,Int.reduceAdd,Int.reduceSub,Int.reduceMul,Int.reducePow,Nat.reducePow,Int.reduceGT,Int.reduceGE,if_true,if_false,ite_true,ite_false,beq_self_eq_true,BEq.rfl,reduceCtorEq,eq_self,ne_eq,Function.comp_def,beq_iff_eq]
  refine p_Number ho hr hb hm (by omega) fun s hs => ?_
  simp only [evf,↓evp,evq,evr,fxa0,fxa1,fxa2,fxa3,fxu,fxn,fxl,↓fxp,lgc,absL,fitL,flatL,ares,ares1,ofVal,unSc,aload,afill,splice,abound,asI,elems,IntKind.bits,sortT,eqNil,closedL,allByte,patch,pendOK,numA,Value.cells,Value.oneCell',ibin,List.replicate,Option.elim,Nat.reduceAdd,Nat.reduceSub,Nat.reduceMul,Nat.reduceLT,Nat.reduceEqDiff,Nat.reduceLeDiff,Nat.reduceBEq,Int.reduceLE,Int.reduceLT,Int.reduceToNat,Int.reduceBNe,Int.reduceBEq,Int.reduceNeg,Int.reduceEq,Int.reduceNe,Nat.reduceBNe,Int.reduceAdd,Int.reduceSub,Int.reduceMul,Int.reducePow,Nat.reducePow,Int.reduceGT,Int.reduceGE,if_true,if_false,ite_true,ite_false,beq_self_eq_true,BEq.rfl,reduceCtorEq,eq_self,ne_eq,Function.comp_def,beq_iff_eq]
  exact h s hs
end
/-- All rows are as they were. -/
def KeepR (s s' : List Ob) : Prop := ∀ (j : Nat) (e : TypeId) (xs : List V) (n lo : Nat) (fz : Bool), s[j]? = some (Ob.row e xs n lo fz) → s'[j]? = some (Ob.row e xs n lo fz)
theorem KeepR.trn {s s' : List Ob} {i : Nat} {c c0 : List V} (h0 : s[i]? = some (.cells c0)) (k : Trn s i c s') : KeepR s s' := fun j e xs n lo fz h => k.2 _ _ (fun he => by subst he; rw [h0] at h; cases h) h
theorem KeepR.set {s : List Ob} {i : Nat} {c c0 : List V} (h0 : s[i]? = some (.cells c0)) : KeepR s (s.set i (.cells c)) := fun j e xs n lo fz h => by
  have hne : i ≠ j := fun he => by subst he; rw [h0] at h; cases h
  rw [List.getElem?_set_ne hne]; exact h
theorem KeepR.grw {s s' : List Ob} (k : Grw s s') : KeepR s s' := fun j e xs n lo fz h => k _ _ h
theorem KeepR.trans {a b c : List Ob} (h : KeepR a b) (k : KeepR b c) : KeepR a c := fun j e xs n lo fz q => k _ _ _ _ _ _ (h _ _ _ _ _ _ q)
theorem Rd.keepR {P : Program} {st s : List Ob} {e : TypeId} {v : V} {xs : List V} {n : Nat} (h : Rd P st e v xs n) (k : KeepR st s) : Rd P s e v xs n := by
  rcases h.cases with ⟨nil, full, rfl⟩ | ⟨id, off, full, ys, m, lo, fz, s', rfl, h1, h2, h3, hxs⟩
  · exact ⟨rfl, h.2⟩
  · refine ⟨?_, h.2⟩
    simp only [elems, k _ _ _ _ _ _ h1, h2]
    rw [if_pos ⟨trivial, h3⟩, hxs]
theorem Buf.keepR {P : Program} {e : TypeId} {s0 s s0' s' : List Ob} {w : V} {ys : List V} {n : Nat} (h : Buf P e s0 s w ys n) (k : KeepR s s') (hl : s0'.length = s0.length) (hg : Grw s0' s') : Buf P e s0' s' w ys n := by
  refine ⟨hg, ?_⟩
  rcases h.2 with ⟨h1, h2⟩ | ⟨id, lo, sz, k1, k2, k3, k4⟩
  · exact .inl ⟨Rd.keepR h1 k, h2⟩
  · exact .inr ⟨id, lo, sz, by omega, k2, k _ _ _ _ _ _ k3, k4⟩
/-- Two variables have turned: the reader and the command. -/
def T2 (S : List Ob) (id cid : Nat) (a b : List V) : List Ob := (S.set id (.cells a)).set cid (.cells b)
section
variable {S s s' : List Ob} {id cid : Nat} {a a' b b' : List V}
theorem T2.len : (T2 S id cid a b).length = S.length := by simp [T2]
theorem T2.fst (hi : id < S.length) (hne : id ≠ cid) (h : Grw (T2 S id cid a b) s) : s[id]? = some (.cells a) := h _ _ (by rw [T2, List.getElem?_set_ne (Ne.symm hne), List.getElem?_set_self hi])
theorem T2.snd (hi : cid < S.length) (h : Grw (T2 S id cid a b) s) : s[cid]? = some (.cells b) := h _ _ (by rw [T2, List.getElem?_set_self (by simpa using hi)])
theorem T2.other {j : Nat} {o : Ob} (h : Grw (T2 S id cid a b) s) (h1 : j ≠ id) (h2 : j ≠ cid) (ho : S[j]? = some o) : s[j]? = some o := h _ _ (by rw [T2, List.getElem?_set_ne (Ne.symm h2), List.getElem?_set_ne (Ne.symm h1)]; exact ho)
theorem T2.of (h1 : s[id]? = some (.cells a)) (h2 : s[cid]? = some (.cells b)) (h3 : ∀ j o, j ≠ id → j ≠ cid → S[j]? = some o → s[j]? = some o) : Grw (T2 S id cid a b) s := by
  intro j o ho
  unfold T2 at ho
  by_cases hc : j = cid
  · subst hc
    rw [List.getElem?_set] at ho
    simp at ho
    obtain ⟨_, rfl⟩ := ho
    exact h2
  · rw [List.getElem?_set_ne (Ne.symm hc)] at ho
    by_cases hi : j = id
    · subst hi
      rw [List.getElem?_set] at ho
      simp at ho
      obtain ⟨_, rfl⟩ := ho
      exact h1
    · rw [List.getElem?_set_ne (Ne.symm hi)] at ho
      exact h3 j o hi hc ho
theorem T2.trn (hi : id < S.length) (hc : cid < S.length) (hne : id ≠ cid) (h : Grw (T2 S id cid a b) s) (k : Trn s id a' s') : Grw (T2 S id cid a' b) s' :=
  T2.of k.1 (k.2 _ _ (Ne.symm hne) (T2.snd hc h)) fun j o h1 h2 ho => k.2 _ _ h1 (T2.other h h1 h2 ho)
theorem T2.set (hi : id < S.length) (hc : cid < S.length) (hne : id ≠ cid) (h : Grw (T2 S id cid a b) s) : Grw (T2 S id cid a b') (s.set cid (.cells b')) :=
  T2.of (by rw [List.getElem?_set_ne (Ne.symm hne)]; exact T2.fst hi hne h) (get_set (T2.snd hc h) _) fun j o h1 h2 ho => by rw [List.getElem?_set_ne (Ne.symm h2)]; exact T2.other h h1 h2 ho
end
theorem nb_le {r : RS} : 0 ≤ (r.nb 2147483647).1 ∧ (r.nb 2147483647).1 ≤ 2147483647 := by
  unfold RS.nb
  repeat' split
  all_goals (try simp)
  all_goals omega
theorem rd_one {P : Program} {st : List Ob} {e : TypeId} {v : V} {xs : List V} {n : Nat} (h : Rd P st e v xs n) : one v = true ∧ cellsV v = [v] := by
  rcases h.cases with ⟨nil, full, rfl⟩ | ⟨id, off, full, ys, m, lo, fz, s', rfl, _, _, _, _⟩ <;> exact ⟨rfl, rfl⟩
def cellU (t p q k : Int) (w : V) : List V := [.sc (.int .i64 t), .sc (.int .i64 p), .sc (.int .i64 q), .sc (.int .i64 k), w, .sc (.int .i64 0), .sc (.int .i64 0), .sc (.int .i64 0), .sc (.int .i64 0), .sc (.int .i64 0), .sc (.int .i64 0), .sc (.int .i64 0)]
/-- How far the units are. -/
theorem rdL_step {k : Nat} {a : Int} {r : RS} {A R : List Int} {r' : RS} (h : (A ++ (rdL (k + 1) a r).1, (rdL (k + 1) a r).2) = (R, r')) : ((A ++ [a + (r.nb 2147483647).1]) ++ (rdL k (a + (r.nb 2147483647).1) (r.nb 2147483647).2).1, (rdL k (a + (r.nb 2147483647).1) (r.nb 2147483647).2).2) = (R, r') := by
  rw [← h]; simp [rdL]
section
variable {n m : Nat} {S : List Ob} {r : RS} {bv : V} {id cid L : Nat}
set_option maxHeartbeats 2000000 in
theorem read_loop {b : Code} (hb : fl (Try.f81.body.getD .skip) = some b) {K : ExK} {f : Nat → V} {t p q k0 : Int} {st : List Ob} {N : Nat} (hN : N ≤ 64) (hi : id < S.length) (hc : cid < S.length) (hne : id ≠ cid) (hL : S[L]? = some (.cells [.ref id 0])) (hL1 : L ≠ id) (hL2 : L ≠ cid)
    (ho : r.ok) (hbv : Cut Try.prog st 5 bv (bs r.b) r.b.length) (hg : Grw (T2 S id cid (r.c bv) (cellU t p q k0 (.tsl [] 0 true true))) st) (hm : 100 < m)
    (q3 : f 3 = .fn (.func 94) [.ref L 0]) (q4 : f 4 = .ref cid 0) (q7 : f 7 = .sc (.int .i64 0)) (q32 : f 32 = .sc (.int .i64 N)) (q33 : f 33 = .sc (.int .i64 0))
    (hx : ∀ f' s' w', Grw (T2 S id cid ((rdL N 0 r).2.c bv) (cellU t p q k0 w')) s' → Rd Try.prog s' 3 w' (is (rdL N 0 r).1) (rdL N 0 r).1.length → Cut Try.prog s' 5 bv (bs (rdL N 0 r).2.b) (rdL N 0 r).2.b.length → f' 2 = f 2 → f' 3 = f 3 → f' 4 = f 4 → f' 5 = f 5 → K (.exit 0) (ofF 71 f') s') :
    aloop (acode Try.prog (acallF Try.prog pl (n + 4) m) m (pl 81) b) m K (ofF 71 f) st := by
  simp only [Try.f81, Option.getD_some, fl, Option.some.injEq] at hb
  subst hb
  refine aloop_forF (fun k g s => ∃ (i : Nat) (a : Nat) (A : List Nat) (r' : RS) (w' : V), k + i = m ∧ i ≤ N ∧ a ≤ i * 2147483647 ∧ A.length = i ∧ (ns A ++ (rdL (N - i) a r').1, (rdL (N - i) a r').2) = rdL N 0 r ∧ r'.ok ∧ Cut Try.prog s 5 bv (bs r'.b) r'.b.length ∧
    Buf Try.prog 3 (T2 S id cid (r'.c bv) (cellU t p q k0 w')) s w' (is (ns A)) A.length ∧ g 2 = f 2 ∧ g 3 = f 3 ∧ g 4 = f 4 ∧ g 5 = f 5 ∧ g 7 = .sc (.int .i64 a) ∧ g 32 = .sc (.int .i64 N) ∧ g 33 = .sc (.int .i64 i)) ⟨0, 0, [], r, .tsl [] 0 true true, by omega, by omega, by omega, rfl, rfl, ho, hbv, ⟨hg, .inl ⟨⟨rfl, ⟨fun b hb => (by cases hb), fun _ => rfl⟩, fun s hs => (by simp [is, ns])⟩, rfl⟩⟩, rfl, rfl, rfl, rfl, q7, q32, q33⟩ ?_
  rintro I' hI' k g s ⟨i, a, A, r', w', hk, hiN, ha, hA, hr, hro, hcut, hbuf, g2, g3, g4, g5, g7, g32, g33⟩
  refine ⟨k - 1, by omega, ?_⟩
  by_cases hil : i < N
  · have d : decide ((i : Int) < N) = true := decide_eq_true (by omega)
    obtain ⟨M, hM⟩ : ∃ M, N - i = M + 1 := ⟨N - i - 1, by omega⟩
    rw [hM] at hr
    have hr2 := rdL_step (r' := (rdL N 0 r).2) (R := (rdL N 0 r).1) hr
    have hn := nb_le (r := r')
    obtain ⟨D, hD⟩ : ∃ D : Nat, (r'.nb 2147483647).1 = D := ⟨(r'.nb 2147483647).1.toNat, by omega⟩
    have g0 := hbuf.1
    have c0 := T2.fst hi hne g0
    have c1 := T2.snd hc g0
    have cL := T2.other g0 hL1 hL2 hL
    simp only [g3, g7, g32, g33, q3, d, evf,↓evp,evq,evr,fxa0,fxa1,fxa2,fxa3,fxu,fxn,fxl,↓fxp,lgc,absL,fitL,flatL,ares,ares1,ofVal,unSc,aload,afill,splice,abound,asI,elems,IntKind.bits,sortT,eqNil,closedL,allByte,patch,pendOK,numA,Value.cells,Value.oneCell',ibin,List.replicate,Option.elim,Nat.reduceAdd,Nat.reduceSub,Nat.reduceMul,Nat.reduceLT,Nat.reduceEqDiff,Nat.reduceLeDiff,Nat.reduceBEq,Int.reduceLE,Int.reduceLT,Int.reduceToNat,Int.reduceBNe,Int.reduceBEq,Int.reduceNeg,Int.reduceEq,Int.reduceNe,Nat.reduceBNe,Int.reduceAdd,Int.reduceSub,Int.reduceMul,Int.reducePow,Nat.reducePow,Int.reduceGT,Int.reduceGE,if_true,if_false,ite_true,ite_false,beq_self_eq_true,BEq.rfl,reduceCtorEq,eq_self,ne_eq,Function.comp_def,beq_iff_eq]
    refine p_num hro c0 hcut (by omega) cL fun s2 j2 => ?_
    have g02 := T2.trn hi hc hne g0 j2
    have b2 := Buf.keepR hbuf (KeepR.trn c0 j2) (by simp only [T2.len]) g02
    have cut2 := hcut.trn c0 j2
    rw [← RS.nb_b r' 2147483647] at cut2
    have c2 := T2.snd hc g02
    have e1 : IntKind.i64.wrap ((a : Int) + D) = ((a + D : Nat) : Int) := by rw [IntWalk.i64_in _ (by omega)]; rfl
    have e2 : IntKind.i64.wrap ((i : Int) + 1) = ((i + 1 : Nat) : Int) := by rw [IntWalk.i64_in _ (by omega)]; rfl
    obtain ⟨w3, s3, a3, B3, G3⟩ := appL b2 [a + D] (by simp; omega)
    have c3 := G3.cells c2
    obtain ⟨v1, v2⟩ := rd_one B3.rd
    have g03 : Grw (T2 S id cid ((r'.nb 2147483647).2.c bv) (cellU t p q k0 w')) s3 := B3.1
    have g04 := T2.set (b' := cellU t p q k0 w3) hi hc hne g03
    have b4 := Buf.keepR (s0' := T2 S id cid ((r'.nb 2147483647).2.c bv) (cellU t p q k0 w3)) B3 (KeepR.set (c := cellU t p q k0 w3) c3) (by simp only [T2.len]) g04
    have cut4 : Cut Try.prog (s3.set cid (.cells (cellU t p q k0 w3))) 5 bv (bs (r'.nb 2147483647).2.b) (r'.nb 2147483647).2.b.length := (cut2.gro G3).trn c3 (Trn.set c3)
    simp only [cellU] at c2 c3
    simp only [is, ns, List.map_cons, List.map_nil, List.length_cons, List.length_nil, Nat.zero_add] at a3
    simp only [hD, e1, e2, c2, c3, g4, g33, q4, a3, v1, v2, evf,↓evp,evq,evr,fxa0,fxa1,fxa2,fxa3,fxu,fxn,fxl,↓fxp,lgc,absL,fitL,flatL,ares,ares1,ofVal,unSc,aload,afill,splice,abound,asI,elems,IntKind.bits,sortT,eqNil,closedL,allByte,patch,pendOK,numA,Value.cells,Value.oneCell',ibin,List.replicate,Option.elim,Nat.reduceAdd,Nat.reduceSub,Nat.reduceMul,Nat.reduceLT,Nat.reduceEqDiff,Nat.reduceLeDiff,Nat.reduceBEq,Int.reduceLE,Int.reduceLT,Int.reduceToNat,Int.reduceBNe,Int.reduceBEq,Int.reduceNeg,Int.reduceEq,Int.reduceNe,Nat.reduceBNe,Int.reduceAdd,Int.reduceSub,Int.reduceMul,Int.reducePow,Nat.reducePow,Int.reduceGT,Int.reduceGE,if_true,if_false,ite_true,ite_false,beq_self_eq_true,BEq.rfl,reduceCtorEq,eq_self,ne_eq,Function.comp_def,beq_iff_eq]
    have hMi : N - (i + 1) = M := by omega
    refine hI' _ _ _ ⟨i + 1, a + D, A ++ [a + D], (r'.nb 2147483647).2, w3, by omega, hil, by omega, by simp [hA], ?_, RS.nb_ok hro _, cut4, b4, by simp only [g2, evf, ne_eq, Nat.reduceEqDiff, Nat.reduceLT, not_false_eq_true], by simp only [g3, evf, ne_eq, Nat.reduceEqDiff, Nat.reduceLT, not_false_eq_true], by simp only [g4, evf, ne_eq, Nat.reduceEqDiff, Nat.reduceLT, not_false_eq_true], by simp only [g5, evf, ne_eq, Nat.reduceEqDiff, Nat.reduceLT, not_false_eq_true], by simp only [evf, ne_eq, Nat.reduceEqDiff, Nat.reduceLT, not_false_eq_true], by simp only [g32, evf, ne_eq, Nat.reduceEqDiff, Nat.reduceLT, not_false_eq_true], by simp only [evf, ne_eq, Nat.reduceEqDiff, Nat.reduceLT, not_false_eq_true]⟩
    rw [hD] at hr2
    rw [hMi]
    rw [← Prod.eta (rdL N 0 r)]
    simpa [ns] using hr2
  · have d : decide ((i : Int) < N) = false := decide_eq_false (by omega)
    obtain rfl : i = N := by omega
    rw [Nat.sub_self] at hr
    simp only [rdL, List.append_nil] at hr
    simp only [g32, g33, d, evf,↓evp,evq,evr,fxa0,fxa1,fxa2,fxa3,fxu,fxn,fxl,↓fxp,lgc,absL,fitL,flatL,ares,ares1,ofVal,unSc,aload,afill,splice,abound,asI,elems,IntKind.bits,sortT,eqNil,closedL,allByte,patch,pendOK,numA,Value.cells,Value.oneCell',ibin,List.replicate,Option.elim,Nat.reduceAdd,Nat.reduceSub,Nat.reduceMul,Nat.reduceLT,Nat.reduceEqDiff,Nat.reduceLeDiff,Nat.reduceBEq,Int.reduceLE,Int.reduceLT,Int.reduceToNat,Int.reduceBNe,Int.reduceBEq,Int.reduceNeg,Int.reduceEq,Int.reduceNe,Nat.reduceBNe,Int.reduceAdd,Int.reduceSub,Int.reduceMul,Int.reducePow,Nat.reducePow,Int.reduceGT,Int.reduceGE,if_true,if_false,ite_true,ite_false,beq_self_eq_true,BEq.rfl,reduceCtorEq,eq_self,ne_eq,Function.comp_def,beq_iff_eq]
    rw [← hr] at hx
    exact hx _ _ w' hbuf.1 (by have := hbuf.rd; rw [← ns_length A] at this; exact this) hcut (by simp only [g2, evf, ne_eq, Nat.reduceEqDiff, Nat.reduceLT, not_false_eq_true]) (by simp only [g3, evf, ne_eq, Nat.reduceEqDiff, Nat.reduceLT, not_false_eq_true]) (by simp only [g4, evf, ne_eq, Nat.reduceEqDiff, Nat.reduceLT, not_false_eq_true]) (by simp only [g5, evf, ne_eq, Nat.reduceEqDiff, Nat.reduceLT, not_false_eq_true])
end
/-! ### Chapter 24: a command is read, by the program, whole. -/
section
variable {n m : Nat} {st : List Ob} {K : V → List Ob → Prop} {r r' : RS} {x : Int} {bv : V} {id : Nat}
/-- A reading: the reader's object, its bytes. -/
structure Rg (S : List Ob) (id cid : Nat) (bv : V) (r : RS) (cc : List V) (s : List Ob) : Prop where
  g : Grw (T2 S id cid (r.c bv) cc) s
  ok : r.ok
  cut : Cut Try.prog s 5 bv (bs r.b) r.b.length
structure Rs (S : List Ob) (id cid : Nat) : Prop where
  hi : id < S.length
  hc : cid < S.length
  hne : id ≠ cid
theorem Rg.set {S s : List Ob} {cid : Nat} {cc cc' : List V} (h : Rg S id cid bv r cc s) (w : Rs S id cid) : Rg S id cid bv r cc' (s.set cid (.cells cc')) :=
  ⟨T2.set w.hi w.hc w.hne h.g, h.ok, h.cut.trn (T2.snd w.hc h.g) (Trn.set (T2.snd w.hc h.g))⟩
theorem p_nm {b : Nat} (he : r.nb 2147483647 = (x, r')) (ho : r.ok) (hr : st[id]? = some (.cells (r.c bv))) (hb : Cut Try.prog st 5 bv (bs r.b) r.b.length) (hm : 12 < m) (h1 : st[b]? = some (.cells [.ref id 0]))
    (h : ∀ s, Trn st id (r'.c bv) s → r'.ok → Cut Try.prog s 5 bv (bs r'.b) r'.b.length → K (.sc (.int .i64 x)) s) : acallF Try.prog pl (n + 4) m 94 [.ref b 0] st K := by
  refine p_num ho hr hb hm h1 fun s j => ?_
  have k1 := RS.nb_ok ho 2147483647
  have k2 := RS.nb_b r 2147483647
  rw [he] at j k1 k2 ⊢
  refine h s j k1 ?_
  have := hb.trn hr j
  rw [← k2] at this
  exact this
theorem p_nm2 {S s : List Ob} {cid b : Nat} {cc : List V} (he : r.nb 2147483647 = (x, r')) (w : Rs S id cid) (hg : Rg S id cid bv r cc s) (hm : 12 < m) (h1 : s[b]? = some (.cells [.ref id 0]))
    (h : ∀ s, Rg S id cid bv r' cc s → K (.sc (.int .i64 x)) s) : acallF Try.prog pl (n + 4) m 94 [.ref b 0] s K :=
  p_nm he hg.ok (T2.fst w.hi w.hne hg.g) hg.cut hm h1 fun s' j ok cut => h s' ⟨T2.trn w.hi w.hc w.hne hg.g j, ok, cut⟩
theorem p_nm3 {S s : List Ob} {cid b : Nat} {cc : List V} (he : r.nb 2147483647 = (x, r')) (w : Rs S id cid) (hg : Rg S id cid bv r cc s) (hm : 12 < m) (h1 : s[b]? = some (.cells [.ref id 0]))
    (h : ∀ s', Rg S id cid bv r' cc s' → KeepR s s' → K (.sc (.int .i64 x)) s') : acallF Try.prog pl (n + 4) m 94 [.ref b 0] s K :=
  p_nm he hg.ok (T2.fst w.hi w.hne hg.g) hg.cut hm h1 fun s' j ok cut => h s' ⟨T2.trn w.hi w.hc w.hne hg.g j, ok, cut⟩ (KeepR.trn (T2.fst w.hi w.hne hg.g) j)
theorem nb64 (r : RS) : ∃ (N : Nat) (r' : RS), r.nb 64 = ((N : Int), r') ∧ N ≤ 64 := by
  unfold RS.nb
  repeat' split
  · exact ⟨0, _, rfl, by omega⟩
  · exact ⟨0, _, rfl, by omega⟩
  · exact ⟨_, _, rfl, by omega⟩
  · exact ⟨0, _, rfl, by omega⟩
def cellA (t p q k : Int) (w : V) (x y a b i c z : Int) : List V := [.sc (.int .i64 t), .sc (.int .i64 p), .sc (.int .i64 q), .sc (.int .i64 k), w, .sc (.int .i64 x), .sc (.int .i64 y), .sc (.int .i64 a), .sc (.int .i64 b), .sc (.int .i64 i), .sc (.int .i64 c), .sc (.int .i64 z)]
def zeroC : List V := cellU 0 0 0 0 (.tsl [] 0 true true)
set_option maxHeartbeats 2000000 in
theorem c_read (ho : r.ok) (hr : st[id]? = some (.cells (r.c bv))) (hb : Cut Try.prog st 5 bv (bs r.b) r.b.length) (hm : 100 < m)
    (hK : ∀ w s, Trn st id (RS.c bv (rdCmd w r).2) s → (rdCmd w r).1.at_ s → (rdCmd w r).2.ok → Cut Try.prog s 5 bv (bs (rdCmd w r).2.b) (rdCmd w r).2.b.length → K (.agg (rdCmd w r).1.v) s) : acallF Try.prog pl (n + 5) m 81 [.ref id 0] st K := by
  refine acallF_inF Try.func81 rfl Try.ntmps81 (by simp) ?_
  simp only [evf,↓evp,evq,evr,fxa0,fxa1,fxa2,fxa3,fxu,fxn,fxl,↓fxp,lgc,absL,fitL,flatL,ares,ares1,ofVal,unSc,aload,afill,splice,abound,asI,elems,IntKind.bits,sortT,eqNil,closedL,allByte,patch,pendOK,numA,Value.cells,Value.oneCell',ibin,List.replicate,Option.elim,Nat.reduceAdd,Nat.reduceSub,Nat.reduceMul,Nat.reduceLT,Nat.reduceEqDiff,Nat.reduceLeDiff,Nat.reduceBEq,Int.reduceLE,Int.reduceLT,Int.reduceToNat,Int.reduceBNe,Int.reduceBEq,Int.reduceNeg,Int.reduceEq,Int.reduceNe,Nat.reduceBNe,Int.reduceAdd,Int.reduceSub,Int.reduceMul,Int.reducePow,Nat.reducePow,Int.reduceGT,Int.reduceGE,if_true,if_false,ite_true,ite_false,beq_self_eq_true,BEq.rfl,reduceCtorEq,eq_self,ne_eq,Function.comp_def,beq_iff_eq]
  obtain ⟨k, r1, e1⟩ : ∃ k r1, r.nb 2147483647 = (k, r1) := ⟨_, _, rfl⟩
  obtain ⟨t, r2, e2⟩ : ∃ k rr, r1.nb 2147483647 = (k, rr) := ⟨_, _, rfl⟩
  obtain ⟨p, r3, e3⟩ : ∃ k rr, r2.nb 2147483647 = (k, rr) := ⟨_, _, rfl⟩
  obtain ⟨q, r4, e4⟩ : ∃ k rr, r3.nb 2147483647 = (k, rr) := ⟨_, _, rfl⟩
  have g0 := Grw.push st [.cells [.ref id 0], .cells zeroC]
  have f0 : (st ++ [Ob.cells [.ref id 0], .cells zeroC])[st.length]? = some (.cells [.ref id 0]) := get_new0 _ _
  have z0 : (st ++ [Ob.cells [.ref id 0], .cells zeroC])[st.length + 1]? = some (.cells zeroC) := by simp
  have hid := (List.getElem?_eq_some_iff.1 hr).1
  have r0 := g0 _ _ hr
  have b0 := hb.grw g0
  simp only [zeroC, cellU] at g0 f0 z0 r0 b0
  refine p_nm e1 ho r0 b0 (by omega) f0 fun s1 j1 o1 b1 => ?_
  simp only [evf,↓evp,evq,evr,fxa0,fxa1,fxa2,fxa3,fxu,fxn,fxl,↓fxp,lgc,absL,fitL,flatL,ares,ares1,ofVal,unSc,aload,afill,splice,abound,asI,elems,IntKind.bits,sortT,eqNil,closedL,allByte,patch,pendOK,numA,Value.cells,Value.oneCell',ibin,List.replicate,Option.elim,Nat.reduceAdd,Nat.reduceSub,Nat.reduceMul,Nat.reduceLT,Nat.reduceEqDiff,Nat.reduceLeDiff,Nat.reduceBEq,Int.reduceLE,Int.reduceLT,Int.reduceToNat,Int.reduceBNe,Int.reduceBEq,Int.reduceNeg,Int.reduceEq,Int.reduceNe,Nat.reduceBNe,Int.reduceAdd,Int.reduceSub,Int.reduceMul,Int.reducePow,Nat.reducePow,Int.reduceGT,Int.reduceGE,if_true,if_false,ite_true,ite_false,beq_self_eq_true,BEq.rfl,reduceCtorEq,eq_self,ne_eq,Function.comp_def,beq_iff_eq]
  refine p_nm e2 o1 j1.1 b1 (by omega) (j1.other f0 (by omega)) fun s2 j2 o2 b2 => ?_
  have j12 := j1.trans j2
  simp only [evf,↓evp,evq,evr,fxa0,fxa1,fxa2,fxa3,fxu,fxn,fxl,↓fxp,lgc,absL,fitL,flatL,ares,ares1,ofVal,unSc,aload,afill,splice,abound,asI,elems,IntKind.bits,sortT,eqNil,closedL,allByte,patch,pendOK,numA,Value.cells,Value.oneCell',ibin,List.replicate,Option.elim,Nat.reduceAdd,Nat.reduceSub,Nat.reduceMul,Nat.reduceLT,Nat.reduceEqDiff,Nat.reduceLeDiff,Nat.reduceBEq,Int.reduceLE,Int.reduceLT,Int.reduceToNat,Int.reduceBNe,Int.reduceBEq,Int.reduceNeg,Int.reduceEq,Int.reduceNe,Nat.reduceBNe,Int.reduceAdd,Int.reduceSub,Int.reduceMul,Int.reducePow,Nat.reducePow,Int.reduceGT,Int.reduceGE,if_true,if_false,ite_true,ite_false,beq_self_eq_true,BEq.rfl,reduceCtorEq,eq_self,ne_eq,Function.comp_def,beq_iff_eq]
  refine p_nm e3 o2 j2.1 b2 (by omega) (j12.other f0 (by omega)) fun s3 j3 o3 b3 => ?_
  have j13 := j12.trans j3
  simp only [evf,↓evp,evq,evr,fxa0,fxa1,fxa2,fxa3,fxu,fxn,fxl,↓fxp,lgc,absL,fitL,flatL,ares,ares1,ofVal,unSc,aload,afill,splice,abound,asI,elems,IntKind.bits,sortT,eqNil,closedL,allByte,patch,pendOK,numA,Value.cells,Value.oneCell',ibin,List.replicate,Option.elim,Nat.reduceAdd,Nat.reduceSub,Nat.reduceMul,Nat.reduceLT,Nat.reduceEqDiff,Nat.reduceLeDiff,Nat.reduceBEq,Int.reduceLE,Int.reduceLT,Int.reduceToNat,Int.reduceBNe,Int.reduceBEq,Int.reduceNeg,Int.reduceEq,Int.reduceNe,Nat.reduceBNe,Int.reduceAdd,Int.reduceSub,Int.reduceMul,Int.reducePow,Nat.reducePow,Int.reduceGT,Int.reduceGE,if_true,if_false,ite_true,ite_false,beq_self_eq_true,BEq.rfl,reduceCtorEq,eq_self,ne_eq,Function.comp_def,beq_iff_eq]
  refine p_nm e4 o3 j3.1 b3 (by omega) (j13.other f0 (by omega)) fun s4 j4 o4 b4 => ?_
  have j14 := j13.trans j4
  simp only [evf,↓evp,evq,evr,fxa0,fxa1,fxa2,fxa3,fxu,fxn,fxl,↓fxp,lgc,absL,fitL,flatL,ares,ares1,ofVal,unSc,aload,afill,splice,abound,asI,elems,IntKind.bits,sortT,eqNil,closedL,allByte,patch,pendOK,numA,Value.cells,Value.oneCell',ibin,List.replicate,Option.elim,Nat.reduceAdd,Nat.reduceSub,Nat.reduceMul,Nat.reduceLT,Nat.reduceEqDiff,Nat.reduceLeDiff,Nat.reduceBEq,Int.reduceLE,Int.reduceLT,Int.reduceToNat,Int.reduceBNe,Int.reduceBEq,Int.reduceNeg,Int.reduceEq,Int.reduceNe,Nat.reduceBNe,Int.reduceAdd,Int.reduceSub,Int.reduceMul,Int.reducePow,Nat.reducePow,Int.reduceGT,Int.reduceGE,if_true,if_false,ite_true,ite_false,beq_self_eq_true,BEq.rfl,reduceCtorEq,eq_self,ne_eq,Function.comp_def,beq_iff_eq]
  refine c_of (n := n + 2) fun s5 j5 => ?_
  have c5 := j5 _ _ (get_new0 s4 _)
  simp only [c5, kindV, bb, evf,↓evp,evq,evr,fxa0,fxa1,fxa2,fxa3,fxu,fxn,fxl,↓fxp,lgc,absL,fitL,flatL,ares,ares1,ofVal,unSc,aload,afill,splice,abound,asI,elems,IntKind.bits,sortT,eqNil,closedL,allByte,patch,pendOK,numA,Value.cells,Value.oneCell',ibin,List.replicate,Option.elim,Nat.reduceAdd,Nat.reduceSub,Nat.reduceMul,Nat.reduceLT,Nat.reduceEqDiff,Nat.reduceLeDiff,Nat.reduceBEq,Int.reduceLE,Int.reduceLT,Int.reduceToNat,Int.reduceBNe,Int.reduceBEq,Int.reduceNeg,Int.reduceEq,Int.reduceNe,Nat.reduceBNe,Int.reduceAdd,Int.reduceSub,Int.reduceMul,Int.reducePow,Nat.reducePow,Int.reduceGT,Int.reduceGE,if_true,if_false,ite_true,ite_false,beq_self_eq_true,BEq.rfl,reduceCtorEq,eq_self,ne_eq,Function.comp_def,beq_iff_eq]
  have lz := (List.getElem?_eq_some_iff.1 (j14.other z0 (by omega))).1
  have l5 := (List.getElem?_eq_some_iff.1 c5).1
  obtain ⟨S, hS⟩ : ∃ S, S = s5 ++ [Ob.cells [.sc (.bool (kU k)), .sc (.bool (kA k)), .sc (.bool (kZ k)), .sc (.bool (kI k)), .sc (.bool (kS k))]] := ⟨_, rfl⟩
  have S5 : Grw s5 S := by rw [hS]; exact .push _ _
  have S4 : Grw s4 S := (Grw.push _ _).trans (j5.trans S5)
  have lS : S.length = s5.length + 1 := by rw [hS]; simp
  have FL := S4 _ _ (j14.other f0 (by omega))
  have FZ := S4 _ _ (j14.other z0 (by omega))
  have FK : S[s5.length]? = some (.cells [.sc (.bool (kU k)), .sc (.bool (kA k)), .sc (.bool (kZ k)), .sc (.bool (kI k)), .sc (.bool (kS k))]) := by rw [hS]; exact get_new0 _ _
  have FC := S5 _ _ c5
  have w : Rs S id s4.length := ⟨by omega, by omega, by omega⟩
  have G0 : Rg S id s4.length bv r4 (cellU t p q k (.tsl [] 0 true true)) S := ⟨T2.of (S4 _ _ j4.1) FC fun j o _ _ h => h, o4, b4.grw S4⟩
  have FIN : ∀ (r' : RS) (cc : List V) (s : List Ob) (X : List V), Rg S id s4.length bv r' cc s → (∀ Y, (s.set (st.length + 1) (.cells Y))[st.length + 1]? = some (.cells Y)) ∧ Trn st id (r'.c bv) (s.set (st.length + 1) (.cells X)) ∧ KeepR s (s.set (st.length + 1) (.cells X)) ∧ Cut Try.prog (s.set (st.length + 1) (.cells X)) 5 bv (bs r'.b) r'.b.length := by
    intro r' cc s X G
    have z := T2.other G.g (by omega) (by omega) FZ
    refine ⟨fun Y => get_set z _, ⟨?_, fun j o hj ho => ?_⟩, KeepR.set z, G.cut.trn z (Trn.set z)⟩
    · rw [List.getElem?_set_ne (by omega)]; exact T2.fst w.hi w.hne G.g
    · have hjl := (List.getElem?_eq_some_iff.1 ho).1
      rw [List.getElem?_set_ne (by omega)]
      exact T2.other G.g hj (by omega) (S4 _ _ (j14.other (g0 _ _ ho) hj))
  have ALL : ∀ (r' : RS) (cc : List V) (s : List Ob), Rg S id s4.length bv r' cc s → s[s4.length]? = some (.cells cc) ∧ s[s5.length]? = some (.cells [.sc (.bool (kU k)), .sc (.bool (kA k)), .sc (.bool (kZ k)), .sc (.bool (kI k)), .sc (.bool (kS k))]) ∧ s[st.length]? = some (.cells [.ref id 0]) ∧ s[st.length + 1]? = some (.cells zeroC) := fun r' cc s G =>
    ⟨T2.snd w.hc G.g, T2.other G.g (by omega) (by omega) FK, T2.other G.g (by omega) (by omega) FL, T2.other G.g (by omega) (by omega) FZ⟩
  simp only [zeroC, cellU] at ALL
  rw [← hS]
  have hk : k = 1 ∨ k = 2 ∨ k = 3 ∨ k = 4 ∨ k = 5 ∨ (k ≠ 1 ∧ k ≠ 2 ∧ k ≠ 3 ∧ k ≠ 4 ∧ k ≠ 5) := by omega
  rcases hk with hk | hk | hk | hk | hk | hk
  · have qU : kU k = true := by simp [kU, hk]
    have qA : kA k = true := by simp [kA, hk]
    have qZ : kZ k = false := by simp [kZ, hk]
    have qI : kI k = false := by simp [kI, hk]
    have qS : kS k = false := by simp [kS, hk]
    obtain ⟨N, r5, e5, hN⟩ := nb64 r4
    obtain ⟨X, r6, e6⟩ : ∃ x r', (rdL N 0 r5).2.nb 2147483647 = (x, r') := ⟨_, _, rfl⟩
    obtain ⟨Y, r7, e7⟩ : ∃ x r', r6.nb 2147483647 = (x, r') := ⟨_, _, rfl⟩
    rw [qU, qA, qZ, qI, qS] at ALL FK
    simp only [qU, qA, qZ, qI, qS, FK, FC, FZ, FL, evf,↓evp,evq,evr,fxa0,fxa1,fxa2,fxa3,fxu,fxn,fxl,↓fxp,lgc,absL,fitL,flatL,ares,ares1,ofVal,unSc,aload,afill,splice,abound,asI,elems,IntKind.bits,sortT,eqNil,closedL,allByte,patch,pendOK,numA,Value.cells,Value.oneCell',ibin,List.replicate,Option.elim,Nat.reduceAdd,Nat.reduceSub,Nat.reduceMul,Nat.reduceLT,Nat.reduceEqDiff,Nat.reduceLeDiff,Nat.reduceBEq,Int.reduceLE,Int.reduceLT,Int.reduceToNat,Int.reduceBNe,Int.reduceBEq,Int.reduceNeg,Int.reduceEq,Int.reduceNe,Nat.reduceBNe,Int.reduceAdd,Int.reduceSub,Int.reduceMul,Int.reducePow,Nat.reducePow,Int.reduceGT,Int.reduceGE,if_true,if_false,ite_true,ite_false,beq_self_eq_true,BEq.rfl,reduceCtorEq,eq_self,ne_eq,Function.comp_def,beq_iff_eq]
    refine p_Number (n := n + 1) o4 (T2.fst w.hi w.hne G0.g) G0.cut (by omega) (by omega) fun s6 j6 => ?_
    have o5 := RS.nb_ok o4 64
    have b5 := RS.nb_b r4 64
    have G1 : Rg S id s4.length bv (r4.nb 64).2 (cellU t p q k (.tsl [] 0 true true)) s6 := ⟨T2.trn w.hi w.hc w.hne G0.g j6, o5, by rw [b5]; exact G0.cut.trn (T2.fst w.hi w.hne G0.g) j6⟩
    rw [e5] at G1 ⊢
    simp only at G1
    simp only [evf,↓evp,evq,evr,fxa0,fxa1,fxa2,fxa3,fxu,fxn,fxl,↓fxp,lgc,absL,fitL,flatL,ares,ares1,ofVal,unSc,aload,afill,splice,abound,asI,elems,IntKind.bits,sortT,eqNil,closedL,allByte,patch,pendOK,numA,Value.cells,Value.oneCell',ibin,List.replicate,Option.elim,Nat.reduceAdd,Nat.reduceSub,Nat.reduceMul,Nat.reduceLT,Nat.reduceEqDiff,Nat.reduceLeDiff,Nat.reduceBEq,Int.reduceLE,Int.reduceLT,Int.reduceToNat,Int.reduceBNe,Int.reduceBEq,Int.reduceNeg,Int.reduceEq,Int.reduceNe,Nat.reduceBNe,Int.reduceAdd,Int.reduceSub,Int.reduceMul,Int.reducePow,Nat.reducePow,Int.reduceGT,Int.reduceGE,if_true,if_false,ite_true,ite_false,beq_self_eq_true,BEq.rfl,reduceCtorEq,eq_self,ne_eq,Function.comp_def,beq_iff_eq]
    refine read_loop rfl (S := S) (id := id) (cid := s4.length) (L := st.length) (N := N) hN w.hi w.hc w.hne FL (by omega) (by omega) G1.ok G1.cut G1.g (by omega) (by simp only [evf, ne_eq, Nat.reduceEqDiff, Nat.reduceLT, not_false_eq_true]) (by simp only [evf, ne_eq, Nat.reduceEqDiff, Nat.reduceLT, not_false_eq_true]) (by simp only [evf, ne_eq, Nat.reduceEqDiff, Nat.reduceLT, not_false_eq_true]) (by simp only [evf, ne_eq, Nat.reduceEqDiff, Nat.reduceLT, not_false_eq_true]) (by simp only [evf, ne_eq, Nat.reduceEqDiff, Nat.reduceLT, not_false_eq_true]) fun f s w' g hw cut f2 f3 f4 f5 => ?_
    simp only [evf, ne_eq, Nat.reduceEqDiff, Nat.reduceLT, not_false_eq_true] at f2 f3 f4 f5
    have H1 : Rg S id s4.length bv (rdL N 0 r5).2 (cellU t p q k w') s := ⟨g, rdL_ok _ _ G1.ok, cut⟩
    obtain ⟨c1', k1', l1', z1'⟩ := ALL _ _ _ H1
    obtain ⟨v1, v2⟩ := rd_one hw
    simp only [cellU, cellA, nilU] at c1'
    simp only [f2, f3, f4, f5, c1', k1', z1', v1, v2, evf,↓evp,evq,evr,fxa0,fxa1,fxa2,fxa3,fxu,fxn,fxl,↓fxp,lgc,absL,fitL,flatL,ares,ares1,ofVal,unSc,aload,afill,splice,abound,asI,elems,IntKind.bits,sortT,eqNil,closedL,allByte,patch,pendOK,numA,Value.cells,Value.oneCell',ibin,List.replicate,Option.elim,Nat.reduceAdd,Nat.reduceSub,Nat.reduceMul,Nat.reduceLT,Nat.reduceEqDiff,Nat.reduceLeDiff,Nat.reduceBEq,Int.reduceLE,Int.reduceLT,Int.reduceToNat,Int.reduceBNe,Int.reduceBEq,Int.reduceNeg,Int.reduceEq,Int.reduceNe,Nat.reduceBNe,Int.reduceAdd,Int.reduceSub,Int.reduceMul,Int.reducePow,Nat.reducePow,Int.reduceGT,Int.reduceGE,if_true,if_false,ite_true,ite_false,beq_self_eq_true,BEq.rfl,reduceCtorEq,eq_self,ne_eq,Function.comp_def,beq_iff_eq]
    refine p_nm3 e6 w H1 (by omega) l1' fun s2 H2 K2 => ?_
    obtain ⟨c2', k2', l2', z2'⟩ := ALL _ _ _ H2
    simp only [cellU] at c2'
    simp only [f2, f3, f4, f5, c2', k2', z2', v1, v2, evf,↓evp,evq,evr,fxa0,fxa1,fxa2,fxa3,fxu,fxn,fxl,↓fxp,lgc,absL,fitL,flatL,ares,ares1,ofVal,unSc,aload,afill,splice,abound,asI,elems,IntKind.bits,sortT,eqNil,closedL,allByte,patch,pendOK,numA,Value.cells,Value.oneCell',ibin,List.replicate,Option.elim,Nat.reduceAdd,Nat.reduceSub,Nat.reduceMul,Nat.reduceLT,Nat.reduceEqDiff,Nat.reduceLeDiff,Nat.reduceBEq,Int.reduceLE,Int.reduceLT,Int.reduceToNat,Int.reduceBNe,Int.reduceBEq,Int.reduceNeg,Int.reduceEq,Int.reduceNe,Nat.reduceBNe,Int.reduceAdd,Int.reduceSub,Int.reduceMul,Int.reducePow,Nat.reducePow,Int.reduceGT,Int.reduceGE,if_true,if_false,ite_true,ite_false,beq_self_eq_true,BEq.rfl,reduceCtorEq,eq_self,ne_eq,Function.comp_def,beq_iff_eq]
    refine p_nm3 e7 w H2 (by omega) l2' fun s3 H3 K3 => ?_
    obtain ⟨c3', k3', l3', z3'⟩ := ALL _ _ _ H3
    simp only [cellU] at c3'
    have H4 := H3.set (cc' := cellA t p q k w' X Y 0 0 0 0 0) w
    obtain ⟨c4', k4', l4', z4'⟩ := ALL _ _ _ H4
    obtain ⟨F1, F2, F3, F4⟩ := FIN _ _ _ (cellA t p q k w' X Y 0 0 0 0 0) H4
    have K4 : KeepR s3 (s3.set s4.length (.cells (cellA t p q k w' X Y 0 0 0 0 0))) := KeepR.set c3'
    simp only [cellA] at c4' k4' z4' F1 F2 F3 K4
    simp only [f2, f3, f4, f5, c3', k3', z3', c4', k4', z4', F1, v1, v2, evf,↓evp,evq,evr,fxa0,fxa1,fxa2,fxa3,fxu,fxn,fxl,↓fxp,lgc,absL,fitL,flatL,ares,ares1,ofVal,unSc,aload,afill,splice,abound,asI,elems,IntKind.bits,sortT,eqNil,closedL,allByte,patch,pendOK,numA,Value.cells,Value.oneCell',ibin,List.replicate,Option.elim,Nat.reduceAdd,Nat.reduceSub,Nat.reduceMul,Nat.reduceLT,Nat.reduceEqDiff,Nat.reduceLeDiff,Nat.reduceBEq,Int.reduceLE,Int.reduceLT,Int.reduceToNat,Int.reduceBNe,Int.reduceBEq,Int.reduceNeg,Int.reduceEq,Int.reduceNe,Nat.reduceBNe,Int.reduceAdd,Int.reduceSub,Int.reduceMul,Int.reducePow,Nat.reducePow,Int.reduceGT,Int.reduceGE,if_true,if_false,ite_true,ite_false,beq_self_eq_true,BEq.rfl,reduceCtorEq,eq_self,ne_eq,Function.comp_def,beq_iff_eq]
    have R : rdCmd w' r = (⟨t, p, q, k, w', (rdL N 0 r5).1, X, Y, 0, 0, 0, 0, 0⟩, r7) := by simp [rdCmd, rdIf, rdU, e1, e2, e3, e4, e5, e6, e7, qU, qA, qZ, qI, qS]
    have := hK w'
    rw [R] at this
    have ll := rdL_len N 0 r5
    exact this _ F2 ⟨Rd.keepR (Rd.keepR (Rd.keepR (Rd.keepR hw K2) K3) K4) F3, v1, v2, by simp only [ll]; omega⟩ H4.ok F4
  · have qU : kU k = true := by simp [kU, hk]
    have qA : kA k = false := by simp [kA, hk]
    have qZ : kZ k = false := by simp [kZ, hk]
    have qI : kI k = false := by simp [kI, hk]
    have qS : kS k = false := by simp [kS, hk]
    obtain ⟨N, r5, e5, hN⟩ := nb64 r4
    rw [qU, qA, qZ, qI, qS] at ALL FK
    simp only [qU, qA, qZ, qI, qS, FK, FC, FZ, FL, evf,↓evp,evq,evr,fxa0,fxa1,fxa2,fxa3,fxu,fxn,fxl,↓fxp,lgc,absL,fitL,flatL,ares,ares1,ofVal,unSc,aload,afill,splice,abound,asI,elems,IntKind.bits,sortT,eqNil,closedL,allByte,patch,pendOK,numA,Value.cells,Value.oneCell',ibin,List.replicate,Option.elim,Nat.reduceAdd,Nat.reduceSub,Nat.reduceMul,Nat.reduceLT,Nat.reduceEqDiff,Nat.reduceLeDiff,Nat.reduceBEq,Int.reduceLE,Int.reduceLT,Int.reduceToNat,Int.reduceBNe,Int.reduceBEq,Int.reduceNeg,Int.reduceEq,Int.reduceNe,Nat.reduceBNe,Int.reduceAdd,Int.reduceSub,Int.reduceMul,Int.reducePow,Nat.reducePow,Int.reduceGT,Int.reduceGE,if_true,if_false,ite_true,ite_false,beq_self_eq_true,BEq.rfl,reduceCtorEq,eq_self,ne_eq,Function.comp_def,beq_iff_eq]
    refine p_Number (n := n + 1) o4 (T2.fst w.hi w.hne G0.g) G0.cut (by omega) (by omega) fun s6 j6 => ?_
    have o5 := RS.nb_ok o4 64
    have b5 := RS.nb_b r4 64
    have G1 : Rg S id s4.length bv (r4.nb 64).2 (cellU t p q k (.tsl [] 0 true true)) s6 := ⟨T2.trn w.hi w.hc w.hne G0.g j6, o5, by rw [b5]; exact G0.cut.trn (T2.fst w.hi w.hne G0.g) j6⟩
    rw [e5] at G1 ⊢
    simp only at G1
    simp only [evf,↓evp,evq,evr,fxa0,fxa1,fxa2,fxa3,fxu,fxn,fxl,↓fxp,lgc,absL,fitL,flatL,ares,ares1,ofVal,unSc,aload,afill,splice,abound,asI,elems,IntKind.bits,sortT,eqNil,closedL,allByte,patch,pendOK,numA,Value.cells,Value.oneCell',ibin,List.replicate,Option.elim,Nat.reduceAdd,Nat.reduceSub,Nat.reduceMul,Nat.reduceLT,Nat.reduceEqDiff,Nat.reduceLeDiff,Nat.reduceBEq,Int.reduceLE,Int.reduceLT,Int.reduceToNat,Int.reduceBNe,Int.reduceBEq,Int.reduceNeg,Int.reduceEq,Int.reduceNe,Nat.reduceBNe,Int.reduceAdd,Int.reduceSub,Int.reduceMul,Int.reducePow,Nat.reducePow,Int.reduceGT,Int.reduceGE,if_true,if_false,ite_true,ite_false,beq_self_eq_true,BEq.rfl,reduceCtorEq,eq_self,ne_eq,Function.comp_def,beq_iff_eq]
    refine read_loop rfl (S := S) (id := id) (cid := s4.length) (L := st.length) (N := N) hN w.hi w.hc w.hne FL (by omega) (by omega) G1.ok G1.cut G1.g (by omega) (by simp only [evf, ne_eq, Nat.reduceEqDiff, Nat.reduceLT, not_false_eq_true]) (by simp only [evf, ne_eq, Nat.reduceEqDiff, Nat.reduceLT, not_false_eq_true]) (by simp only [evf, ne_eq, Nat.reduceEqDiff, Nat.reduceLT, not_false_eq_true]) (by simp only [evf, ne_eq, Nat.reduceEqDiff, Nat.reduceLT, not_false_eq_true]) (by simp only [evf, ne_eq, Nat.reduceEqDiff, Nat.reduceLT, not_false_eq_true]) fun f s w' g hw cut f2 f3 f4 f5 => ?_
    simp only [evf, ne_eq, Nat.reduceEqDiff, Nat.reduceLT, not_false_eq_true] at f2 f3 f4 f5
    have H1 : Rg S id s4.length bv (rdL N 0 r5).2 (cellU t p q k w') s := ⟨g, rdL_ok _ _ G1.ok, cut⟩
    obtain ⟨c1', k1', l1', z1'⟩ := ALL _ _ _ H1
    obtain ⟨F1, F2, F3, F4⟩ := FIN _ _ _ (cellA t p q k w' 0 0 0 0 0 0 0) H1
    simp only [cellU, cellA, nilU] at c1' F1 F2 F3
    obtain ⟨v1, v2⟩ := rd_one hw
    simp only [f2, f3, f4, f5, c1', k1', z1', F1, v1, v2, evf,↓evp,evq,evr,fxa0,fxa1,fxa2,fxa3,fxu,fxn,fxl,↓fxp,lgc,absL,fitL,flatL,ares,ares1,ofVal,unSc,aload,afill,splice,abound,asI,elems,IntKind.bits,sortT,eqNil,closedL,allByte,patch,pendOK,numA,Value.cells,Value.oneCell',ibin,List.replicate,Option.elim,Nat.reduceAdd,Nat.reduceSub,Nat.reduceMul,Nat.reduceLT,Nat.reduceEqDiff,Nat.reduceLeDiff,Nat.reduceBEq,Int.reduceLE,Int.reduceLT,Int.reduceToNat,Int.reduceBNe,Int.reduceBEq,Int.reduceNeg,Int.reduceEq,Int.reduceNe,Nat.reduceBNe,Int.reduceAdd,Int.reduceSub,Int.reduceMul,Int.reducePow,Nat.reducePow,Int.reduceGT,Int.reduceGE,if_true,if_false,ite_true,ite_false,beq_self_eq_true,BEq.rfl,reduceCtorEq,eq_self,ne_eq,Function.comp_def,beq_iff_eq]
    have R : rdCmd w' r = (⟨t, p, q, k, w', (rdL N 0 r5).1, 0, 0, 0, 0, 0, 0, 0⟩, (rdL N 0 r5).2) := by simp [rdCmd, rdIf, rdU, e1, e2, e3, e4, e5, qU, qA, qZ, qI, qS]
    have := hK w'
    rw [R] at this
    have ll := rdL_len N 0 r5
    exact this _ F2 ⟨Rd.keepR hw F3, v1, v2, by simp only [ll]; omega⟩ H1.ok F4
  · have qU : kU k = false := by simp [kU, hk]
    have qA : kA k = true := by simp [kA, hk]
    have qZ : kZ k = true := by simp [kZ, hk]
    have qI : kI k = true := by simp [kI, hk]
    have qS : kS k = false := by simp [kS, hk]
    obtain ⟨I5, r5, e5⟩ : ∃ x r', r4.nb 2147483647 = (x, r') := ⟨_, _, rfl⟩
    obtain ⟨X6, r6, e6⟩ : ∃ x r', r5.nb 2147483647 = (x, r') := ⟨_, _, rfl⟩
    obtain ⟨Y7, r7, e7⟩ : ∃ x r', r6.nb 2147483647 = (x, r') := ⟨_, _, rfl⟩
    obtain ⟨A8, r8, e8⟩ : ∃ x r', r7.nb 2147483647 = (x, r') := ⟨_, _, rfl⟩
    obtain ⟨B9, r9, e9⟩ : ∃ x r', r8.nb 2147483647 = (x, r') := ⟨_, _, rfl⟩
    rw [qU, qA, qZ, qI, qS] at ALL FK
    simp only [qU, qA, qZ, qI, qS, FK, FC, FZ, evf,↓evp,evq,evr,fxa0,fxa1,fxa2,fxa3,fxu,fxn,fxl,↓fxp,lgc,absL,fitL,flatL,ares,ares1,ofVal,unSc,aload,afill,splice,abound,asI,elems,IntKind.bits,sortT,eqNil,closedL,allByte,patch,pendOK,numA,Value.cells,Value.oneCell',ibin,List.replicate,Option.elim,Nat.reduceAdd,Nat.reduceSub,Nat.reduceMul,Nat.reduceLT,Nat.reduceEqDiff,Nat.reduceLeDiff,Nat.reduceBEq,Int.reduceLE,Int.reduceLT,Int.reduceToNat,Int.reduceBNe,Int.reduceBEq,Int.reduceNeg,Int.reduceEq,Int.reduceNe,Nat.reduceBNe,Int.reduceAdd,Int.reduceSub,Int.reduceMul,Int.reducePow,Nat.reducePow,Int.reduceGT,Int.reduceGE,if_true,if_false,ite_true,ite_false,beq_self_eq_true,BEq.rfl,reduceCtorEq,eq_self,ne_eq,Function.comp_def,beq_iff_eq]
    refine p_nm2 e5 w G0 (by omega) FL fun s6 H1 => ?_
    obtain ⟨c1', k1', l1', z1'⟩ := ALL _ _ _ H1
    simp only [cellU, cellA, nilU] at c1'
    have H2 := H1.set (cc' := cellA t p q k nilU 0 0 0 0 I5 0 0) w
    obtain ⟨c2', k2', l2', z2'⟩ := ALL _ _ _ H2
    simp only [cellA, nilU] at c2' k2' z2'
    simp only [c1', k1', z1', c2', k2', z2', evf,↓evp,evq,evr,fxa0,fxa1,fxa2,fxa3,fxu,fxn,fxl,↓fxp,lgc,absL,fitL,flatL,ares,ares1,ofVal,unSc,aload,afill,splice,abound,asI,elems,IntKind.bits,sortT,eqNil,closedL,allByte,patch,pendOK,numA,Value.cells,Value.oneCell',ibin,List.replicate,Option.elim,Nat.reduceAdd,Nat.reduceSub,Nat.reduceMul,Nat.reduceLT,Nat.reduceEqDiff,Nat.reduceLeDiff,Nat.reduceBEq,Int.reduceLE,Int.reduceLT,Int.reduceToNat,Int.reduceBNe,Int.reduceBEq,Int.reduceNeg,Int.reduceEq,Int.reduceNe,Nat.reduceBNe,Int.reduceAdd,Int.reduceSub,Int.reduceMul,Int.reducePow,Nat.reducePow,Int.reduceGT,Int.reduceGE,if_true,if_false,ite_true,ite_false,beq_self_eq_true,BEq.rfl,reduceCtorEq,eq_self,ne_eq,Function.comp_def,beq_iff_eq]
    refine p_nm2 e6 w H2 (by omega) l2' fun s8 H3 => ?_
    obtain ⟨c3', k3', l3', z3'⟩ := ALL _ _ _ H3
    simp only [cellU, cellA, nilU] at c3'
    simp only [c3', k3', z3', evf,↓evp,evq,evr,fxa0,fxa1,fxa2,fxa3,fxu,fxn,fxl,↓fxp,lgc,absL,fitL,flatL,ares,ares1,ofVal,unSc,aload,afill,splice,abound,asI,elems,IntKind.bits,sortT,eqNil,closedL,allByte,patch,pendOK,numA,Value.cells,Value.oneCell',ibin,List.replicate,Option.elim,Nat.reduceAdd,Nat.reduceSub,Nat.reduceMul,Nat.reduceLT,Nat.reduceEqDiff,Nat.reduceLeDiff,Nat.reduceBEq,Int.reduceLE,Int.reduceLT,Int.reduceToNat,Int.reduceBNe,Int.reduceBEq,Int.reduceNeg,Int.reduceEq,Int.reduceNe,Nat.reduceBNe,Int.reduceAdd,Int.reduceSub,Int.reduceMul,Int.reducePow,Nat.reducePow,Int.reduceGT,Int.reduceGE,if_true,if_false,ite_true,ite_false,beq_self_eq_true,BEq.rfl,reduceCtorEq,eq_self,ne_eq,Function.comp_def,beq_iff_eq]
    refine p_nm2 e7 w H3 (by omega) l3' fun s9 H4 => ?_
    obtain ⟨c4', k4', l4', z4'⟩ := ALL _ _ _ H4
    simp only [cellU, cellA, nilU] at c4'
    have H5 := H4.set (cc' := cellA t p q k nilU X6 Y7 0 0 I5 0 0) w
    obtain ⟨c5', k5', l5', z5'⟩ := ALL _ _ _ H5
    simp only [cellA, nilU] at c5' k5' z5'
    simp only [c4', k4', z4', c5', k5', z5', evf,↓evp,evq,evr,fxa0,fxa1,fxa2,fxa3,fxu,fxn,fxl,↓fxp,lgc,absL,fitL,flatL,ares,ares1,ofVal,unSc,aload,afill,splice,abound,asI,elems,IntKind.bits,sortT,eqNil,closedL,allByte,patch,pendOK,numA,Value.cells,Value.oneCell',ibin,List.replicate,Option.elim,Nat.reduceAdd,Nat.reduceSub,Nat.reduceMul,Nat.reduceLT,Nat.reduceEqDiff,Nat.reduceLeDiff,Nat.reduceBEq,Int.reduceLE,Int.reduceLT,Int.reduceToNat,Int.reduceBNe,Int.reduceBEq,Int.reduceNeg,Int.reduceEq,Int.reduceNe,Nat.reduceBNe,Int.reduceAdd,Int.reduceSub,Int.reduceMul,Int.reducePow,Nat.reducePow,Int.reduceGT,Int.reduceGE,if_true,if_false,ite_true,ite_false,beq_self_eq_true,BEq.rfl,reduceCtorEq,eq_self,ne_eq,Function.comp_def,beq_iff_eq]
    refine p_nm2 e8 w H5 (by omega) l5' fun s11 H6 => ?_
    obtain ⟨c6', k6', l6', z6'⟩ := ALL _ _ _ H6
    simp only [cellU, cellA, nilU] at c6'
    simp only [c6', k6', z6', evf,↓evp,evq,evr,fxa0,fxa1,fxa2,fxa3,fxu,fxn,fxl,↓fxp,lgc,absL,fitL,flatL,ares,ares1,ofVal,unSc,aload,afill,splice,abound,asI,elems,IntKind.bits,sortT,eqNil,closedL,allByte,patch,pendOK,numA,Value.cells,Value.oneCell',ibin,List.replicate,Option.elim,Nat.reduceAdd,Nat.reduceSub,Nat.reduceMul,Nat.reduceLT,Nat.reduceEqDiff,Nat.reduceLeDiff,Nat.reduceBEq,Int.reduceLE,Int.reduceLT,Int.reduceToNat,Int.reduceBNe,Int.reduceBEq,Int.reduceNeg,Int.reduceEq,Int.reduceNe,Nat.reduceBNe,Int.reduceAdd,Int.reduceSub,Int.reduceMul,Int.reducePow,Nat.reducePow,Int.reduceGT,Int.reduceGE,if_true,if_false,ite_true,ite_false,beq_self_eq_true,BEq.rfl,reduceCtorEq,eq_self,ne_eq,Function.comp_def,beq_iff_eq]
    refine p_nm2 e9 w H6 (by omega) l6' fun s12 H7 => ?_
    obtain ⟨c7', k7', l7', z7'⟩ := ALL _ _ _ H7
    simp only [cellU, cellA, nilU] at c7'
    have H8 := H7.set (cc' := cellA t p q k nilU X6 Y7 A8 0 I5 0 0) w
    obtain ⟨c8', k8', l8', z8'⟩ := ALL _ _ _ H8
    simp only [cellA, nilU] at c8' k8' z8'
    have H9 := H8.set (cc' := cellA t p q k nilU X6 Y7 A8 B9 I5 0 0) w
    obtain ⟨c9', k9', l9', z9'⟩ := ALL _ _ _ H9
    simp only [cellA, nilU] at c9' k9' z9'
    obtain ⟨F1, F2, F3, F4⟩ := FIN _ _ _ (cellA t p q k nilU X6 Y7 A8 B9 I5 0 0) H9
    simp only [cellA, nilU] at F1 F2
    simp only [c7', k7', z7', c8', k8', z8', c9', k9', z9', F1, evf,↓evp,evq,evr,fxa0,fxa1,fxa2,fxa3,fxu,fxn,fxl,↓fxp,lgc,absL,fitL,flatL,ares,ares1,ofVal,unSc,aload,afill,splice,abound,asI,elems,IntKind.bits,sortT,eqNil,closedL,allByte,patch,pendOK,numA,Value.cells,Value.oneCell',ibin,List.replicate,Option.elim,Nat.reduceAdd,Nat.reduceSub,Nat.reduceMul,Nat.reduceLT,Nat.reduceEqDiff,Nat.reduceLeDiff,Nat.reduceBEq,Int.reduceLE,Int.reduceLT,Int.reduceToNat,Int.reduceBNe,Int.reduceBEq,Int.reduceNeg,Int.reduceEq,Int.reduceNe,Nat.reduceBNe,Int.reduceAdd,Int.reduceSub,Int.reduceMul,Int.reducePow,Nat.reducePow,Int.reduceGT,Int.reduceGE,if_true,if_false,ite_true,ite_false,beq_self_eq_true,BEq.rfl,reduceCtorEq,eq_self,ne_eq,Function.comp_def,beq_iff_eq]
    have R : rdCmd nilU r = (⟨t, p, q, k, nilU, [], X6, Y7, A8, B9, I5, 0, 0⟩, r9) := by simp [rdCmd, rdIf, rdU, e1, e2, e3, e4, e5, e6, e7, e8, e9, qU, qA, qZ, qI, qS]
    have := hK nilU
    rw [R] at this
    exact this _ F2 (nil_at _ rfl rfl _) H9.ok F4
  · have qU : kU k = false := by simp [kU, hk]
    have qA : kA k = false := by simp [kA, hk]
    have qZ : kZ k = false := by simp [kZ, hk]
    have qI : kI k = true := by simp [kI, hk]
    have qS : kS k = false := by simp [kS, hk]
    obtain ⟨I, r5, e5⟩ : ∃ x r', r4.nb 2147483647 = (x, r') := ⟨_, _, rfl⟩
    rw [qU, qA, qZ, qI, qS] at ALL FK
    simp only [qU, qA, qZ, qI, qS, FK, FC, FZ, evf,↓evp,evq,evr,fxa0,fxa1,fxa2,fxa3,fxu,fxn,fxl,↓fxp,lgc,absL,fitL,flatL,ares,ares1,ofVal,unSc,aload,afill,splice,abound,asI,elems,IntKind.bits,sortT,eqNil,closedL,allByte,patch,pendOK,numA,Value.cells,Value.oneCell',ibin,List.replicate,Option.elim,Nat.reduceAdd,Nat.reduceSub,Nat.reduceMul,Nat.reduceLT,Nat.reduceEqDiff,Nat.reduceLeDiff,Nat.reduceBEq,Int.reduceLE,Int.reduceLT,Int.reduceToNat,Int.reduceBNe,Int.reduceBEq,Int.reduceNeg,Int.reduceEq,Int.reduceNe,Nat.reduceBNe,Int.reduceAdd,Int.reduceSub,Int.reduceMul,Int.reducePow,Nat.reducePow,Int.reduceGT,Int.reduceGE,if_true,if_false,ite_true,ite_false,beq_self_eq_true,BEq.rfl,reduceCtorEq,eq_self,ne_eq,Function.comp_def,beq_iff_eq]
    refine p_nm2 e5 w G0 (by omega) FL fun s6 G6 => ?_
    obtain ⟨c6, k6, l6, z6⟩ := ALL _ _ _ G6
    have G7 := G6.set (cc' := cellA t p q k nilU 0 0 0 0 I 0 0) w
    obtain ⟨c7, k7, l7, z7⟩ := ALL _ _ _ G7
    obtain ⟨F1, F2, F3, F4⟩ := FIN _ _ _ (cellA t p q k nilU 0 0 0 0 I 0 0) G7
    simp only [cellU] at c6
    simp only [cellA, nilU] at c7 k7 z7 F1 F2
    simp only [c6, k6, z6, c7, k7, z7, F1, evf,↓evp,evq,evr,fxa0,fxa1,fxa2,fxa3,fxu,fxn,fxl,↓fxp,lgc,absL,fitL,flatL,ares,ares1,ofVal,unSc,aload,afill,splice,abound,asI,elems,IntKind.bits,sortT,eqNil,closedL,allByte,patch,pendOK,numA,Value.cells,Value.oneCell',ibin,List.replicate,Option.elim,Nat.reduceAdd,Nat.reduceSub,Nat.reduceMul,Nat.reduceLT,Nat.reduceEqDiff,Nat.reduceLeDiff,Nat.reduceBEq,Int.reduceLE,Int.reduceLT,Int.reduceToNat,Int.reduceBNe,Int.reduceBEq,Int.reduceNeg,Int.reduceEq,Int.reduceNe,Nat.reduceBNe,Int.reduceAdd,Int.reduceSub,Int.reduceMul,Int.reducePow,Nat.reducePow,Int.reduceGT,Int.reduceGE,if_true,if_false,ite_true,ite_false,beq_self_eq_true,BEq.rfl,reduceCtorEq,eq_self,ne_eq,Function.comp_def,beq_iff_eq]
    have R : rdCmd nilU r = (⟨t, p, q, k, nilU, [], 0, 0, 0, 0, I, 0, 0⟩, r5) := by simp [rdCmd, rdIf, rdU, e1, e2, e3, e4, e5, qU, qA, qZ, qI, qS]
    have := hK nilU
    rw [R] at this
    exact this _ F2 (nil_at _ rfl rfl _) G7.ok F4
  · have qU : kU k = false := by simp [kU, hk]
    have qA : kA k = true := by simp [kA, hk]
    have qZ : kZ k = false := by simp [kZ, hk]
    have qI : kI k = true := by simp [kI, hk]
    have qS : kS k = true := by simp [kS, hk]
    obtain ⟨I5, r5, e5⟩ : ∃ x r', r4.nb 2147483647 = (x, r') := ⟨_, _, rfl⟩
    obtain ⟨X6, r6, e6⟩ : ∃ x r', r5.nb 2147483647 = (x, r') := ⟨_, _, rfl⟩
    obtain ⟨Y7, r7, e7⟩ : ∃ x r', r6.nb 2147483647 = (x, r') := ⟨_, _, rfl⟩
    obtain ⟨C8, r8, e8⟩ : ∃ x r', r7.nb 2147483647 = (x, r') := ⟨_, _, rfl⟩
    obtain ⟨Z9, r9, e9⟩ : ∃ x r', r8.nb 2147483647 = (x, r') := ⟨_, _, rfl⟩
    rw [qU, qA, qZ, qI, qS] at ALL FK
    simp only [qU, qA, qZ, qI, qS, FK, FC, FZ, evf,↓evp,evq,evr,fxa0,fxa1,fxa2,fxa3,fxu,fxn,fxl,↓fxp,lgc,absL,fitL,flatL,ares,ares1,ofVal,unSc,aload,afill,splice,abound,asI,elems,IntKind.bits,sortT,eqNil,closedL,allByte,patch,pendOK,numA,Value.cells,Value.oneCell',ibin,List.replicate,Option.elim,Nat.reduceAdd,Nat.reduceSub,Nat.reduceMul,Nat.reduceLT,Nat.reduceEqDiff,Nat.reduceLeDiff,Nat.reduceBEq,Int.reduceLE,Int.reduceLT,Int.reduceToNat,Int.reduceBNe,Int.reduceBEq,Int.reduceNeg,Int.reduceEq,Int.reduceNe,Nat.reduceBNe,Int.reduceAdd,Int.reduceSub,Int.reduceMul,Int.reducePow,Nat.reducePow,Int.reduceGT,Int.reduceGE,if_true,if_false,ite_true,ite_false,beq_self_eq_true,BEq.rfl,reduceCtorEq,eq_self,ne_eq,Function.comp_def,beq_iff_eq]
    refine p_nm2 e5 w G0 (by omega) FL fun s6 H1 => ?_
    obtain ⟨c1', k1', l1', z1'⟩ := ALL _ _ _ H1
    simp only [cellU, cellA, nilU] at c1'
    have H2 := H1.set (cc' := cellA t p q k nilU 0 0 0 0 I5 0 0) w
    obtain ⟨c2', k2', l2', z2'⟩ := ALL _ _ _ H2
    simp only [cellA, nilU] at c2' k2' z2'
    simp only [c1', k1', z1', c2', k2', z2', evf,↓evp,evq,evr,fxa0,fxa1,fxa2,fxa3,fxu,fxn,fxl,↓fxp,lgc,absL,fitL,flatL,ares,ares1,ofVal,unSc,aload,afill,splice,abound,asI,elems,IntKind.bits,sortT,eqNil,closedL,allByte,patch,pendOK,numA,Value.cells,Value.oneCell',ibin,List.replicate,Option.elim,Nat.reduceAdd,Nat.reduceSub,Nat.reduceMul,Nat.reduceLT,Nat.reduceEqDiff,Nat.reduceLeDiff,Nat.reduceBEq,Int.reduceLE,Int.reduceLT,Int.reduceToNat,Int.reduceBNe,Int.reduceBEq,Int.reduceNeg,Int.reduceEq,Int.reduceNe,Nat.reduceBNe,Int.reduceAdd,Int.reduceSub,Int.reduceMul,Int.reducePow,Nat.reducePow,Int.reduceGT,Int.reduceGE,if_true,if_false,ite_true,ite_false,beq_self_eq_true,BEq.rfl,reduceCtorEq,eq_self,ne_eq,Function.comp_def,beq_iff_eq]
    refine p_nm2 e6 w H2 (by omega) l2' fun s8 H3 => ?_
    obtain ⟨c3', k3', l3', z3'⟩ := ALL _ _ _ H3
    simp only [cellU, cellA, nilU] at c3'
    simp only [c3', k3', z3', evf,↓evp,evq,evr,fxa0,fxa1,fxa2,fxa3,fxu,fxn,fxl,↓fxp,lgc,absL,fitL,flatL,ares,ares1,ofVal,unSc,aload,afill,splice,abound,asI,elems,IntKind.bits,sortT,eqNil,closedL,allByte,patch,pendOK,numA,Value.cells,Value.oneCell',ibin,List.replicate,Option.elim,Nat.reduceAdd,Nat.reduceSub,Nat.reduceMul,Nat.reduceLT,Nat.reduceEqDiff,Nat.reduceLeDiff,Nat.reduceBEq,Int.reduceLE,Int.reduceLT,Int.reduceToNat,Int.reduceBNe,Int.reduceBEq,Int.reduceNeg,Int.reduceEq,Int.reduceNe,Nat.reduceBNe,Int.reduceAdd,Int.reduceSub,Int.reduceMul,Int.reducePow,Nat.reducePow,Int.reduceGT,Int.reduceGE,if_true,if_false,ite_true,ite_false,beq_self_eq_true,BEq.rfl,reduceCtorEq,eq_self,ne_eq,Function.comp_def,beq_iff_eq]
    refine p_nm2 e7 w H3 (by omega) l3' fun s9 H4 => ?_
    obtain ⟨c4', k4', l4', z4'⟩ := ALL _ _ _ H4
    simp only [cellU, cellA, nilU] at c4'
    have H5 := H4.set (cc' := cellA t p q k nilU X6 Y7 0 0 I5 0 0) w
    obtain ⟨c5', k5', l5', z5'⟩ := ALL _ _ _ H5
    simp only [cellA, nilU] at c5' k5' z5'
    simp only [c4', k4', z4', c5', k5', z5', evf,↓evp,evq,evr,fxa0,fxa1,fxa2,fxa3,fxu,fxn,fxl,↓fxp,lgc,absL,fitL,flatL,ares,ares1,ofVal,unSc,aload,afill,splice,abound,asI,elems,IntKind.bits,sortT,eqNil,closedL,allByte,patch,pendOK,numA,Value.cells,Value.oneCell',ibin,List.replicate,Option.elim,Nat.reduceAdd,Nat.reduceSub,Nat.reduceMul,Nat.reduceLT,Nat.reduceEqDiff,Nat.reduceLeDiff,Nat.reduceBEq,Int.reduceLE,Int.reduceLT,Int.reduceToNat,Int.reduceBNe,Int.reduceBEq,Int.reduceNeg,Int.reduceEq,Int.reduceNe,Nat.reduceBNe,Int.reduceAdd,Int.reduceSub,Int.reduceMul,Int.reducePow,Nat.reducePow,Int.reduceGT,Int.reduceGE,if_true,if_false,ite_true,ite_false,beq_self_eq_true,BEq.rfl,reduceCtorEq,eq_self,ne_eq,Function.comp_def,beq_iff_eq]
    refine p_nm2 e8 w H5 (by omega) l5' fun s11 H6 => ?_
    obtain ⟨c6', k6', l6', z6'⟩ := ALL _ _ _ H6
    simp only [cellU, cellA, nilU] at c6'
    simp only [c6', k6', z6', evf,↓evp,evq,evr,fxa0,fxa1,fxa2,fxa3,fxu,fxn,fxl,↓fxp,lgc,absL,fitL,flatL,ares,ares1,ofVal,unSc,aload,afill,splice,abound,asI,elems,IntKind.bits,sortT,eqNil,closedL,allByte,patch,pendOK,numA,Value.cells,Value.oneCell',ibin,List.replicate,Option.elim,Nat.reduceAdd,Nat.reduceSub,Nat.reduceMul,Nat.reduceLT,Nat.reduceEqDiff,Nat.reduceLeDiff,Nat.reduceBEq,Int.reduceLE,Int.reduceLT,Int.reduceToNat,Int.reduceBNe,Int.reduceBEq,Int.reduceNeg,Int.reduceEq,Int.reduceNe,Nat.reduceBNe,Int.reduceAdd,Int.reduceSub,Int.reduceMul,Int.reducePow,Nat.reducePow,Int.reduceGT,Int.reduceGE,if_true,if_false,ite_true,ite_false,beq_self_eq_true,BEq.rfl,reduceCtorEq,eq_self,ne_eq,Function.comp_def,beq_iff_eq]
    refine p_nm2 e9 w H6 (by omega) l6' fun s12 H7 => ?_
    obtain ⟨c7', k7', l7', z7'⟩ := ALL _ _ _ H7
    simp only [cellU, cellA, nilU] at c7'
    have H8 := H7.set (cc' := cellA t p q k nilU X6 Y7 0 0 I5 C8 Z9) w
    obtain ⟨c8', k8', l8', z8'⟩ := ALL _ _ _ H8
    simp only [cellA, nilU] at c8' k8' z8'
    obtain ⟨F1, F2, F3, F4⟩ := FIN _ _ _ (cellA t p q k nilU X6 Y7 0 0 I5 C8 Z9) H8
    simp only [cellA, nilU] at F1 F2
    simp only [c7', k7', z7', c8', k8', z8', F1, evf,↓evp,evq,evr,fxa0,fxa1,fxa2,fxa3,fxu,fxn,fxl,↓fxp,lgc,absL,fitL,flatL,ares,ares1,ofVal,unSc,aload,afill,splice,abound,asI,elems,IntKind.bits,sortT,eqNil,closedL,allByte,patch,pendOK,numA,Value.cells,Value.oneCell',ibin,List.replicate,Option.elim,Nat.reduceAdd,Nat.reduceSub,Nat.reduceMul,Nat.reduceLT,Nat.reduceEqDiff,Nat.reduceLeDiff,Nat.reduceBEq,Int.reduceLE,Int.reduceLT,Int.reduceToNat,Int.reduceBNe,Int.reduceBEq,Int.reduceNeg,Int.reduceEq,Int.reduceNe,Nat.reduceBNe,Int.reduceAdd,Int.reduceSub,Int.reduceMul,Int.reducePow,Nat.reducePow,Int.reduceGT,Int.reduceGE,if_true,if_false,ite_true,ite_false,beq_self_eq_true,BEq.rfl,reduceCtorEq,eq_self,ne_eq,Function.comp_def,beq_iff_eq]
    have R : rdCmd nilU r = (⟨t, p, q, k, nilU, [], X6, Y7, 0, 0, I5, C8, Z9⟩, r9) := by simp [rdCmd, rdIf, rdU, e1, e2, e3, e4, e5, e6, e7, e8, e9, qU, qA, qZ, qI, qS]
    have := hK nilU
    rw [R] at this
    exact this _ F2 (nil_at _ rfl rfl _) H8.ok F4
  · have qU : kU k = false := by simp [kU, hk]
    have qA : kA k = false := by simp [kA, hk]
    have qZ : kZ k = false := by simp [kZ, hk]
    have qI : kI k = false := by simp [kI, hk]
    have qS : kS k = false := by simp [kS, hk]
    rw [qU, qA, qZ, qI, qS] at FK
    simp only [qU, qA, qZ, qI, qS, FK, FC, FZ, evf,↓evp,evq,evr,fxa0,fxa1,fxa2,fxa3,fxu,fxn,fxl,↓fxp,lgc,absL,fitL,flatL,ares,ares1,ofVal,unSc,aload,afill,splice,abound,asI,elems,IntKind.bits,sortT,eqNil,closedL,allByte,patch,pendOK,numA,Value.cells,Value.oneCell',ibin,List.replicate,Option.elim,Nat.reduceAdd,Nat.reduceSub,Nat.reduceMul,Nat.reduceLT,Nat.reduceEqDiff,Nat.reduceLeDiff,Nat.reduceBEq,Int.reduceLE,Int.reduceLT,Int.reduceToNat,Int.reduceBNe,Int.reduceBEq,Int.reduceNeg,Int.reduceEq,Int.reduceNe,Nat.reduceBNe,Int.reduceAdd,Int.reduceSub,Int.reduceMul,Int.reducePow,Nat.reducePow,Int.reduceGT,Int.reduceGE,if_true,if_false,ite_true,ite_false,beq_self_eq_true,BEq.rfl,reduceCtorEq,eq_self,ne_eq,Function.comp_def,beq_iff_eq]
    obtain ⟨F1, F2, F3, F4⟩ := FIN _ _ _ (cellU t p q k nilU) G0
    simp only [cellU, nilU] at F1 F2
    simp only [F1, evf,↓evp,evq,evr,fxa0,fxa1,fxa2,fxa3,fxu,fxn,fxl,↓fxp,lgc,absL,fitL,flatL,ares,ares1,ofVal,unSc,aload,afill,splice,abound,asI,elems,IntKind.bits,sortT,eqNil,closedL,allByte,patch,pendOK,numA,Value.cells,Value.oneCell',ibin,List.replicate,Option.elim,Nat.reduceAdd,Nat.reduceSub,Nat.reduceMul,Nat.reduceLT,Nat.reduceEqDiff,Nat.reduceLeDiff,Nat.reduceBEq,Int.reduceLE,Int.reduceLT,Int.reduceToNat,Int.reduceBNe,Int.reduceBEq,Int.reduceNeg,Int.reduceEq,Int.reduceNe,Nat.reduceBNe,Int.reduceAdd,Int.reduceSub,Int.reduceMul,Int.reducePow,Nat.reducePow,Int.reduceGT,Int.reduceGE,if_true,if_false,ite_true,ite_false,beq_self_eq_true,BEq.rfl,reduceCtorEq,eq_self,ne_eq,Function.comp_def,beq_iff_eq]
    have R : rdCmd nilU r = (⟨t, p, q, k, nilU, [], 0, 0, 0, 0, 0, 0, 0⟩, r4) := by simp [rdCmd, rdIf, rdU, e1, e2, e3, e4, qU, qA, qZ, qI, qS]
    have := hK nilU
    rw [R] at this
    exact this _ F2 (nil_at _ rfl rfl _) o4 F4
end
end Go.Proofs.Ytfndpnmdjblokaa
