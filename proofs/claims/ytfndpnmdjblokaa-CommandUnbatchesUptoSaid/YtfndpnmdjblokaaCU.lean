/- Chapter 24: a command's bytes. Chapter 24: a command's bytes, whole. Chapter 24: the plain law: unlike commands, unlike bytes. CommandUnlike: commands alike, by the program. CommandUnlike, the law. CommandUnlike, the law. -/
import Derived.Test.YtfndpnmdjblokaaCB
import Derived.Test.YtfndpnmdjblokaaP02b
set_option linter.unusedVariables false
set_option linter.unusedSimpArgs false
set_option maxRecDepth 10000
namespace Go.Proofs.Ytfndpnmdjblokaa
open Go Go.M Go.RowKit
attribute [local congr] acallF_cong aloop_cong bcase_cong resK_cong valK_cong wantK_cong callK_cong xputK_cong qputK_cong
attribute [local irreducible] seqK blockK loopK nextK bcase resK valK wantK funK putK dputK xputK qputK callK aops aop acode adraw aloop acallF acall invK
/-! ### Chapter 24: a command's bytes. -/
/-- How far each is above the one ahead. -/
def dif (last : Nat) : List Nat → List Nat
  | [] => []
  | x :: xs => (x - last) :: dif x xs
/-- Rising numbers, above one. -/
def rises (last : Nat) : List Nat → Prop
  | [] => True
  | x :: xs => last < x ∧ x ≤ 2147483647 ∧ rises x xs
theorem go_rises : ∀ (l : List Int) (last : Nat), goB last l = true → ∃ U : List Nat, l = ns U ∧ rises last U
  | [], last, _ => ⟨[], rfl, trivial⟩
  | x :: xs, last, h => by
    simp only [goB, Bool.and_eq_true] at h
    obtain ⟨h1, h2⟩ := h
    have hx : (last : Int) < x ∧ x ≤ 2147483647 := by simp [withinB] at h1; omega
    obtain ⟨X, rfl⟩ : ∃ X : Nat, x = X := ⟨x.toNat, by omega⟩
    obtain ⟨U, rfl, hU⟩ := go_rises xs X h2
    exact ⟨X :: U, rfl, by omega, by omega, hU⟩
theorem rises_all : ∀ (l : List Nat) (last : Nat), rises last l → ∀ x ∈ l, x ≤ 2147483647
  | [], _, _, x, hx => by simp at hx
  | a :: l, last, h, x, hx => by
    rcases List.mem_cons.1 hx with rfl | hx
    · exact h.2.1
    · exact rises_all l a h.2.2 x hx
theorem dif_all : ∀ (l : List Nat) (last : Nat), (∀ x ∈ l, x ≤ 2147483647) → ∀ x ∈ dif last l, x ≤ 2147483647
  | [], _, _, x, hx => by simp [dif] at hx
  | a :: l, last, h, x, hx => by
    rw [dif] at hx
    rcases List.mem_cons.1 hx with rfl | hx
    · have := h a (by simp); omega
    · exact dif_all l a (fun y hy => h y (by simp [hy])) x hx
theorem dif_len : ∀ (l : List Nat) (last : Nat), (dif last l).length = l.length
  | [], _ => rfl
  | a :: l, last => by simp [dif, dif_len l a]
section
variable {n m : Nat} {st : List Ob}
theorem nb_append (a b : List Nat) : nb (a ++ b) = nb a ++ nb b := by simp [nb]
set_option maxHeartbeats 1000000 in
theorem enc_loop {b : Code} (hb : fl (Try.f37.body.getD .skip) = some b) {U pre : List Nat} {uv w : V} {K : ExK} {f : Nat → V} (hu : Rd Try.prog st 3 uv (is (ns U)) U.length) (hr : rises 0 U) (hU : U.length ≤ 64) (hp : pre.length ≤ 1000) (hpb : ∀ x ∈ pre, x < 9223372036854775808) (hw : Rd Try.prog st 5 w (bs (nb pre)) (nb pre).length) (hm : 100 < m)
    (q7 : f 7 = w) (q8 : f 8 = .sc (.int .i64 0)) (q48 : f 48 = uv) (q49 : f 49 = .sc (.int .i64 U.length)) (q50 : f 50 = .sc (.int .i64 0))
    (hx : ∀ f' s' w', Grw st s' → f' 1 = f 1 → f' 5 = f 5 → f' 7 = w' → Rd Try.prog s' 5 w' (bs (nb (pre ++ dif 0 U))) (nb (pre ++ dif 0 U)).length → K (.exit 0) (ofF 94 f') s') :
    aloop (acode Try.prog (acallF Try.prog pl (n + 4) m) m (pl 37) b) m K (ofF 94 f) st := by
  simp only [Try.f37, Option.getD_some, fl, Option.some.injEq] at hb
  subst hb
  refine aloop_forF (fun k g s => ∃ (i last : Nat) (cur : List Nat) (w' : V), k + i = m ∧ i ≤ U.length ∧ Grw st s ∧ rises last (U.drop i) ∧ pre ++ dif 0 U = cur ++ dif last (U.drop i) ∧ cur.length = pre.length + i ∧ (∀ x ∈ cur, x < 9223372036854775808) ∧ Rd Try.prog s 5 w' (bs (nb cur)) (nb cur).length ∧ last ≤ 2147483647 ∧
    g 1 = f 1 ∧ g 5 = f 5 ∧ g 7 = w' ∧ g 8 = .sc (.int .i64 last) ∧ g 48 = uv ∧ g 49 = .sc (.int .i64 U.length) ∧ g 50 = .sc (.int .i64 i)) ⟨0, 0, pre, w, by omega, by omega, .refl _, hr, rfl, by omega, hpb, hw, by omega, rfl, rfl, q7, q8, q48, q49, q50⟩ ?_
  rintro I' hI' k g s ⟨i, last, cur, w', hk, hi, hg, hri, heq, hcl, hcb, hw', hlast, g1, g5, g7, g8, g48, g49, g50⟩
  refine ⟨k - 1, by omega, ?_⟩
  by_cases hil : i < U.length
  · have d : decide ((i : Int) < U.length) = true := decide_eq_true (by omega)
    have hus : Rd Try.prog s 3 uv (is (ns U)) (ns U).length := by rw [ns_length]; exact hu.grw hg
    obtain ⟨p1, p2⟩ := ix_is hus (i := i) (by rw [ns_length]; exact hil)
    have e : (ns U)[i]'(by rw [ns_length]; exact hil) = (U[i] : Int) := by simp [ns]
    rw [e] at p2
    rw [List.drop_eq_getElem_cons hil] at hri heq
    obtain ⟨r1, r2, r3⟩ := hri
    rw [dif] at heq
    have a1 : IntKind.i64.wrap ((i : Int) + 1) = ((i + 1 : Nat) : Int) := by rw [IntWalk.i64_in _ (by omega)]; rfl
    have a2 : IntKind.i64.wrap ((U[i] : Int) - last) = ((U[i] - last : Nat) : Int) := by rw [IntWalk.i64_in _ (by omega)]; omega
    have hnl := nb_len cur (fun x hx => by have := hcb x hx; omega)
    simp only [g7, g8, g48, g49, g50, d, p1, p2, a2, evf,↓evp,evq,evr,fxa0,fxa1,fxa2,fxa3,fxu,fxn,fxl,↓fxp,lgc,absL,fitL,flatL,ares,ares1,ofVal,unSc,aload,afill,splice,abound,asI,elems,IntKind.bits,sortT,eqNil,closedL,allByte,patch,pendOK,numA,Value.cells,Value.oneCell',ibin,List.replicate,Option.elim,Nat.reduceAdd,Nat.reduceSub,Nat.reduceMul,Nat.reduceLT,Nat.reduceEqDiff,Nat.reduceLeDiff,Nat.reduceBEq,Int.reduceLE,Int.reduceLT,Int.reduceToNat,Int.reduceBNe,Int.reduceBEq,Int.reduceNeg,Int.reduceEq,Int.reduceNe,Nat.reduceBNe,Int.reduceAdd,Int.reduceSub,Int.reduceMul,Int.reducePow,Nat.reducePow,Int.reduceGT,Int.reduceGE,if_true,if_false,ite_true,ite_false,beq_self_eq_true,BEq.rfl,reduceCtorEq,eq_self,ne_eq,Function.comp_def,beq_iff_eq]
    refine c_put (n := n + 1) (l := [U[i] - last]) (hw'.grw (.push _ _)) (row_at (l := [U[i] - last]) (id := s.length) (get_new0 _ _)) (by simp; omega) (by simp only [List.length_cons, List.length_nil]; omega) (by omega) (by simp only [List.length_cons, List.length_nil]; omega) fun w2 s2 h2 hw2 => ?_
    rw [← nb_append] at hw2
    simp only [g50, a1, evf,↓evp,evq,evr,fxa0,fxa1,fxa2,fxa3,fxu,fxn,fxl,↓fxp,lgc,absL,fitL,flatL,ares,ares1,ofVal,unSc,aload,afill,splice,abound,asI,elems,IntKind.bits,sortT,eqNil,closedL,allByte,patch,pendOK,numA,Value.cells,Value.oneCell',ibin,List.replicate,Option.elim,Nat.reduceAdd,Nat.reduceSub,Nat.reduceMul,Nat.reduceLT,Nat.reduceEqDiff,Nat.reduceLeDiff,Nat.reduceBEq,Int.reduceLE,Int.reduceLT,Int.reduceToNat,Int.reduceBNe,Int.reduceBEq,Int.reduceNeg,Int.reduceEq,Int.reduceNe,Nat.reduceBNe,Int.reduceAdd,Int.reduceSub,Int.reduceMul,Int.reducePow,Nat.reducePow,Int.reduceGT,Int.reduceGE,if_true,if_false,ite_true,ite_false,beq_self_eq_true,BEq.rfl,reduceCtorEq,eq_self,ne_eq,Function.comp_def,beq_iff_eq]
    refine hI' _ _ _ ⟨i + 1, U[i], cur ++ [U[i] - last], w2, by omega, hil, hg.trans ((Grw.push _ _).trans h2), r3, by rw [heq]; simp, by simp; omega, ?_, hw2, r2, by simp only [g1, evf, ne_eq, Nat.reduceEqDiff, Nat.reduceLT, not_false_eq_true], by simp only [g5, evf, ne_eq, Nat.reduceEqDiff, Nat.reduceLT, not_false_eq_true], by simp only [evf, ne_eq, Nat.reduceEqDiff, Nat.reduceLT, not_false_eq_true], by simp only [evf, ne_eq, Nat.reduceEqDiff, Nat.reduceLT, not_false_eq_true], by simp only [g48, evf, ne_eq, Nat.reduceEqDiff, Nat.reduceLT, not_false_eq_true], by simp only [g49, evf, ne_eq, Nat.reduceEqDiff, Nat.reduceLT, not_false_eq_true], by simp only [evf, ne_eq, Nat.reduceEqDiff, Nat.reduceLT, not_false_eq_true]⟩
    intro x hx
    rcases List.mem_append.1 hx with hx | hx
    · exact hcb x hx
    · simp at hx; omega
  · have d : decide ((i : Int) < U.length) = false := decide_eq_false (by omega)
    rw [List.drop_eq_nil_of_le (by omega), dif, List.append_nil] at heq
    simp only [g49, g50, d, evf,↓evp,evq,evr,fxa0,fxa1,fxa2,fxa3,fxu,fxn,fxl,↓fxp,lgc,absL,fitL,flatL,ares,ares1,ofVal,unSc,aload,afill,splice,abound,asI,elems,IntKind.bits,sortT,eqNil,closedL,allByte,patch,pendOK,numA,Value.cells,Value.oneCell',ibin,List.replicate,Option.elim,Nat.reduceAdd,Nat.reduceSub,Nat.reduceMul,Nat.reduceLT,Nat.reduceEqDiff,Nat.reduceLeDiff,Nat.reduceBEq,Int.reduceLE,Int.reduceLT,Int.reduceToNat,Int.reduceBNe,Int.reduceBEq,Int.reduceNeg,Int.reduceEq,Int.reduceNe,Nat.reduceBNe,Int.reduceAdd,Int.reduceSub,Int.reduceMul,Int.reducePow,Nat.reducePow,Int.reduceGT,Int.reduceGE,if_true,if_false,ite_true,ite_false,beq_self_eq_true,BEq.rfl,reduceCtorEq,eq_self,ne_eq,Function.comp_def,beq_iff_eq]
    refine hx _ _ w' hg (by simp only [g1, evf, ne_eq, Nat.reduceEqDiff, Nat.reduceLT, not_false_eq_true]) (by simp only [g5, evf, ne_eq, Nat.reduceEqDiff, Nat.reduceLT, not_false_eq_true]) (by simp only [g7, evf, ne_eq, Nat.reduceEqDiff, Nat.reduceLT, not_false_eq_true]) ?_
    rw [heq]; exact hw'
end
/-! ### Chapter 24: a command's bytes, whole. -/
def cmdNums (c : Cmd) : List Nat := [c.kind.toNat, c.tick.toNat, c.player.toNat, c.seq.toNat] ++ (if kI c.kind then [c.id.toNat] else []) ++ (if kU c.kind then c.units.length :: dif 0 (c.units.map Int.toNat) else []) ++
  (if kA c.kind then [c.x.toNat, c.y.toNat] else []) ++ (if kZ c.kind then [c.w.toNat, c.h.toNat] else []) ++ (if kS c.kind then [c.cls.toNat, c.sz.toNat] else [])
theorem ns_toNat (U : List Nat) : (ns U).map Int.toNat = U := by
  induction U with
  | nil => rfl
  | cons a l ih =>
    simp [ns] at ih ⊢
    exact ih
theorem check_facts {c : Cmd} (h : checkB c = true) : (1 ≤ c.kind ∧ c.kind ≤ 5) ∧ (0 ≤ c.tick ∧ c.tick ≤ 2147483647) ∧ (0 ≤ c.player ∧ c.player ≤ 7) ∧ (0 ≤ c.seq ∧ c.seq ≤ 2147483647) ∧ partsB c (kU c.kind) (kA c.kind) (kZ c.kind) (kI c.kind) (kS c.kind) = true := by
  simp only [checkB, withinB, Bool.and_eq_true, decide_eq_true_eq] at h
  obtain ⟨⟨⟨⟨a1, a2⟩, a3⟩, a4⟩, a5⟩ := h
  exact ⟨by omega, by omega, by omega, by omega, a5⟩
/-- What is told of a state stays so behind it. -/
theorem get_keep {s X : List Ob} {i : Nat} {o x : Ob} (h : (s ++ [x])[i]? = some o) : (s ++ x :: X)[i]? = some o := by
  rw [show s ++ x :: X = (s ++ [x]) ++ X by simp]
  exact Grw.push _ _ _ _ h
theorem grw_keep (s : List Ob) (x : Ob) (X : List Ob) : Grw (s ++ [x]) (s ++ x :: X) := by
  rw [show s ++ x :: X = (s ++ [x]) ++ X by simp]
  exact .push _ _
section
variable {n m : Nat} {st : List Ob} {K : V → List Ob → Prop}
set_option maxHeartbeats 4000000 in
theorem c_Encode {c : Cmd} (hc : c.at_ st) (hm : 100 < m) (hm2 : c.units.length < m) (h0 : checkB c = false → ∀ s, Grw st s → K (.tup [.tsl [] 0 true true, .sc (.int .i64 1)]) s)
    (h1 : checkB c = true → ∀ w s, Grw st s → Rd Try.prog s 5 w (bs (nb (cmdNums c))) (nb (cmdNums c)).length → K (.tup [w, .sc (.int .i64 0)]) s) : acallF Try.prog pl (n + 8) m 37 [.agg c.v] st K := by
  refine acallF_inF Try.func37 rfl Try.ntmps37 (by simp) ?_
  have g0 := Grw.push st [.cells c.v]
  have b0 : (st ++ [Ob.cells c.v])[st.length]? = some (.cells c.v) := get_new0 _ _
  have hc0 := hc.grw g0
  simp only [Cmd.v] at g0 b0 hc0
  simp only [Cmd.v, hc.one, hc.cv, evf,↓evp,evq,evr,fxa0,fxa1,fxa2,fxa3,fxu,fxn,fxl,↓fxp,lgc,absL,fitL,flatL,ares,ares1,ofVal,unSc,aload,afill,splice,abound,asI,elems,IntKind.bits,sortT,eqNil,closedL,allByte,patch,pendOK,numA,Value.cells,Value.oneCell',ibin,List.replicate,Option.elim,Nat.reduceAdd,Nat.reduceSub,Nat.reduceMul,Nat.reduceLT,Nat.reduceEqDiff,Nat.reduceLeDiff,Nat.reduceBEq,Int.reduceLE,Int.reduceLT,Int.reduceToNat,Int.reduceBNe,Int.reduceBEq,Int.reduceNeg,Int.reduceEq,Int.reduceNe,Nat.reduceBNe,Int.reduceAdd,Int.reduceSub,Int.reduceMul,Int.reducePow,Nat.reducePow,Int.reduceGT,Int.reduceGE,if_true,if_false,ite_true,ite_false,beq_self_eq_true,BEq.rfl,reduceCtorEq,eq_self,ne_eq,Function.comp_def,beq_iff_eq]
  refine c_Check (c := c) hc0 hm2 (by omega) fun s1 j1 => ?_
  have b1 := j1 _ _ b0
  have g1 := g0.trans j1
  cases e : checkB c
  · simp only [eno, e, Bool.false_eq_true, if_false, evf,↓evp,evq,evr,fxa0,fxa1,fxa2,fxa3,fxu,fxn,fxl,↓fxp,lgc,absL,fitL,flatL,ares,ares1,ofVal,unSc,aload,afill,splice,abound,asI,elems,IntKind.bits,sortT,eqNil,closedL,allByte,patch,pendOK,numA,Value.cells,Value.oneCell',ibin,List.replicate,Option.elim,Nat.reduceAdd,Nat.reduceSub,Nat.reduceMul,Nat.reduceLT,Nat.reduceEqDiff,Nat.reduceLeDiff,Nat.reduceBEq,Int.reduceLE,Int.reduceLT,Int.reduceToNat,Int.reduceBNe,Int.reduceBEq,Int.reduceNeg,Int.reduceEq,Int.reduceNe,Nat.reduceBNe,Int.reduceAdd,Int.reduceSub,Int.reduceMul,Int.reducePow,Nat.reducePow,Int.reduceGT,Int.reduceGE,if_true,if_false,ite_true,ite_false,beq_self_eq_true,BEq.rfl,reduceCtorEq,eq_self,ne_eq,Function.comp_def,beq_iff_eq]
    exact h0 e _ g1
  have h1 := h1 e
  obtain ⟨⟨k0, k5⟩, ⟨t0, t1⟩, ⟨p0, p1⟩, ⟨s0, s5⟩, hpart⟩ := check_facts e
  obtain ⟨T, hT⟩ : ∃ T : Nat, c.tick = T := ⟨c.tick.toNat, by omega⟩
  obtain ⟨P, hP⟩ : ∃ T : Nat, c.player = T := ⟨c.player.toNat, by omega⟩
  obtain ⟨Q, hQ⟩ : ∃ T : Nat, c.seq = T := ⟨c.seq.toNat, by omega⟩
  simp only [eno, e, if_true, b1, evf,↓evp,evq,evr,fxa0,fxa1,fxa2,fxa3,fxu,fxn,fxl,↓fxp,lgc,absL,fitL,flatL,ares,ares1,ofVal,unSc,aload,afill,splice,abound,asI,elems,IntKind.bits,sortT,eqNil,closedL,allByte,patch,pendOK,numA,Value.cells,Value.oneCell',ibin,List.replicate,Option.elim,Nat.reduceAdd,Nat.reduceSub,Nat.reduceMul,Nat.reduceLT,Nat.reduceEqDiff,Nat.reduceLeDiff,Nat.reduceBEq,Int.reduceLE,Int.reduceLT,Int.reduceToNat,Int.reduceBNe,Int.reduceBEq,Int.reduceNeg,Int.reduceEq,Int.reduceNe,Nat.reduceBNe,Int.reduceAdd,Int.reduceSub,Int.reduceMul,Int.reducePow,Nat.reducePow,Int.reduceGT,Int.reduceGE,if_true,if_false,ite_true,ite_false,beq_self_eq_true,BEq.rfl,reduceCtorEq,eq_self,ne_eq,Function.comp_def,beq_iff_eq]
  refine c_of fun s2 j2 => ?_
  have bA := Grw.push s2 [.cells (kindV c.kind)] _ _ (j2 _ _ b1)
  have kA' := get_new0 s2 [.cells (kindV c.kind)]
  have gA := (g1.trans j2).push' [.cells (kindV c.kind)]
  simp only [List.getElem?_cons_zero] at kA'
  unfold partsB at hpart
  have hk : c.kind = 1 ∨ c.kind = 2 ∨ c.kind = 3 ∨ c.kind = 4 ∨ c.kind = 5 := by omega
  simp only [kindV, bb] at bA kA' gA
  rcases hk with hk | hk | hk | hk | hk
  · have fU : kU 1 = true := rfl
    have fA : kA 1 = true := rfl
    have fZ : kZ 1 = false := rfl
    have fI : kI 1 = false := rfl
    have fS : kS 1 = false := rfl
    simp only [hk, fU, fA, fZ, fI, fS] at bA kA' gA hpart
    simp only [Bool.false_eq_true, if_true, if_false, Bool.and_eq_true, beq_iff_eq] at hpart
    have hxy : 0 ≤ c.x ∧ c.x < 128 ∧ 0 ≤ c.y ∧ c.y < 128 := by have := hpart.1.1.1.2; rw [has_cell] at this; simp [cellB] at this; omega
    obtain ⟨X, hX⟩ : ∃ T : Nat, c.x = T := ⟨c.x.toNat, by omega⟩
    obtain ⟨Y, hY⟩ : ∃ T : Nat, c.y = T := ⟨c.y.toNat, by omega⟩
    have hun := hpart.1.1.1.1
    simp only [unitsB, Bool.and_eq_true] at hun
    obtain ⟨U, hU, hris⟩ := go_rises c.units 0 hun.1
    have hul : c.units.length = U.length := by rw [hU, ns_length]
    have hu64 : U.length ≤ 64 := by have := hun.2; rw [hul] at this; simp [withinB] at this; omega
    have al : ∀ s', Grw st s' → alen Try.prog s' 53 c.uv = some (.sc (.int .i64 U.length), s') := fun s' h => by rw [← hul]; exact alen_rd (hc.grw h).rd Try.underlying53
    simp only [kindV, bb, bA, kA', fU, fA, fZ, fI, fS, hk, hT, hP, hQ, hX, hY, al, evf,↓evp,evq,evr,fxa0,fxa1,fxa2,fxa3,fxu,fxn,fxl,↓fxp,lgc,absL,fitL,flatL,ares,ares1,ofVal,unSc,aload,afill,splice,abound,asI,elems,IntKind.bits,sortT,eqNil,closedL,allByte,patch,pendOK,numA,Value.cells,Value.oneCell',ibin,List.replicate,Option.elim,Nat.reduceAdd,Nat.reduceSub,Nat.reduceMul,Nat.reduceLT,Nat.reduceEqDiff,Nat.reduceLeDiff,Nat.reduceBEq,Int.reduceLE,Int.reduceLT,Int.reduceToNat,Int.reduceBNe,Int.reduceBEq,Int.reduceNeg,Int.reduceEq,Int.reduceNe,Nat.reduceBNe,Int.reduceAdd,Int.reduceSub,Int.reduceMul,Int.reducePow,Nat.reducePow,Int.reduceGT,Int.reduceGE,if_true,if_false,ite_true,ite_false,beq_self_eq_true,BEq.rfl,reduceCtorEq,eq_self,ne_eq,Function.comp_def,beq_iff_eq]
    refine c_put (n := n + 4) (xs := []) (l := [1, T, P, Q]) nil_rd (row_at (l := [1, T, P, Q]) (id := s2.length + 1) (get_new _ _ 1)) (by simp; omega) (by simp) (by omega) (by simp only [List.length_cons, List.length_nil]; omega) fun w3 s3 j3 hw3 => ?_
    rw [List.nil_append] at hw3
    have b3 := j3 _ _ (get_keep bA)
    have k3 := j3 _ _ (get_keep kA')
    have g3 := (gA.trans (grw_keep _ _ _)).trans j3
    simp only [b3, k3, g3, fU, fA, fZ, fI, fS, hk, hT, hP, hQ, hX, hY, al, evf,↓evp,evq,evr,fxa0,fxa1,fxa2,fxa3,fxu,fxn,fxl,↓fxp,lgc,absL,fitL,flatL,ares,ares1,ofVal,unSc,aload,afill,splice,abound,asI,elems,IntKind.bits,sortT,eqNil,closedL,allByte,patch,pendOK,numA,Value.cells,Value.oneCell',ibin,List.replicate,Option.elim,Nat.reduceAdd,Nat.reduceSub,Nat.reduceMul,Nat.reduceLT,Nat.reduceEqDiff,Nat.reduceLeDiff,Nat.reduceBEq,Int.reduceLE,Int.reduceLT,Int.reduceToNat,Int.reduceBNe,Int.reduceBEq,Int.reduceNeg,Int.reduceEq,Int.reduceNe,Nat.reduceBNe,Int.reduceAdd,Int.reduceSub,Int.reduceMul,Int.reducePow,Nat.reducePow,Int.reduceGT,Int.reduceGE,if_true,if_false,ite_true,ite_false,beq_self_eq_true,BEq.rfl,reduceCtorEq,eq_self,ne_eq,Function.comp_def,beq_iff_eq]
    have n4 := nb_len ([1, T, P, Q]) (by intro x hx; simp at hx; omega)
    refine c_put (n := n + 4) (l := [U.length]) (hw3.grw (.push _ _)) (row_at (l := [U.length]) (id := s3.length) (get_new0 _ _)) (by simp; omega) (by simp only [List.length_cons, List.length_nil, List.length_append, dif_len] at n4 ⊢; omega) (by omega) (by simp only [List.length_cons, List.length_nil]; omega) fun w4 s4 j4 hw4 => ?_
    rw [← nb_append] at hw4
    have G4 := (Grw.push s3 [.row 3 (is (ns [U.length])) 1 0 false]).trans j4
    have b4 := G4 _ _ b3
    have k4 := G4 _ _ k3
    have g4 := g3.trans G4
    simp only [b4, k4, g4, fU, fA, fZ, fI, fS, hk, hT, hP, hQ, hX, hY, al, evf,↓evp,evq,evr,fxa0,fxa1,fxa2,fxa3,fxu,fxn,fxl,↓fxp,lgc,absL,fitL,flatL,ares,ares1,ofVal,unSc,aload,afill,splice,abound,asI,elems,IntKind.bits,sortT,eqNil,closedL,allByte,patch,pendOK,numA,Value.cells,Value.oneCell',ibin,List.replicate,Option.elim,Nat.reduceAdd,Nat.reduceSub,Nat.reduceMul,Nat.reduceLT,Nat.reduceEqDiff,Nat.reduceLeDiff,Nat.reduceBEq,Int.reduceLE,Int.reduceLT,Int.reduceToNat,Int.reduceBNe,Int.reduceBEq,Int.reduceNeg,Int.reduceEq,Int.reduceNe,Nat.reduceBNe,Int.reduceAdd,Int.reduceSub,Int.reduceMul,Int.reducePow,Nat.reducePow,Int.reduceGT,Int.reduceGE,if_true,if_false,ite_true,ite_false,beq_self_eq_true,BEq.rfl,reduceCtorEq,eq_self,ne_eq,Function.comp_def,beq_iff_eq]
    have hus5 : Rd Try.prog s4 3 c.uv (is (ns U)) U.length := by have := (hc.grw g4).rd; rw [hU, ns_length] at this; exact this
    refine enc_loop (n := n + 3) rfl (U := U) (pre := [1, T, P, Q] ++ [U.length]) hus5 hris hu64 (by simp) (by simp; omega) hw4 hm (by simp only [evf, ne_eq, Nat.reduceEqDiff, Nat.reduceLT, not_false_eq_true]) (by simp only [evf, ne_eq, Nat.reduceEqDiff, Nat.reduceLT, not_false_eq_true]) (by simp only [evf, ne_eq, Nat.reduceEqDiff, Nat.reduceLT, not_false_eq_true]) (by simp only [evf, ne_eq, Nat.reduceEqDiff, Nat.reduceLT, not_false_eq_true]) (by simp only [evf, ne_eq, Nat.reduceEqDiff, Nat.reduceLT, not_false_eq_true]) fun f' s5 w5 j5 z1 z5 z7 hw5 => ?_
    simp only [evf, ne_eq, Nat.reduceEqDiff, Nat.reduceLT, not_false_eq_true] at z1 z5
    have b5 := j5 _ _ b4
    have k5 := j5 _ _ k4
    have g5 := g4.trans j5
    simp only [z1, z5, z7, b5, k5, g5, fU, fA, fZ, fI, fS, hk, hT, hP, hQ, hX, hY, al, evf,↓evp,evq,evr,fxa0,fxa1,fxa2,fxa3,fxu,fxn,fxl,↓fxp,lgc,absL,fitL,flatL,ares,ares1,ofVal,unSc,aload,afill,splice,abound,asI,elems,IntKind.bits,sortT,eqNil,closedL,allByte,patch,pendOK,numA,Value.cells,Value.oneCell',ibin,List.replicate,Option.elim,Nat.reduceAdd,Nat.reduceSub,Nat.reduceMul,Nat.reduceLT,Nat.reduceEqDiff,Nat.reduceLeDiff,Nat.reduceBEq,Int.reduceLE,Int.reduceLT,Int.reduceToNat,Int.reduceBNe,Int.reduceBEq,Int.reduceNeg,Int.reduceEq,Int.reduceNe,Nat.reduceBNe,Int.reduceAdd,Int.reduceSub,Int.reduceMul,Int.reducePow,Nat.reducePow,Int.reduceGT,Int.reduceGE,if_true,if_false,ite_true,ite_false,beq_self_eq_true,BEq.rfl,reduceCtorEq,eq_self,ne_eq,Function.comp_def,beq_iff_eq]
    have n6 := nb_len ([1, T, P, Q] ++ [U.length] ++ dif 0 U) (by
      intro x hx
      rcases List.mem_append.1 hx with hx | hx
      · simp at hx; omega
      · have := dif_all U 0 (rises_all U 0 hris) x hx; omega)
    refine c_put (n := n + 4) (l := [X, Y]) (hw5.grw (.push _ _)) (row_at (l := [X, Y]) (id := s5.length) (get_new0 _ _)) (by simp; omega) (by simp only [List.length_cons, List.length_nil, List.length_append, dif_len] at n6 ⊢; omega) (by omega) (by simp only [List.length_cons, List.length_nil]; omega) fun w6 s6 j6 hw6 => ?_
    rw [← nb_append] at hw6
    have G6 := (Grw.push s5 [.row 3 (is (ns [X, Y])) 2 0 false]).trans j6
    have b6 := G6 _ _ b5
    have k6 := G6 _ _ k5
    have g6 := g5.trans G6
    simp only [z1, z5, z7, b6, k6, g6, fU, fA, fZ, fI, fS, hk, hT, hP, hQ, hX, hY, al, evf,↓evp,evq,evr,fxa0,fxa1,fxa2,fxa3,fxu,fxn,fxl,↓fxp,lgc,absL,fitL,flatL,ares,ares1,ofVal,unSc,aload,afill,splice,abound,asI,elems,IntKind.bits,sortT,eqNil,closedL,allByte,patch,pendOK,numA,Value.cells,Value.oneCell',ibin,List.replicate,Option.elim,Nat.reduceAdd,Nat.reduceSub,Nat.reduceMul,Nat.reduceLT,Nat.reduceEqDiff,Nat.reduceLeDiff,Nat.reduceBEq,Int.reduceLE,Int.reduceLT,Int.reduceToNat,Int.reduceBNe,Int.reduceBEq,Int.reduceNeg,Int.reduceEq,Int.reduceNe,Nat.reduceBNe,Int.reduceAdd,Int.reduceSub,Int.reduceMul,Int.reducePow,Nat.reducePow,Int.reduceGT,Int.reduceGE,if_true,if_false,ite_true,ite_false,beq_self_eq_true,BEq.rfl,reduceCtorEq,eq_self,ne_eq,Function.comp_def,beq_iff_eq]
    have hnum : cmdNums c = [1, T, P, Q] ++ [U.length] ++ dif 0 U ++ [X, Y] := by
      simp [cmdNums, fU, fA, fZ, fI, fS, hk, hT, hP, hQ, hX, hY, hU, ns_toNat, ns_length]
    rw [← hnum] at hw6
    exact h1 w6 s6 g6 hw6
  · have fU : kU 2 = true := rfl
    have fA : kA 2 = false := rfl
    have fZ : kZ 2 = false := rfl
    have fI : kI 2 = false := rfl
    have fS : kS 2 = false := rfl
    simp only [hk, fU, fA, fZ, fI, fS] at bA kA' gA hpart
    simp only [Bool.false_eq_true, if_true, if_false, Bool.and_eq_true, beq_iff_eq] at hpart
    have hun := hpart.1.1.1.1
    simp only [unitsB, Bool.and_eq_true] at hun
    obtain ⟨U, hU, hris⟩ := go_rises c.units 0 hun.1
    have hul : c.units.length = U.length := by rw [hU, ns_length]
    have hu64 : U.length ≤ 64 := by have := hun.2; rw [hul] at this; simp [withinB] at this; omega
    have al : ∀ s', Grw st s' → alen Try.prog s' 53 c.uv = some (.sc (.int .i64 U.length), s') := fun s' h => by rw [← hul]; exact alen_rd (hc.grw h).rd Try.underlying53
    simp only [kindV, bb, bA, kA', fU, fA, fZ, fI, fS, hk, hT, hP, hQ, al, evf,↓evp,evq,evr,fxa0,fxa1,fxa2,fxa3,fxu,fxn,fxl,↓fxp,lgc,absL,fitL,flatL,ares,ares1,ofVal,unSc,aload,afill,splice,abound,asI,elems,IntKind.bits,sortT,eqNil,closedL,allByte,patch,pendOK,numA,Value.cells,Value.oneCell',ibin,List.replicate,Option.elim,Nat.reduceAdd,Nat.reduceSub,Nat.reduceMul,Nat.reduceLT,Nat.reduceEqDiff,Nat.reduceLeDiff,Nat.reduceBEq,Int.reduceLE,Int.reduceLT,Int.reduceToNat,Int.reduceBNe,Int.reduceBEq,Int.reduceNeg,Int.reduceEq,Int.reduceNe,Nat.reduceBNe,Int.reduceAdd,Int.reduceSub,Int.reduceMul,Int.reducePow,Nat.reducePow,Int.reduceGT,Int.reduceGE,if_true,if_false,ite_true,ite_false,beq_self_eq_true,BEq.rfl,reduceCtorEq,eq_self,ne_eq,Function.comp_def,beq_iff_eq]
    refine c_put (n := n + 4) (xs := []) (l := [2, T, P, Q]) nil_rd (row_at (l := [2, T, P, Q]) (id := s2.length + 1) (get_new _ _ 1)) (by simp; omega) (by simp) (by omega) (by simp only [List.length_cons, List.length_nil]; omega) fun w3 s3 j3 hw3 => ?_
    rw [List.nil_append] at hw3
    have b3 := j3 _ _ (get_keep bA)
    have k3 := j3 _ _ (get_keep kA')
    have g3 := (gA.trans (grw_keep _ _ _)).trans j3
    simp only [b3, k3, g3, fU, fA, fZ, fI, fS, hk, hT, hP, hQ, al, evf,↓evp,evq,evr,fxa0,fxa1,fxa2,fxa3,fxu,fxn,fxl,↓fxp,lgc,absL,fitL,flatL,ares,ares1,ofVal,unSc,aload,afill,splice,abound,asI,elems,IntKind.bits,sortT,eqNil,closedL,allByte,patch,pendOK,numA,Value.cells,Value.oneCell',ibin,List.replicate,Option.elim,Nat.reduceAdd,Nat.reduceSub,Nat.reduceMul,Nat.reduceLT,Nat.reduceEqDiff,Nat.reduceLeDiff,Nat.reduceBEq,Int.reduceLE,Int.reduceLT,Int.reduceToNat,Int.reduceBNe,Int.reduceBEq,Int.reduceNeg,Int.reduceEq,Int.reduceNe,Nat.reduceBNe,Int.reduceAdd,Int.reduceSub,Int.reduceMul,Int.reducePow,Nat.reducePow,Int.reduceGT,Int.reduceGE,if_true,if_false,ite_true,ite_false,beq_self_eq_true,BEq.rfl,reduceCtorEq,eq_self,ne_eq,Function.comp_def,beq_iff_eq]
    have n4 := nb_len ([2, T, P, Q]) (by intro x hx; simp at hx; omega)
    refine c_put (n := n + 4) (l := [U.length]) (hw3.grw (.push _ _)) (row_at (l := [U.length]) (id := s3.length) (get_new0 _ _)) (by simp; omega) (by simp only [List.length_cons, List.length_nil, List.length_append, dif_len] at n4 ⊢; omega) (by omega) (by simp only [List.length_cons, List.length_nil]; omega) fun w4 s4 j4 hw4 => ?_
    rw [← nb_append] at hw4
    have G4 := (Grw.push s3 [.row 3 (is (ns [U.length])) 1 0 false]).trans j4
    have b4 := G4 _ _ b3
    have k4 := G4 _ _ k3
    have g4 := g3.trans G4
    simp only [b4, k4, g4, fU, fA, fZ, fI, fS, hk, hT, hP, hQ, al, evf,↓evp,evq,evr,fxa0,fxa1,fxa2,fxa3,fxu,fxn,fxl,↓fxp,lgc,absL,fitL,flatL,ares,ares1,ofVal,unSc,aload,afill,splice,abound,asI,elems,IntKind.bits,sortT,eqNil,closedL,allByte,patch,pendOK,numA,Value.cells,Value.oneCell',ibin,List.replicate,Option.elim,Nat.reduceAdd,Nat.reduceSub,Nat.reduceMul,Nat.reduceLT,Nat.reduceEqDiff,Nat.reduceLeDiff,Nat.reduceBEq,Int.reduceLE,Int.reduceLT,Int.reduceToNat,Int.reduceBNe,Int.reduceBEq,Int.reduceNeg,Int.reduceEq,Int.reduceNe,Nat.reduceBNe,Int.reduceAdd,Int.reduceSub,Int.reduceMul,Int.reducePow,Nat.reducePow,Int.reduceGT,Int.reduceGE,if_true,if_false,ite_true,ite_false,beq_self_eq_true,BEq.rfl,reduceCtorEq,eq_self,ne_eq,Function.comp_def,beq_iff_eq]
    have hus5 : Rd Try.prog s4 3 c.uv (is (ns U)) U.length := by have := (hc.grw g4).rd; rw [hU, ns_length] at this; exact this
    refine enc_loop (n := n + 3) rfl (U := U) (pre := [2, T, P, Q] ++ [U.length]) hus5 hris hu64 (by simp) (by simp; omega) hw4 hm (by simp only [evf, ne_eq, Nat.reduceEqDiff, Nat.reduceLT, not_false_eq_true]) (by simp only [evf, ne_eq, Nat.reduceEqDiff, Nat.reduceLT, not_false_eq_true]) (by simp only [evf, ne_eq, Nat.reduceEqDiff, Nat.reduceLT, not_false_eq_true]) (by simp only [evf, ne_eq, Nat.reduceEqDiff, Nat.reduceLT, not_false_eq_true]) (by simp only [evf, ne_eq, Nat.reduceEqDiff, Nat.reduceLT, not_false_eq_true]) fun f' s5 w5 j5 z1 z5 z7 hw5 => ?_
    simp only [evf, ne_eq, Nat.reduceEqDiff, Nat.reduceLT, not_false_eq_true] at z1 z5
    have b5 := j5 _ _ b4
    have k5 := j5 _ _ k4
    have g5 := g4.trans j5
    simp only [z1, z5, z7, b5, k5, g5, fU, fA, fZ, fI, fS, hk, hT, hP, hQ, al, evf,↓evp,evq,evr,fxa0,fxa1,fxa2,fxa3,fxu,fxn,fxl,↓fxp,lgc,absL,fitL,flatL,ares,ares1,ofVal,unSc,aload,afill,splice,abound,asI,elems,IntKind.bits,sortT,eqNil,closedL,allByte,patch,pendOK,numA,Value.cells,Value.oneCell',ibin,List.replicate,Option.elim,Nat.reduceAdd,Nat.reduceSub,Nat.reduceMul,Nat.reduceLT,Nat.reduceEqDiff,Nat.reduceLeDiff,Nat.reduceBEq,Int.reduceLE,Int.reduceLT,Int.reduceToNat,Int.reduceBNe,Int.reduceBEq,Int.reduceNeg,Int.reduceEq,Int.reduceNe,Nat.reduceBNe,Int.reduceAdd,Int.reduceSub,Int.reduceMul,Int.reducePow,Nat.reducePow,Int.reduceGT,Int.reduceGE,if_true,if_false,ite_true,ite_false,beq_self_eq_true,BEq.rfl,reduceCtorEq,eq_self,ne_eq,Function.comp_def,beq_iff_eq]
    have hnum : cmdNums c = [2, T, P, Q] ++ [U.length] ++ dif 0 U := by
      simp [cmdNums, fU, fA, fZ, fI, fS, hk, hT, hP, hQ, hU, ns_toNat, ns_length]
    rw [← hnum] at hw5
    exact h1 w5 s5 g5 hw5
  · have fU : kU 3 = false := rfl
    have fA : kA 3 = true := rfl
    have fZ : kZ 3 = true := rfl
    have fI : kI 3 = true := rfl
    have fS : kS 3 = false := rfl
    simp only [hk, fU, fA, fZ, fI, fS] at bA kA' gA hpart
    simp only [Bool.false_eq_true, if_true, if_false, Bool.and_eq_true, beq_iff_eq] at hpart
    obtain ⟨I, hI⟩ : ∃ T : Nat, c.id = T := ⟨c.id.toNat, by simp [withinB] at hpart; omega⟩
    have lI : I < 9223372036854775808 := by simp [withinB] at hpart; omega
    have hxy : 0 ≤ c.x ∧ c.x < 128 ∧ 0 ≤ c.y ∧ c.y < 128 := by have := hpart.1.1.1.2; rw [has_cell] at this; simp [cellB] at this; omega
    obtain ⟨X, hX⟩ : ∃ T : Nat, c.x = T := ⟨c.x.toNat, by omega⟩
    obtain ⟨Y, hY⟩ : ∃ T : Nat, c.y = T := ⟨c.y.toNat, by omega⟩
    have hwh : 1 ≤ c.w ∧ c.w ≤ 8 ∧ 1 ≤ c.h ∧ c.h ≤ 8 := by have := hpart.1.1.2; simp [withinB] at this; omega
    obtain ⟨W, hW⟩ : ∃ T : Nat, c.w = T := ⟨c.w.toNat, by omega⟩
    obtain ⟨H, hH⟩ : ∃ T : Nat, c.h = T := ⟨c.h.toNat, by omega⟩
    simp only [kindV, bb, bA, kA', fU, fA, fZ, fI, fS, hk, hT, hP, hQ, hI, hX, hY, hW, hH, evf,↓evp,evq,evr,fxa0,fxa1,fxa2,fxa3,fxu,fxn,fxl,↓fxp,lgc,absL,fitL,flatL,ares,ares1,ofVal,unSc,aload,afill,splice,abound,asI,elems,IntKind.bits,sortT,eqNil,closedL,allByte,patch,pendOK,numA,Value.cells,Value.oneCell',ibin,List.replicate,Option.elim,Nat.reduceAdd,Nat.reduceSub,Nat.reduceMul,Nat.reduceLT,Nat.reduceEqDiff,Nat.reduceLeDiff,Nat.reduceBEq,Int.reduceLE,Int.reduceLT,Int.reduceToNat,Int.reduceBNe,Int.reduceBEq,Int.reduceNeg,Int.reduceEq,Int.reduceNe,Nat.reduceBNe,Int.reduceAdd,Int.reduceSub,Int.reduceMul,Int.reducePow,Nat.reducePow,Int.reduceGT,Int.reduceGE,if_true,if_false,ite_true,ite_false,beq_self_eq_true,BEq.rfl,reduceCtorEq,eq_self,ne_eq,Function.comp_def,beq_iff_eq]
    refine c_put (n := n + 4) (xs := []) (l := [3, T, P, Q]) nil_rd (row_at (l := [3, T, P, Q]) (id := s2.length + 1) (get_new _ _ 1)) (by simp; omega) (by simp) (by omega) (by simp only [List.length_cons, List.length_nil]; omega) fun w3 s3 j3 hw3 => ?_
    rw [List.nil_append] at hw3
    have b3 := j3 _ _ (get_keep bA)
    have k3 := j3 _ _ (get_keep kA')
    have g3 := (gA.trans (grw_keep _ _ _)).trans j3
    simp only [b3, k3, g3, fU, fA, fZ, fI, fS, hk, hT, hP, hQ, hI, hX, hY, hW, hH, evf,↓evp,evq,evr,fxa0,fxa1,fxa2,fxa3,fxu,fxn,fxl,↓fxp,lgc,absL,fitL,flatL,ares,ares1,ofVal,unSc,aload,afill,splice,abound,asI,elems,IntKind.bits,sortT,eqNil,closedL,allByte,patch,pendOK,numA,Value.cells,Value.oneCell',ibin,List.replicate,Option.elim,Nat.reduceAdd,Nat.reduceSub,Nat.reduceMul,Nat.reduceLT,Nat.reduceEqDiff,Nat.reduceLeDiff,Nat.reduceBEq,Int.reduceLE,Int.reduceLT,Int.reduceToNat,Int.reduceBNe,Int.reduceBEq,Int.reduceNeg,Int.reduceEq,Int.reduceNe,Nat.reduceBNe,Int.reduceAdd,Int.reduceSub,Int.reduceMul,Int.reducePow,Nat.reducePow,Int.reduceGT,Int.reduceGE,if_true,if_false,ite_true,ite_false,beq_self_eq_true,BEq.rfl,reduceCtorEq,eq_self,ne_eq,Function.comp_def,beq_iff_eq]
    have n4 := nb_len ([3, T, P, Q]) (by intro x hx; simp at hx; omega)
    refine c_put (n := n + 4) (l := [I]) (hw3.grw (.push _ _)) (row_at (l := [I]) (id := s3.length) (get_new0 _ _)) (by simp; omega) (by simp only [List.length_cons, List.length_nil, List.length_append, dif_len] at n4 ⊢; omega) (by omega) (by simp only [List.length_cons, List.length_nil]; omega) fun w4 s4 j4 hw4 => ?_
    rw [← nb_append] at hw4
    have G4 := (Grw.push s3 [.row 3 (is (ns [I])) 1 0 false]).trans j4
    have b4 := G4 _ _ b3
    have k4 := G4 _ _ k3
    have g4 := g3.trans G4
    simp only [b4, k4, g4, fU, fA, fZ, fI, fS, hk, hT, hP, hQ, hI, hX, hY, hW, hH, evf,↓evp,evq,evr,fxa0,fxa1,fxa2,fxa3,fxu,fxn,fxl,↓fxp,lgc,absL,fitL,flatL,ares,ares1,ofVal,unSc,aload,afill,splice,abound,asI,elems,IntKind.bits,sortT,eqNil,closedL,allByte,patch,pendOK,numA,Value.cells,Value.oneCell',ibin,List.replicate,Option.elim,Nat.reduceAdd,Nat.reduceSub,Nat.reduceMul,Nat.reduceLT,Nat.reduceEqDiff,Nat.reduceLeDiff,Nat.reduceBEq,Int.reduceLE,Int.reduceLT,Int.reduceToNat,Int.reduceBNe,Int.reduceBEq,Int.reduceNeg,Int.reduceEq,Int.reduceNe,Nat.reduceBNe,Int.reduceAdd,Int.reduceSub,Int.reduceMul,Int.reducePow,Nat.reducePow,Int.reduceGT,Int.reduceGE,if_true,if_false,ite_true,ite_false,beq_self_eq_true,BEq.rfl,reduceCtorEq,eq_self,ne_eq,Function.comp_def,beq_iff_eq]
    have n5 := nb_len ([3, T, P, Q] ++ [I]) (by intro x hx; simp at hx; omega)
    refine c_put (n := n + 4) (l := [X, Y]) (hw4.grw (.push _ _)) (row_at (l := [X, Y]) (id := s4.length) (get_new0 _ _)) (by simp; omega) (by simp only [List.length_cons, List.length_nil, List.length_append, dif_len] at n5 ⊢; omega) (by omega) (by simp only [List.length_cons, List.length_nil]; omega) fun w5 s5 j5 hw5 => ?_
    rw [← nb_append] at hw5
    have G5 := (Grw.push s4 [.row 3 (is (ns [X, Y])) 2 0 false]).trans j5
    have b5 := G5 _ _ b4
    have k5 := G5 _ _ k4
    have g5 := g4.trans G5
    simp only [b5, k5, g5, fU, fA, fZ, fI, fS, hk, hT, hP, hQ, hI, hX, hY, hW, hH, evf,↓evp,evq,evr,fxa0,fxa1,fxa2,fxa3,fxu,fxn,fxl,↓fxp,lgc,absL,fitL,flatL,ares,ares1,ofVal,unSc,aload,afill,splice,abound,asI,elems,IntKind.bits,sortT,eqNil,closedL,allByte,patch,pendOK,numA,Value.cells,Value.oneCell',ibin,List.replicate,Option.elim,Nat.reduceAdd,Nat.reduceSub,Nat.reduceMul,Nat.reduceLT,Nat.reduceEqDiff,Nat.reduceLeDiff,Nat.reduceBEq,Int.reduceLE,Int.reduceLT,Int.reduceToNat,Int.reduceBNe,Int.reduceBEq,Int.reduceNeg,Int.reduceEq,Int.reduceNe,Nat.reduceBNe,Int.reduceAdd,Int.reduceSub,Int.reduceMul,Int.reducePow,Nat.reducePow,Int.reduceGT,Int.reduceGE,if_true,if_false,ite_true,ite_false,beq_self_eq_true,BEq.rfl,reduceCtorEq,eq_self,ne_eq,Function.comp_def,beq_iff_eq]
    have n6 := nb_len ([3, T, P, Q] ++ [I] ++ [X, Y]) (by intro x hx; simp at hx; omega)
    refine c_put (n := n + 4) (l := [W, H]) (hw5.grw (.push _ _)) (row_at (l := [W, H]) (id := s5.length) (get_new0 _ _)) (by simp; omega) (by simp only [List.length_cons, List.length_nil, List.length_append, dif_len] at n6 ⊢; omega) (by omega) (by simp only [List.length_cons, List.length_nil]; omega) fun w6 s6 j6 hw6 => ?_
    rw [← nb_append] at hw6
    have G6 := (Grw.push s5 [.row 3 (is (ns [W, H])) 2 0 false]).trans j6
    have b6 := G6 _ _ b5
    have k6 := G6 _ _ k5
    have g6 := g5.trans G6
    simp only [b6, k6, g6, fU, fA, fZ, fI, fS, hk, hT, hP, hQ, hI, hX, hY, hW, hH, evf,↓evp,evq,evr,fxa0,fxa1,fxa2,fxa3,fxu,fxn,fxl,↓fxp,lgc,absL,fitL,flatL,ares,ares1,ofVal,unSc,aload,afill,splice,abound,asI,elems,IntKind.bits,sortT,eqNil,closedL,allByte,patch,pendOK,numA,Value.cells,Value.oneCell',ibin,List.replicate,Option.elim,Nat.reduceAdd,Nat.reduceSub,Nat.reduceMul,Nat.reduceLT,Nat.reduceEqDiff,Nat.reduceLeDiff,Nat.reduceBEq,Int.reduceLE,Int.reduceLT,Int.reduceToNat,Int.reduceBNe,Int.reduceBEq,Int.reduceNeg,Int.reduceEq,Int.reduceNe,Nat.reduceBNe,Int.reduceAdd,Int.reduceSub,Int.reduceMul,Int.reducePow,Nat.reducePow,Int.reduceGT,Int.reduceGE,if_true,if_false,ite_true,ite_false,beq_self_eq_true,BEq.rfl,reduceCtorEq,eq_self,ne_eq,Function.comp_def,beq_iff_eq]
    have hnum : cmdNums c = [3, T, P, Q] ++ [I] ++ [X, Y] ++ [W, H] := by
      simp [cmdNums, fU, fA, fZ, fI, fS, hk, hT, hP, hQ, hI, hX, hY, hW, hH]
    rw [← hnum] at hw6
    exact h1 w6 s6 g6 hw6
  · have fU : kU 4 = false := rfl
    have fA : kA 4 = false := rfl
    have fZ : kZ 4 = false := rfl
    have fI : kI 4 = true := rfl
    have fS : kS 4 = false := rfl
    simp only [hk, fU, fA, fZ, fI, fS] at bA kA' gA hpart
    simp only [Bool.false_eq_true, if_true, if_false, Bool.and_eq_true, beq_iff_eq] at hpart
    obtain ⟨I, hI⟩ : ∃ T : Nat, c.id = T := ⟨c.id.toNat, by simp [withinB] at hpart; omega⟩
    have lI : I < 9223372036854775808 := by simp [withinB] at hpart; omega
    simp only [kindV, bb, bA, kA', fU, fA, fZ, fI, fS, hk, hT, hP, hQ, hI, evf,↓evp,evq,evr,fxa0,fxa1,fxa2,fxa3,fxu,fxn,fxl,↓fxp,lgc,absL,fitL,flatL,ares,ares1,ofVal,unSc,aload,afill,splice,abound,asI,elems,IntKind.bits,sortT,eqNil,closedL,allByte,patch,pendOK,numA,Value.cells,Value.oneCell',ibin,List.replicate,Option.elim,Nat.reduceAdd,Nat.reduceSub,Nat.reduceMul,Nat.reduceLT,Nat.reduceEqDiff,Nat.reduceLeDiff,Nat.reduceBEq,Int.reduceLE,Int.reduceLT,Int.reduceToNat,Int.reduceBNe,Int.reduceBEq,Int.reduceNeg,Int.reduceEq,Int.reduceNe,Nat.reduceBNe,Int.reduceAdd,Int.reduceSub,Int.reduceMul,Int.reducePow,Nat.reducePow,Int.reduceGT,Int.reduceGE,if_true,if_false,ite_true,ite_false,beq_self_eq_true,BEq.rfl,reduceCtorEq,eq_self,ne_eq,Function.comp_def,beq_iff_eq]
    refine c_put (n := n + 4) (xs := []) (l := [4, T, P, Q]) nil_rd (row_at (l := [4, T, P, Q]) (id := s2.length + 1) (get_new _ _ 1)) (by simp; omega) (by simp) (by omega) (by simp only [List.length_cons, List.length_nil]; omega) fun w3 s3 j3 hw3 => ?_
    rw [List.nil_append] at hw3
    have b3 := j3 _ _ (get_keep bA)
    have k3 := j3 _ _ (get_keep kA')
    have g3 := (gA.trans (grw_keep _ _ _)).trans j3
    simp only [b3, k3, g3, fU, fA, fZ, fI, fS, hk, hT, hP, hQ, hI, evf,↓evp,evq,evr,fxa0,fxa1,fxa2,fxa3,fxu,fxn,fxl,↓fxp,lgc,absL,fitL,flatL,ares,ares1,ofVal,unSc,aload,afill,splice,abound,asI,elems,IntKind.bits,sortT,eqNil,closedL,allByte,patch,pendOK,numA,Value.cells,Value.oneCell',ibin,List.replicate,Option.elim,Nat.reduceAdd,Nat.reduceSub,Nat.reduceMul,Nat.reduceLT,Nat.reduceEqDiff,Nat.reduceLeDiff,Nat.reduceBEq,Int.reduceLE,Int.reduceLT,Int.reduceToNat,Int.reduceBNe,Int.reduceBEq,Int.reduceNeg,Int.reduceEq,Int.reduceNe,Nat.reduceBNe,Int.reduceAdd,Int.reduceSub,Int.reduceMul,Int.reducePow,Nat.reducePow,Int.reduceGT,Int.reduceGE,if_true,if_false,ite_true,ite_false,beq_self_eq_true,BEq.rfl,reduceCtorEq,eq_self,ne_eq,Function.comp_def,beq_iff_eq]
    have n4 := nb_len ([4, T, P, Q]) (by intro x hx; simp at hx; omega)
    refine c_put (n := n + 4) (l := [I]) (hw3.grw (.push _ _)) (row_at (l := [I]) (id := s3.length) (get_new0 _ _)) (by simp; omega) (by simp only [List.length_cons, List.length_nil, List.length_append, dif_len] at n4 ⊢; omega) (by omega) (by simp only [List.length_cons, List.length_nil]; omega) fun w4 s4 j4 hw4 => ?_
    rw [← nb_append] at hw4
    have G4 := (Grw.push s3 [.row 3 (is (ns [I])) 1 0 false]).trans j4
    have b4 := G4 _ _ b3
    have k4 := G4 _ _ k3
    have g4 := g3.trans G4
    simp only [b4, k4, g4, fU, fA, fZ, fI, fS, hk, hT, hP, hQ, hI, evf,↓evp,evq,evr,fxa0,fxa1,fxa2,fxa3,fxu,fxn,fxl,↓fxp,lgc,absL,fitL,flatL,ares,ares1,ofVal,unSc,aload,afill,splice,abound,asI,elems,IntKind.bits,sortT,eqNil,closedL,allByte,patch,pendOK,numA,Value.cells,Value.oneCell',ibin,List.replicate,Option.elim,Nat.reduceAdd,Nat.reduceSub,Nat.reduceMul,Nat.reduceLT,Nat.reduceEqDiff,Nat.reduceLeDiff,Nat.reduceBEq,Int.reduceLE,Int.reduceLT,Int.reduceToNat,Int.reduceBNe,Int.reduceBEq,Int.reduceNeg,Int.reduceEq,Int.reduceNe,Nat.reduceBNe,Int.reduceAdd,Int.reduceSub,Int.reduceMul,Int.reducePow,Nat.reducePow,Int.reduceGT,Int.reduceGE,if_true,if_false,ite_true,ite_false,beq_self_eq_true,BEq.rfl,reduceCtorEq,eq_self,ne_eq,Function.comp_def,beq_iff_eq]
    have hnum : cmdNums c = [4, T, P, Q] ++ [I] := by
      simp [cmdNums, fU, fA, fZ, fI, fS, hk, hT, hP, hQ, hI]
    rw [← hnum] at hw4
    exact h1 w4 s4 g4 hw4
  · have fU : kU 5 = false := rfl
    have fA : kA 5 = true := rfl
    have fZ : kZ 5 = false := rfl
    have fI : kI 5 = true := rfl
    have fS : kS 5 = true := rfl
    simp only [hk, fU, fA, fZ, fI, fS] at bA kA' gA hpart
    simp only [Bool.false_eq_true, if_true, if_false, Bool.and_eq_true, beq_iff_eq] at hpart
    obtain ⟨I, hI⟩ : ∃ T : Nat, c.id = T := ⟨c.id.toNat, by simp [withinB] at hpart; omega⟩
    have lI : I < 9223372036854775808 := by simp [withinB] at hpart; omega
    have hxy : 0 ≤ c.x ∧ c.x < 128 ∧ 0 ≤ c.y ∧ c.y < 128 := by have := hpart.1.1.1.2; rw [has_cell] at this; simp [cellB] at this; omega
    obtain ⟨X, hX⟩ : ∃ T : Nat, c.x = T := ⟨c.x.toNat, by omega⟩
    obtain ⟨Y, hY⟩ : ∃ T : Nat, c.y = T := ⟨c.y.toNat, by omega⟩
    have hcz : 0 ≤ c.cls ∧ c.cls < 4 ∧ 1 ≤ c.sz ∧ c.sz ≤ 4 := by have := hpart.2; simp [shapeB] at this; omega
    obtain ⟨C, hC⟩ : ∃ T : Nat, c.cls = T := ⟨c.cls.toNat, by omega⟩
    obtain ⟨Z, hZ⟩ : ∃ T : Nat, c.sz = T := ⟨c.sz.toNat, by omega⟩
    simp only [kindV, bb, bA, kA', fU, fA, fZ, fI, fS, hk, hT, hP, hQ, hI, hX, hY, hC, hZ, evf,↓evp,evq,evr,fxa0,fxa1,fxa2,fxa3,fxu,fxn,fxl,↓fxp,lgc,absL,fitL,flatL,ares,ares1,ofVal,unSc,aload,afill,splice,abound,asI,elems,IntKind.bits,sortT,eqNil,closedL,allByte,patch,pendOK,numA,Value.cells,Value.oneCell',ibin,List.replicate,Option.elim,Nat.reduceAdd,Nat.reduceSub,Nat.reduceMul,Nat.reduceLT,Nat.reduceEqDiff,Nat.reduceLeDiff,Nat.reduceBEq,Int.reduceLE,Int.reduceLT,Int.reduceToNat,Int.reduceBNe,Int.reduceBEq,Int.reduceNeg,Int.reduceEq,Int.reduceNe,Nat.reduceBNe,Int.reduceAdd,Int.reduceSub,Int.reduceMul,Int.reducePow,Nat.reducePow,Int.reduceGT,Int.reduceGE,if_true,if_false,ite_true,ite_false,beq_self_eq_true,BEq.rfl,reduceCtorEq,eq_self,ne_eq,Function.comp_def,beq_iff_eq]
    refine c_put (n := n + 4) (xs := []) (l := [5, T, P, Q]) nil_rd (row_at (l := [5, T, P, Q]) (id := s2.length + 1) (get_new _ _ 1)) (by simp; omega) (by simp) (by omega) (by simp only [List.length_cons, List.length_nil]; omega) fun w3 s3 j3 hw3 => ?_
    rw [List.nil_append] at hw3
    have b3 := j3 _ _ (get_keep bA)
    have k3 := j3 _ _ (get_keep kA')
    have g3 := (gA.trans (grw_keep _ _ _)).trans j3
    simp only [b3, k3, g3, fU, fA, fZ, fI, fS, hk, hT, hP, hQ, hI, hX, hY, hC, hZ, evf,↓evp,evq,evr,fxa0,fxa1,fxa2,fxa3,fxu,fxn,fxl,↓fxp,lgc,absL,fitL,flatL,ares,ares1,ofVal,unSc,aload,afill,splice,abound,asI,elems,IntKind.bits,sortT,eqNil,closedL,allByte,patch,pendOK,numA,Value.cells,Value.oneCell',ibin,List.replicate,Option.elim,Nat.reduceAdd,Nat.reduceSub,Nat.reduceMul,Nat.reduceLT,Nat.reduceEqDiff,Nat.reduceLeDiff,Nat.reduceBEq,Int.reduceLE,Int.reduceLT,Int.reduceToNat,Int.reduceBNe,Int.reduceBEq,Int.reduceNeg,Int.reduceEq,Int.reduceNe,Nat.reduceBNe,Int.reduceAdd,Int.reduceSub,Int.reduceMul,Int.reducePow,Nat.reducePow,Int.reduceGT,Int.reduceGE,if_true,if_false,ite_true,ite_false,beq_self_eq_true,BEq.rfl,reduceCtorEq,eq_self,ne_eq,Function.comp_def,beq_iff_eq]
    have n4 := nb_len ([5, T, P, Q]) (by intro x hx; simp at hx; omega)
    refine c_put (n := n + 4) (l := [I]) (hw3.grw (.push _ _)) (row_at (l := [I]) (id := s3.length) (get_new0 _ _)) (by simp; omega) (by simp only [List.length_cons, List.length_nil, List.length_append, dif_len] at n4 ⊢; omega) (by omega) (by simp only [List.length_cons, List.length_nil]; omega) fun w4 s4 j4 hw4 => ?_
    rw [← nb_append] at hw4
    have G4 := (Grw.push s3 [.row 3 (is (ns [I])) 1 0 false]).trans j4
    have b4 := G4 _ _ b3
    have k4 := G4 _ _ k3
    have g4 := g3.trans G4
    simp only [b4, k4, g4, fU, fA, fZ, fI, fS, hk, hT, hP, hQ, hI, hX, hY, hC, hZ, evf,↓evp,evq,evr,fxa0,fxa1,fxa2,fxa3,fxu,fxn,fxl,↓fxp,lgc,absL,fitL,flatL,ares,ares1,ofVal,unSc,aload,afill,splice,abound,asI,elems,IntKind.bits,sortT,eqNil,closedL,allByte,patch,pendOK,numA,Value.cells,Value.oneCell',ibin,List.replicate,Option.elim,Nat.reduceAdd,Nat.reduceSub,Nat.reduceMul,Nat.reduceLT,Nat.reduceEqDiff,Nat.reduceLeDiff,Nat.reduceBEq,Int.reduceLE,Int.reduceLT,Int.reduceToNat,Int.reduceBNe,Int.reduceBEq,Int.reduceNeg,Int.reduceEq,Int.reduceNe,Nat.reduceBNe,Int.reduceAdd,Int.reduceSub,Int.reduceMul,Int.reducePow,Nat.reducePow,Int.reduceGT,Int.reduceGE,if_true,if_false,ite_true,ite_false,beq_self_eq_true,BEq.rfl,reduceCtorEq,eq_self,ne_eq,Function.comp_def,beq_iff_eq]
    have n5 := nb_len ([5, T, P, Q] ++ [I]) (by intro x hx; simp at hx; omega)
    refine c_put (n := n + 4) (l := [X, Y]) (hw4.grw (.push _ _)) (row_at (l := [X, Y]) (id := s4.length) (get_new0 _ _)) (by simp; omega) (by simp only [List.length_cons, List.length_nil, List.length_append, dif_len] at n5 ⊢; omega) (by omega) (by simp only [List.length_cons, List.length_nil]; omega) fun w5 s5 j5 hw5 => ?_
    rw [← nb_append] at hw5
    have G5 := (Grw.push s4 [.row 3 (is (ns [X, Y])) 2 0 false]).trans j5
    have b5 := G5 _ _ b4
    have k5 := G5 _ _ k4
    have g5 := g4.trans G5
    simp only [b5, k5, g5, fU, fA, fZ, fI, fS, hk, hT, hP, hQ, hI, hX, hY, hC, hZ, evf,↓evp,evq,evr,fxa0,fxa1,fxa2,fxa3,fxu,fxn,fxl,↓fxp,lgc,absL,fitL,flatL,ares,ares1,ofVal,unSc,aload,afill,splice,abound,asI,elems,IntKind.bits,sortT,eqNil,closedL,allByte,patch,pendOK,numA,Value.cells,Value.oneCell',ibin,List.replicate,Option.elim,Nat.reduceAdd,Nat.reduceSub,Nat.reduceMul,Nat.reduceLT,Nat.reduceEqDiff,Nat.reduceLeDiff,Nat.reduceBEq,Int.reduceLE,Int.reduceLT,Int.reduceToNat,Int.reduceBNe,Int.reduceBEq,Int.reduceNeg,Int.reduceEq,Int.reduceNe,Nat.reduceBNe,Int.reduceAdd,Int.reduceSub,Int.reduceMul,Int.reducePow,Nat.reducePow,Int.reduceGT,Int.reduceGE,if_true,if_false,ite_true,ite_false,beq_self_eq_true,BEq.rfl,reduceCtorEq,eq_self,ne_eq,Function.comp_def,beq_iff_eq]
    have n6 := nb_len ([5, T, P, Q] ++ [I] ++ [X, Y]) (by intro x hx; simp at hx; omega)
    refine c_put (n := n + 4) (l := [C, Z]) (hw5.grw (.push _ _)) (row_at (l := [C, Z]) (id := s5.length) (get_new0 _ _)) (by simp; omega) (by simp only [List.length_cons, List.length_nil, List.length_append, dif_len] at n6 ⊢; omega) (by omega) (by simp only [List.length_cons, List.length_nil]; omega) fun w6 s6 j6 hw6 => ?_
    rw [← nb_append] at hw6
    have G6 := (Grw.push s5 [.row 3 (is (ns [C, Z])) 2 0 false]).trans j6
    have b6 := G6 _ _ b5
    have k6 := G6 _ _ k5
    have g6 := g5.trans G6
    simp only [b6, k6, g6, fU, fA, fZ, fI, fS, hk, hT, hP, hQ, hI, hX, hY, hC, hZ, evf,↓evp,evq,evr,fxa0,fxa1,fxa2,fxa3,fxu,fxn,fxl,↓fxp,lgc,absL,fitL,flatL,ares,ares1,ofVal,unSc,aload,afill,splice,abound,asI,elems,IntKind.bits,sortT,eqNil,closedL,allByte,patch,pendOK,numA,Value.cells,Value.oneCell',ibin,List.replicate,Option.elim,Nat.reduceAdd,Nat.reduceSub,Nat.reduceMul,Nat.reduceLT,Nat.reduceEqDiff,Nat.reduceLeDiff,Nat.reduceBEq,Int.reduceLE,Int.reduceLT,Int.reduceToNat,Int.reduceBNe,Int.reduceBEq,Int.reduceNeg,Int.reduceEq,Int.reduceNe,Nat.reduceBNe,Int.reduceAdd,Int.reduceSub,Int.reduceMul,Int.reducePow,Nat.reducePow,Int.reduceGT,Int.reduceGE,if_true,if_false,ite_true,ite_false,beq_self_eq_true,BEq.rfl,reduceCtorEq,eq_self,ne_eq,Function.comp_def,beq_iff_eq]
    have hnum : cmdNums c = [5, T, P, Q] ++ [I] ++ [X, Y] ++ [C, Z] := by
      simp [cmdNums, fU, fA, fZ, fI, fS, hk, hT, hP, hQ, hI, hX, hY, hC, hZ]
    rw [← hnum] at hw6
    exact h1 w6 s6 g6 hw6
end
/-! ### Chapter 24: the plain law: unlike commands, unlike bytes. -/
theorem uvb_ne (x : Nat) : uvb x ≠ [] := by
  by_cases h : x < 128
  · rw [uvb_lt h]; simp
  · rw [uvb_ge h]; simp
theorem nb_inj : ∀ (l r : List Nat), (∀ x ∈ l, x < 18446744073709551616) → (∀ x ∈ r, x < 18446744073709551616) → nb l = nb r → l = r
  | [], [], _, _, _ => rfl
  | [], y :: r, _, _, h => by
    exfalso
    simp only [nb, List.flatMap_cons, List.flatMap_nil] at h
    have := congrArg List.length h
    rw [List.length_append] at this
    have h2 : (uvb y).length ≠ 0 := fun e => uvb_ne y (List.eq_nil_of_length_eq_zero e)
    simp only [List.length_nil] at this
    omega
  | x :: l, [], _, _, h => by
    exfalso
    simp only [nb, List.flatMap_cons, List.flatMap_nil] at h
    have := congrArg List.length h
    rw [List.length_append] at this
    have h2 : (uvb x).length ≠ 0 := fun e => uvb_ne x (List.eq_nil_of_length_eq_zero e)
    simp only [List.length_nil] at this
    omega
  | x :: l, y :: r, hl, hr, h => by
    have h' : uvb x ++ nb l = uvb y ++ nb r := by simpa [nb] using h
    have p1 := pk_back x 0 0 (nb l) (by omega) (by have := hl x (by simp); omega) (by omega)
    have p2 := pk_back y 0 0 (nb r) (by omega) (by have := hr y (by simp); omega) (by omega)
    rw [h', p2] at p1
    simp only [Nat.zero_add, Nat.pow_zero, Nat.mul_one, Prod.mk.injEq] at p1
    obtain ⟨rfl, _⟩ := p1
    have := nb_inj l r (fun z hz => hl z (by simp [hz])) (fun z hz => hr z (by simp [hz])) (List.append_cancel_left h')
    rw [this]
theorem dif_inj : ∀ (l r : List Nat) (last : Nat), rises last l → rises last r → dif last l = dif last r → l = r
  | [], [], _, _, _, _ => rfl
  | [], _ :: _, _, _, _, h => by simp [dif] at h
  | _ :: _, [], _, _, _, h => by simp [dif] at h
  | x :: l, y :: r, last, h1, h2, h => by
    simp only [dif, List.cons.injEq] at h
    obtain ⟨e1, e2⟩ := h
    have a1 := h1.1
    have a2 := h2.1
    obtain rfl : x = y := by omega
    rw [dif_inj l r x h1.2.2 h2.2.2 e2]
theorem nb_bytes (l : List Nat) : ∀ c ∈ nb l, 0 ≤ c ∧ c < 256 := by
  have hu : ∀ x, ∀ c ∈ uvb x, 0 ≤ c ∧ c < 256 := fun x => by
    induction x using Nat.strongRecOn with
    | ind x ih =>
      intro c hc
      by_cases h : x < 128
      · rw [uvb_lt h] at hc; simp at hc; omega
      · rw [uvb_ge h] at hc
        rcases List.mem_cons.1 hc with rfl | hc
        · omega
        · exact ih _ (by omega) c hc
  intro c hc
  obtain ⟨x, _, hx⟩ := List.mem_flatMap.1 hc
  exact hu x c hx
theorem u8_inj : ∀ (a b : List Int), (∀ c ∈ a, 0 ≤ c ∧ c < 256) → (∀ c ∈ b, 0 ≤ c ∧ c < 256) → a.map (fun n => UInt8.ofNat n.toNat) = b.map (fun n => UInt8.ofNat n.toNat) → a = b
  | [], [], _, _, _ => rfl
  | [], _ :: _, _, _, h => by simp at h
  | _ :: _, [], _, _, h => by simp at h
  | x :: a, y :: b, ha, hb, h => by
    simp only [List.map_cons, List.cons.injEq] at h
    have hx := ha x (by simp)
    have hy := hb y (by simp)
    have e := congrArg UInt8.toNat h.1
    simp only [UInt8.toNat_ofNat'] at e
    obtain rfl : x = y := by omega
    rw [u8_inj a b (fun c hc => ha c (by simp [hc])) (fun c hc => hb c (by simp [hc])) h.2]
/-! ### CommandUnlike: commands alike, by the program. -/
section
variable {n m : Nat} {st : List Ob} {K : V → List Ob → Prop}
theorem c_Equal {v w : V} {xs ys : List Int} (hv : Rd Try.prog st 3 v (is xs) xs.length) (hw : Rd Try.prog st 3 w (is ys) ys.length) (hm : xs.length < m) (hx : xs.length < 4611686018427387904)
   (hK : K (.sc (.bool (xs == ys))) st) : acallF Try.prog pl (n + 1) m 79 [v, w] st K := by
  refine acallF_inF Try.func79 rfl Try.ntmps79 (by simp) ?_
  have lv := alen_rd hv Try.underlying53
  have lw := alen_rd hw Try.underlying53
  by_cases hl : xs.length = ys.length
  · have ql : ((xs.length : Int) != ys.length) = false := by simp [hl]
    simp only [lv, lw, ql, evf,↓evp,evq,evr,fxa0,fxa1,fxa2,fxa3,fxu,fxn,fxl,↓fxp,lgc,absL,fitL,flatL,ares,ares1,ofVal,unSc,aload,afill,splice,abound,asI,elems,IntKind.bits,sortT,eqNil,closedL,allByte,patch,pendOK,numA,Value.cells,Value.oneCell',ibin,List.replicate,Option.elim,Nat.reduceAdd,Nat.reduceSub,Nat.reduceMul,Nat.reduceLT,Nat.reduceEqDiff,Nat.reduceLeDiff,Nat.reduceBEq,Int.reduceLE,Int.reduceLT,Int.reduceToNat,Int.reduceBNe,Int.reduceBEq,Int.reduceNeg,Int.reduceEq,Int.reduceNe,Nat.reduceBNe,Int.reduceAdd,Int.reduceSub,Int.reduceMul,Int.reducePow,Nat.reducePow,Int.reduceGT,Int.reduceGE,if_true,if_false,ite_true,ite_false,beq_self_eq_true,BEq.rfl,reduceCtorEq,eq_self,ne_eq,Function.comp_def,beq_iff_eq]
    refine aloop_forF (fun k f s => s = st ∧ ∃ i : Nat, k + i = m ∧ i ≤ xs.length ∧ xs.take i = ys.take i ∧ f 0 = v ∧ f 1 = w ∧ f 12 = .sc (.int .i64 xs.length) ∧ f 13 = .sc (.int .i64 i)) ⟨rfl, 0, by omega, by omega, rfl, by simp only [evf, ne_eq, Nat.reduceEqDiff, Nat.reduceLT, not_false_eq_true], by simp only [evf, ne_eq, Nat.reduceEqDiff, Nat.reduceLT, not_false_eq_true], by simp only [evf, ne_eq, Nat.reduceEqDiff, Nat.reduceLT, not_false_eq_true], by simp only [evf, ne_eq, Nat.reduceEqDiff, Nat.reduceLT, not_false_eq_true]; rfl⟩ ?_
    rintro I' hI' k f s ⟨rfl, i, hk, hi, hti, f0, f1, f12, f13⟩
    refine ⟨k - 1, by omega, ?_⟩
    by_cases hil : i < xs.length
    · have d : decide ((i : Int) < xs.length) = true := decide_eq_true (by omega)
      have a1 : IntKind.i64.wrap ((i : Int) + 1) = ((i + 1 : Nat) : Int) := by rw [IntWalk.i64_in _ (by omega)]; rfl
      obtain ⟨p1, p2⟩ := ix_is hv hil
      obtain ⟨r1, r2⟩ := ix_is hw (i := i) (by omega)
      cases eu : (xs[i] == ys[i]'(by omega))
      · have qu : (xs[i] != ys[i]'(by omega)) = true := by simp only [bne, eu]; rfl
        have hf : (xs == ys) = false := by
          simp only [beq_eq_false_iff_ne, ne_eq] at eu ⊢
          intro e
          apply eu
          simp only [e]
        rw [hf] at hK
        simp only [f0, f1, f12, f13, d, p1, p2, r1, r2, qu, evf,↓evp,evq,evr,fxa0,fxa1,fxa2,fxa3,fxu,fxn,fxl,↓fxp,lgc,absL,fitL,flatL,ares,ares1,ofVal,unSc,aload,afill,splice,abound,asI,elems,IntKind.bits,sortT,eqNil,closedL,allByte,patch,pendOK,numA,Value.cells,Value.oneCell',ibin,List.replicate,Option.elim,Nat.reduceAdd,Nat.reduceSub,Nat.reduceMul,Nat.reduceLT,Nat.reduceEqDiff,Nat.reduceLeDiff,Nat.reduceBEq,Int.reduceLE,Int.reduceLT,Int.reduceToNat,Int.reduceBNe,Int.reduceBEq,Int.reduceNeg,Int.reduceEq,Int.reduceNe,Nat.reduceBNe,Int.reduceAdd,Int.reduceSub,Int.reduceMul,Int.reducePow,Nat.reducePow,Int.reduceGT,Int.reduceGE,if_true,if_false,ite_true,ite_false,beq_self_eq_true,BEq.rfl,reduceCtorEq,eq_self,ne_eq,Function.comp_def,beq_iff_eq]
        exact hK
      · have qu : (xs[i] != ys[i]'(by omega)) = false := by simp only [bne, eu]; rfl
        simp only [f0, f1, f12, f13, d, p1, p2, r1, r2, qu, a1, evf,↓evp,evq,evr,fxa0,fxa1,fxa2,fxa3,fxu,fxn,fxl,↓fxp,lgc,absL,fitL,flatL,ares,ares1,ofVal,unSc,aload,afill,splice,abound,asI,elems,IntKind.bits,sortT,eqNil,closedL,allByte,patch,pendOK,numA,Value.cells,Value.oneCell',ibin,List.replicate,Option.elim,Nat.reduceAdd,Nat.reduceSub,Nat.reduceMul,Nat.reduceLT,Nat.reduceEqDiff,Nat.reduceLeDiff,Nat.reduceBEq,Int.reduceLE,Int.reduceLT,Int.reduceToNat,Int.reduceBNe,Int.reduceBEq,Int.reduceNeg,Int.reduceEq,Int.reduceNe,Nat.reduceBNe,Int.reduceAdd,Int.reduceSub,Int.reduceMul,Int.reducePow,Nat.reducePow,Int.reduceGT,Int.reduceGE,if_true,if_false,ite_true,ite_false,beq_self_eq_true,BEq.rfl,reduceCtorEq,eq_self,ne_eq,Function.comp_def,beq_iff_eq]
        refine hI' _ _ _ ⟨rfl, i + 1, by omega, hil, ?_, by simp only [f0, evf, ne_eq, Nat.reduceEqDiff, Nat.reduceLT, not_false_eq_true], by simp only [f1, evf, ne_eq, Nat.reduceEqDiff, Nat.reduceLT, not_false_eq_true], by simp only [f12, evf, ne_eq, Nat.reduceEqDiff, Nat.reduceLT, not_false_eq_true], by simp only [evf, ne_eq, Nat.reduceEqDiff, Nat.reduceLT, not_false_eq_true]⟩
        rw [List.take_succ_eq_append_getElem hil, List.take_succ_eq_append_getElem (by omega), hti]
        simp at eu
        rw [eu]
    · have d : decide ((i : Int) < xs.length) = false := decide_eq_false (by omega)
      have hf : (xs == ys) = true := by
        rw [List.take_of_length_le (by omega), List.take_of_length_le (by omega)] at hti
        simp [hti]
      rw [hf] at hK
      simp only [f12, f13, d, evf,↓evp,evq,evr,fxa0,fxa1,fxa2,fxa3,fxu,fxn,fxl,↓fxp,lgc,absL,fitL,flatL,ares,ares1,ofVal,unSc,aload,afill,splice,abound,asI,elems,IntKind.bits,sortT,eqNil,closedL,allByte,patch,pendOK,numA,Value.cells,Value.oneCell',ibin,List.replicate,Option.elim,Nat.reduceAdd,Nat.reduceSub,Nat.reduceMul,Nat.reduceLT,Nat.reduceEqDiff,Nat.reduceLeDiff,Nat.reduceBEq,Int.reduceLE,Int.reduceLT,Int.reduceToNat,Int.reduceBNe,Int.reduceBEq,Int.reduceNeg,Int.reduceEq,Int.reduceNe,Nat.reduceBNe,Int.reduceAdd,Int.reduceSub,Int.reduceMul,Int.reducePow,Nat.reducePow,Int.reduceGT,Int.reduceGE,if_true,if_false,ite_true,ite_false,beq_self_eq_true,BEq.rfl,reduceCtorEq,eq_self,ne_eq,Function.comp_def,beq_iff_eq]
      exact hK
  · have ql : ((xs.length : Int) != ys.length) = true := by simp; omega
    have hf : (xs == ys) = false := by
      simp only [beq_eq_false_iff_ne, ne_eq]
      intro e; rw [e] at hl; exact hl rfl
    rw [hf] at hK
    simp only [lv, lw, ql, evf,↓evp,evq,evr,fxa0,fxa1,fxa2,fxa3,fxu,fxn,fxl,↓fxp,lgc,absL,fitL,flatL,ares,ares1,ofVal,unSc,aload,afill,splice,abound,asI,elems,IntKind.bits,sortT,eqNil,closedL,allByte,patch,pendOK,numA,Value.cells,Value.oneCell',ibin,List.replicate,Option.elim,Nat.reduceAdd,Nat.reduceSub,Nat.reduceMul,Nat.reduceLT,Nat.reduceEqDiff,Nat.reduceLeDiff,Nat.reduceBEq,Int.reduceLE,Int.reduceLT,Int.reduceToNat,Int.reduceBNe,Int.reduceBEq,Int.reduceNeg,Int.reduceEq,Int.reduceNe,Nat.reduceBNe,Int.reduceAdd,Int.reduceSub,Int.reduceMul,Int.reducePow,Nat.reducePow,Int.reduceGT,Int.reduceGE,if_true,if_false,ite_true,ite_false,beq_self_eq_true,BEq.rfl,reduceCtorEq,eq_self,ne_eq,Function.comp_def,beq_iff_eq]
    exact hK
theorem l24_same {x y : V} {xs ys : List Int} (hx : Rd Try.prog st 5 x (bs xs) xs.length) (hy : Rd Try.prog st 5 y (bs ys) ys.length) (hbx : ∀ c ∈ xs, 0 ≤ c ∧ c < 256) (hby : ∀ c ∈ ys, 0 ≤ c ∧ c < 256)
    (hK : K (.sc (.bool (xs == ys))) st) : acallF Try.prog pl (n + 1) m 38 [x, y] st K := by
  refine acallF_inF Try.func38 rfl Try.ntmps38 (by simp) ?_
  have cx := aconv_b (d := 9) (e' := 0) hx Try.underlying22 Try.underlying5 Try.underlying9 sz5
  have cy := aconv_b (d := 9) (e' := 0) hy Try.underlying22 Try.underlying5 Try.underlying9 sz5
  simp only [cx, cy, evf,↓evp,evq,evr,fxa0,fxa1,fxa2,fxa3,fxu,fxn,fxl,↓fxp,lgc,absL,fitL,flatL,ares,ares1,ofVal,unSc,aload,afill,splice,abound,asI,elems,IntKind.bits,sortT,eqNil,closedL,allByte,patch,pendOK,numA,Value.cells,Value.oneCell',ibin,List.replicate,Option.elim,Nat.reduceAdd,Nat.reduceSub,Nat.reduceMul,Nat.reduceLT,Nat.reduceEqDiff,Nat.reduceLeDiff,Nat.reduceBEq,Int.reduceLE,Int.reduceLT,Int.reduceToNat,Int.reduceBNe,Int.reduceBEq,Int.reduceNeg,Int.reduceEq,Int.reduceNe,Nat.reduceBNe,Int.reduceAdd,Int.reduceSub,Int.reduceMul,Int.reducePow,Nat.reducePow,Int.reduceGT,Int.reduceGE,if_true,if_false,ite_true,ite_false,beq_self_eq_true,BEq.rfl,reduceCtorEq,eq_self,ne_eq,Function.comp_def,beq_iff_eq]
  have e : ((⟨(xs.map fun n => UInt8.ofNat n.toNat).toArray⟩ : ByteArray).toList == (⟨(ys.map fun n => UInt8.ofNat n.toNat).toArray⟩ : ByteArray).toList) = (xs == ys) := by
    rw [ByteArray.toList_eq, ByteArray.toList_eq]
    rw [Bool.eq_iff_iff]
    simp only [beq_iff_eq]
    constructor
    · intro h; exact u8_inj xs ys hbx hby (by simpa using h)
    · rintro rfl; rfl
  rw [e]
  exact hK
set_option maxHeartbeats 4000000 in
theorem c_Same {a b : Cmd} (ha : a.at_ st) (hb : b.at_ st) (hm : a.units.length < m) (hK : ∀ s', Grw st s' → K (.sc (.bool (sameB a b))) s') : acallF Try.prog pl (n + 2) m 40 [.agg a.v, .agg b.v] st K := by
  refine acallF_inF Try.func40 rfl Try.ntmps40 (by simp) ?_
  have g0 := Grw.push st [.cells a.v, .cells b.v]
  have A0 : (st ++ [Ob.cells a.v, .cells b.v])[st.length]? = some (.cells a.v) := get_new0 _ _
  have B0 : (st ++ [Ob.cells a.v, .cells b.v])[st.length + 1]? = some (.cells b.v) := get_new _ _ 1
  simp only [Cmd.v] at g0 A0 B0
  simp only [Cmd.v, ha.one, ha.cv, hb.one, hb.cv, evf,↓evp,evq,evr,fxa0,fxa1,fxa2,fxa3,fxu,fxn,fxl,↓fxp,lgc,absL,fitL,flatL,ares,ares1,ofVal,unSc,aload,afill,splice,abound,asI,elems,IntKind.bits,sortT,eqNil,closedL,allByte,patch,pendOK,numA,Value.cells,Value.oneCell',ibin,List.replicate,Option.elim,Nat.reduceAdd,Nat.reduceSub,Nat.reduceMul,Nat.reduceLT,Nat.reduceEqDiff,Nat.reduceLeDiff,Nat.reduceBEq,Int.reduceLE,Int.reduceLT,Int.reduceToNat,Int.reduceBNe,Int.reduceBEq,Int.reduceNeg,Int.reduceEq,Int.reduceNe,Nat.reduceBNe,Int.reduceAdd,Int.reduceSub,Int.reduceMul,Int.reducePow,Nat.reducePow,Int.reduceGT,Int.reduceGE,if_true,if_false,ite_true,ite_false,beq_self_eq_true,BEq.rfl,reduceCtorEq,eq_self,ne_eq,Function.comp_def,beq_iff_eq]
  refine c_Key (c := a) ha.one ha.cv fun s1 j1 => ?_
  have g1 := g0.trans j1
  have A1 := j1 _ _ A0
  have B1 := j1 _ _ B0
  simp only [A0, B0, A1, B1, j1, g1, evf,↓evp,evq,evr,fxa0,fxa1,fxa2,fxa3,fxu,fxn,fxl,↓fxp,lgc,absL,fitL,flatL,ares,ares1,ofVal,unSc,aload,afill,splice,abound,asI,elems,IntKind.bits,sortT,eqNil,closedL,allByte,patch,pendOK,numA,Value.cells,Value.oneCell',ibin,List.replicate,Option.elim,Nat.reduceAdd,Nat.reduceSub,Nat.reduceMul,Nat.reduceLT,Nat.reduceEqDiff,Nat.reduceLeDiff,Nat.reduceBEq,Int.reduceLE,Int.reduceLT,Int.reduceToNat,Int.reduceBNe,Int.reduceBEq,Int.reduceNeg,Int.reduceEq,Int.reduceNe,Nat.reduceBNe,Int.reduceAdd,Int.reduceSub,Int.reduceMul,Int.reducePow,Nat.reducePow,Int.reduceGT,Int.reduceGE,if_true,if_false,ite_true,ite_false,beq_self_eq_true,BEq.rfl,reduceCtorEq,eq_self,ne_eq,Function.comp_def,beq_iff_eq]
  refine c_Key (c := b) hb.one hb.cv fun s2 j2 => ?_
  have g2 := g1.trans j2
  have j12 := j1.trans j2
  have A2 := j2 _ _ A1
  have B2 := j2 _ _ B1
  have hord : sameB a b = ((a.tick == b.tick && a.player == b.player && a.seq == b.seq) && (a.kind == b.kind) && (a.units == b.units) && (a.x == b.x && a.y == b.y) && (a.w == b.w) && (a.h == b.h) && (a.id == b.id) && (a.cls == b.cls && a.sz == b.sz)) := by
    unfold sameB
    cases a.tick == b.tick <;> cases a.player == b.player <;> cases a.seq == b.seq <;> cases a.kind == b.kind <;> cases a.units == b.units <;> cases (a.x == b.x && a.y == b.y) <;> cases a.w == b.w <;> cases a.h == b.h <;> cases a.id == b.id <;> cases (a.cls == b.cls && a.sz == b.sz) <;> rfl
  rw [hord] at hK
  cases ek : (a.tick == b.tick && a.player == b.player && a.seq == b.seq)
  · simp only [ek, Bool.false_and] at hK
    simp only [ek, A0, B0, A1, B1, A2, B2, j1, j2, j12, g1, g2, Ky.v, cmp_KeyE, cmp_Cell, cmp_Shape, evf,↓evp,evq,evr,fxa0,fxa1,fxa2,fxa3,fxu,fxn,fxl,↓fxp,lgc,absL,fitL,flatL,ares,ares1,ofVal,unSc,aload,afill,splice,abound,asI,elems,IntKind.bits,sortT,eqNil,closedL,allByte,patch,pendOK,numA,Value.cells,Value.oneCell',ibin,List.replicate,Option.elim,Nat.reduceAdd,Nat.reduceSub,Nat.reduceMul,Nat.reduceLT,Nat.reduceEqDiff,Nat.reduceLeDiff,Nat.reduceBEq,Int.reduceLE,Int.reduceLT,Int.reduceToNat,Int.reduceBNe,Int.reduceBEq,Int.reduceNeg,Int.reduceEq,Int.reduceNe,Nat.reduceBNe,Int.reduceAdd,Int.reduceSub,Int.reduceMul,Int.reducePow,Nat.reducePow,Int.reduceGT,Int.reduceGE,if_true,if_false,ite_true,ite_false,beq_self_eq_true,BEq.rfl,reduceCtorEq,eq_self,ne_eq,Function.comp_def,beq_iff_eq]
    exact hK _ g2
  simp only [ek, Bool.true_and] at hK
  cases e3 : (a.kind == b.kind)
  · simp only [e3, Bool.false_and] at hK
    simp only [ek, e3, A0, B0, A1, B1, A2, B2, j1, j2, j12, g1, g2, Ky.v, cmp_KeyE, cmp_Cell, cmp_Shape, evf,↓evp,evq,evr,fxa0,fxa1,fxa2,fxa3,fxu,fxn,fxl,↓fxp,lgc,absL,fitL,flatL,ares,ares1,ofVal,unSc,aload,afill,splice,abound,asI,elems,IntKind.bits,sortT,eqNil,closedL,allByte,patch,pendOK,numA,Value.cells,Value.oneCell',ibin,List.replicate,Option.elim,Nat.reduceAdd,Nat.reduceSub,Nat.reduceMul,Nat.reduceLT,Nat.reduceEqDiff,Nat.reduceLeDiff,Nat.reduceBEq,Int.reduceLE,Int.reduceLT,Int.reduceToNat,Int.reduceBNe,Int.reduceBEq,Int.reduceNeg,Int.reduceEq,Int.reduceNe,Nat.reduceBNe,Int.reduceAdd,Int.reduceSub,Int.reduceMul,Int.reducePow,Nat.reducePow,Int.reduceGT,Int.reduceGE,if_true,if_false,ite_true,ite_false,beq_self_eq_true,BEq.rfl,reduceCtorEq,eq_self,ne_eq,Function.comp_def,beq_iff_eq]
    exact hK _ g2
  simp only [e3, Bool.true_and] at hK
  simp only [ek, e3, A0, B0, A1, B1, A2, B2, j1, j2, j12, g1, g2, Ky.v, cmp_KeyE, cmp_Cell, cmp_Shape, evf,↓evp,evq,evr,fxa0,fxa1,fxa2,fxa3,fxu,fxn,fxl,↓fxp,lgc,absL,fitL,flatL,ares,ares1,ofVal,unSc,aload,afill,splice,abound,asI,elems,IntKind.bits,sortT,eqNil,closedL,allByte,patch,pendOK,numA,Value.cells,Value.oneCell',ibin,List.replicate,Option.elim,Nat.reduceAdd,Nat.reduceSub,Nat.reduceMul,Nat.reduceLT,Nat.reduceEqDiff,Nat.reduceLeDiff,Nat.reduceBEq,Int.reduceLE,Int.reduceLT,Int.reduceToNat,Int.reduceBNe,Int.reduceBEq,Int.reduceNeg,Int.reduceEq,Int.reduceNe,Nat.reduceBNe,Int.reduceAdd,Int.reduceSub,Int.reduceMul,Int.reducePow,Nat.reducePow,Int.reduceGT,Int.reduceGE,if_true,if_false,ite_true,ite_false,beq_self_eq_true,BEq.rfl,reduceCtorEq,eq_self,ne_eq,Function.comp_def,beq_iff_eq]
  refine c_Equal (ha.grw g2).rd (hb.grw g2).rd hm ha.len ?_
  cases eu : (a.units == b.units)
  · simp only [eu, Bool.false_and] at hK
    simp only [ek, e3, eu, A0, B0, A1, B1, A2, B2, j1, j2, j12, g1, g2, Ky.v, cmp_KeyE, cmp_Cell, cmp_Shape, evf,↓evp,evq,evr,fxa0,fxa1,fxa2,fxa3,fxu,fxn,fxl,↓fxp,lgc,absL,fitL,flatL,ares,ares1,ofVal,unSc,aload,afill,splice,abound,asI,elems,IntKind.bits,sortT,eqNil,closedL,allByte,patch,pendOK,numA,Value.cells,Value.oneCell',ibin,List.replicate,Option.elim,Nat.reduceAdd,Nat.reduceSub,Nat.reduceMul,Nat.reduceLT,Nat.reduceEqDiff,Nat.reduceLeDiff,Nat.reduceBEq,Int.reduceLE,Int.reduceLT,Int.reduceToNat,Int.reduceBNe,Int.reduceBEq,Int.reduceNeg,Int.reduceEq,Int.reduceNe,Nat.reduceBNe,Int.reduceAdd,Int.reduceSub,Int.reduceMul,Int.reducePow,Nat.reducePow,Int.reduceGT,Int.reduceGE,if_true,if_false,ite_true,ite_false,beq_self_eq_true,BEq.rfl,reduceCtorEq,eq_self,ne_eq,Function.comp_def,beq_iff_eq]
    exact hK _ g2
  simp only [eu, Bool.true_and] at hK
  cases e4 : (a.x == b.x && a.y == b.y)
  · simp only [e4, Bool.false_and] at hK
    simp only [ek, e3, eu, e4, A0, B0, A1, B1, A2, B2, j1, j2, j12, g1, g2, Ky.v, cmp_KeyE, cmp_Cell, cmp_Shape, evf,↓evp,evq,evr,fxa0,fxa1,fxa2,fxa3,fxu,fxn,fxl,↓fxp,lgc,absL,fitL,flatL,ares,ares1,ofVal,unSc,aload,afill,splice,abound,asI,elems,IntKind.bits,sortT,eqNil,closedL,allByte,patch,pendOK,numA,Value.cells,Value.oneCell',ibin,List.replicate,Option.elim,Nat.reduceAdd,Nat.reduceSub,Nat.reduceMul,Nat.reduceLT,Nat.reduceEqDiff,Nat.reduceLeDiff,Nat.reduceBEq,Int.reduceLE,Int.reduceLT,Int.reduceToNat,Int.reduceBNe,Int.reduceBEq,Int.reduceNeg,Int.reduceEq,Int.reduceNe,Nat.reduceBNe,Int.reduceAdd,Int.reduceSub,Int.reduceMul,Int.reducePow,Nat.reducePow,Int.reduceGT,Int.reduceGE,if_true,if_false,ite_true,ite_false,beq_self_eq_true,BEq.rfl,reduceCtorEq,eq_self,ne_eq,Function.comp_def,beq_iff_eq]
    exact hK _ g2
  simp only [e4, Bool.true_and] at hK
  cases e5 : (a.w == b.w)
  · simp only [e5, Bool.false_and] at hK
    simp only [ek, e3, eu, e4, e5, A0, B0, A1, B1, A2, B2, j1, j2, j12, g1, g2, Ky.v, cmp_KeyE, cmp_Cell, cmp_Shape, evf,↓evp,evq,evr,fxa0,fxa1,fxa2,fxa3,fxu,fxn,fxl,↓fxp,lgc,absL,fitL,flatL,ares,ares1,ofVal,unSc,aload,afill,splice,abound,asI,elems,IntKind.bits,sortT,eqNil,closedL,allByte,patch,pendOK,numA,Value.cells,Value.oneCell',ibin,List.replicate,Option.elim,Nat.reduceAdd,Nat.reduceSub,Nat.reduceMul,Nat.reduceLT,Nat.reduceEqDiff,Nat.reduceLeDiff,Nat.reduceBEq,Int.reduceLE,Int.reduceLT,Int.reduceToNat,Int.reduceBNe,Int.reduceBEq,Int.reduceNeg,Int.reduceEq,Int.reduceNe,Nat.reduceBNe,Int.reduceAdd,Int.reduceSub,Int.reduceMul,Int.reducePow,Nat.reducePow,Int.reduceGT,Int.reduceGE,if_true,if_false,ite_true,ite_false,beq_self_eq_true,BEq.rfl,reduceCtorEq,eq_self,ne_eq,Function.comp_def,beq_iff_eq]
    exact hK _ g2
  simp only [e5, Bool.true_and] at hK
  cases e6 : (a.h == b.h)
  · simp only [e6, Bool.false_and] at hK
    simp only [ek, e3, eu, e4, e5, e6, A0, B0, A1, B1, A2, B2, j1, j2, j12, g1, g2, Ky.v, cmp_KeyE, cmp_Cell, cmp_Shape, evf,↓evp,evq,evr,fxa0,fxa1,fxa2,fxa3,fxu,fxn,fxl,↓fxp,lgc,absL,fitL,flatL,ares,ares1,ofVal,unSc,aload,afill,splice,abound,asI,elems,IntKind.bits,sortT,eqNil,closedL,allByte,patch,pendOK,numA,Value.cells,Value.oneCell',ibin,List.replicate,Option.elim,Nat.reduceAdd,Nat.reduceSub,Nat.reduceMul,Nat.reduceLT,Nat.reduceEqDiff,Nat.reduceLeDiff,Nat.reduceBEq,Int.reduceLE,Int.reduceLT,Int.reduceToNat,Int.reduceBNe,Int.reduceBEq,Int.reduceNeg,Int.reduceEq,Int.reduceNe,Nat.reduceBNe,Int.reduceAdd,Int.reduceSub,Int.reduceMul,Int.reducePow,Nat.reducePow,Int.reduceGT,Int.reduceGE,if_true,if_false,ite_true,ite_false,beq_self_eq_true,BEq.rfl,reduceCtorEq,eq_self,ne_eq,Function.comp_def,beq_iff_eq]
    exact hK _ g2
  simp only [e6, Bool.true_and] at hK
  cases e7 : (a.id == b.id)
  · simp only [e7, Bool.false_and] at hK
    simp only [ek, e3, eu, e4, e5, e6, e7, A0, B0, A1, B1, A2, B2, j1, j2, j12, g1, g2, Ky.v, cmp_KeyE, cmp_Cell, cmp_Shape, evf,↓evp,evq,evr,fxa0,fxa1,fxa2,fxa3,fxu,fxn,fxl,↓fxp,lgc,absL,fitL,flatL,ares,ares1,ofVal,unSc,aload,afill,splice,abound,asI,elems,IntKind.bits,sortT,eqNil,closedL,allByte,patch,pendOK,numA,Value.cells,Value.oneCell',ibin,List.replicate,Option.elim,Nat.reduceAdd,Nat.reduceSub,Nat.reduceMul,Nat.reduceLT,Nat.reduceEqDiff,Nat.reduceLeDiff,Nat.reduceBEq,Int.reduceLE,Int.reduceLT,Int.reduceToNat,Int.reduceBNe,Int.reduceBEq,Int.reduceNeg,Int.reduceEq,Int.reduceNe,Nat.reduceBNe,Int.reduceAdd,Int.reduceSub,Int.reduceMul,Int.reducePow,Nat.reducePow,Int.reduceGT,Int.reduceGE,if_true,if_false,ite_true,ite_false,beq_self_eq_true,BEq.rfl,reduceCtorEq,eq_self,ne_eq,Function.comp_def,beq_iff_eq]
    exact hK _ g2
  simp only [e7, Bool.true_and] at hK
  cases e8 : (a.cls == b.cls && a.sz == b.sz)
  · simp only [e8, Bool.false_and] at hK
    simp only [ek, e3, eu, e4, e5, e6, e7, e8, A0, B0, A1, B1, A2, B2, j1, j2, j12, g1, g2, Ky.v, cmp_KeyE, cmp_Cell, cmp_Shape, evf,↓evp,evq,evr,fxa0,fxa1,fxa2,fxa3,fxu,fxn,fxl,↓fxp,lgc,absL,fitL,flatL,ares,ares1,ofVal,unSc,aload,afill,splice,abound,asI,elems,IntKind.bits,sortT,eqNil,closedL,allByte,patch,pendOK,numA,Value.cells,Value.oneCell',ibin,List.replicate,Option.elim,Nat.reduceAdd,Nat.reduceSub,Nat.reduceMul,Nat.reduceLT,Nat.reduceEqDiff,Nat.reduceLeDiff,Nat.reduceBEq,Int.reduceLE,Int.reduceLT,Int.reduceToNat,Int.reduceBNe,Int.reduceBEq,Int.reduceNeg,Int.reduceEq,Int.reduceNe,Nat.reduceBNe,Int.reduceAdd,Int.reduceSub,Int.reduceMul,Int.reducePow,Nat.reducePow,Int.reduceGT,Int.reduceGE,if_true,if_false,ite_true,ite_false,beq_self_eq_true,BEq.rfl,reduceCtorEq,eq_self,ne_eq,Function.comp_def,beq_iff_eq]
    exact hK _ g2
  simp only [e8, Bool.true_and] at hK
  simp only [ek, e3, eu, e4, e5, e6, e7, e8, A0, B0, A1, B1, A2, B2, j1, j2, j12, g1, g2, Ky.v, cmp_KeyE, cmp_Cell, cmp_Shape, evf,↓evp,evq,evr,fxa0,fxa1,fxa2,fxa3,fxu,fxn,fxl,↓fxp,lgc,absL,fitL,flatL,ares,ares1,ofVal,unSc,aload,afill,splice,abound,asI,elems,IntKind.bits,sortT,eqNil,closedL,allByte,patch,pendOK,numA,Value.cells,Value.oneCell',ibin,List.replicate,Option.elim,Nat.reduceAdd,Nat.reduceSub,Nat.reduceMul,Nat.reduceLT,Nat.reduceEqDiff,Nat.reduceLeDiff,Nat.reduceBEq,Int.reduceLE,Int.reduceLT,Int.reduceToNat,Int.reduceBNe,Int.reduceBEq,Int.reduceNeg,Int.reduceEq,Int.reduceNe,Nat.reduceBNe,Int.reduceAdd,Int.reduceSub,Int.reduceMul,Int.reducePow,Nat.reducePow,Int.reduceGT,Int.reduceGE,if_true,if_false,ite_true,ite_false,beq_self_eq_true,BEq.rfl,reduceCtorEq,eq_self,ne_eq,Function.comp_def,beq_iff_eq]
  exact hK _ g2
end
/-! ### CommandUnlike, the law. -/
theorem nums_lt32 {c : Cmd} (h : checkB c = true) : ∀ x ∈ cmdNums c, x < 4294967296 := by
  obtain ⟨⟨k0, k5⟩, ⟨t0, t1⟩, ⟨p0, p1⟩, ⟨s0, s5⟩, hp⟩ := check_facts h
  unfold partsB at hp
  simp only [Bool.and_eq_true] at hp
  obtain ⟨⟨⟨⟨h1, h2⟩, h3⟩, h4⟩, h5⟩ := hp
  intro x hx
  unfold cmdNums at hx
  simp only [List.mem_append, List.mem_cons, List.not_mem_nil, or_false] at hx
  rcases hx with ((((hx | hx) | hx) | hx) | hx) | hx
  · omega
  · split at hx
    · rename_i hi; rw [hi] at h4; simp [withinB] at h4; simp at hx; omega
    · simp at hx
  · split at hx
    · rename_i hi
      rw [hi] at h1
      simp only [if_true, unitsB, Bool.and_eq_true] at h1
      obtain ⟨U, hU, hr⟩ := go_rises c.units 0 h1.1
      have hl := h1.2
      rw [hU, ns_length, ns_toNat] at hx
      rw [hU, ns_length] at hl
      simp [withinB] at hl
      rcases List.mem_cons.1 hx with rfl | hx
      · omega
      · have := dif_all U 0 (rises_all U 0 hr) x hx; omega
    · simp at hx
  · split at hx
    · rename_i hi; rw [hi] at h2; simp only [if_true, has_cell] at h2; simp [cellB] at h2; simp at hx; omega
    · simp at hx
  · split at hx
    · rename_i hi; rw [hi] at h3; simp [withinB] at h3; simp at hx; omega
    · simp at hx
  · split at hx
    · rename_i hi; rw [hi] at h5; simp [shapeB] at h5; simp at hx; omega
    · simp at hx
theorem nums_lt {c : Cmd} (h : checkB c = true) : ∀ x ∈ cmdNums c, x < 18446744073709551616 := fun x hx => by
  have := nums_lt32 h x hx
  omega
theorem same_nums {a b : Cmd} (h : sameB a b = true) : cmdNums a = cmdNums b := by
  unfold sameB at h
  simp only [Bool.and_eq_true, beq_iff_eq] at h
  obtain ⟨⟨⟨⟨⟨⟨⟨⟨⟨h1, h2⟩, h3⟩, h4⟩, h5, h6⟩, h7⟩, h8⟩, h9⟩, h10, h11⟩, h12⟩ := h
  unfold cmdNums
  rw [h1, h2, h3, h4, h5, h6, h7, h8, h9, h10, h11, h12]
theorem nums_same {a b : Cmd} (ha : checkB a = true) (hb : checkB b = true) (h : cmdNums a = cmdNums b) : sameB a b = true := by
  obtain ⟨⟨k0, k5⟩, ⟨t0, t1⟩, ⟨p0, p1⟩, ⟨s0, s5⟩, hp⟩ := check_facts ha
  obtain ⟨⟨k0', k5'⟩, ⟨t0', t1'⟩, ⟨p0', p1'⟩, ⟨s0', s5'⟩, hp'⟩ := check_facts hb
  have hkk : a.kind = b.kind := by
    have := congrArg List.head? h
    simp [cmdNums] at this
    omega
  have hu : ∀ c : Cmd, ((c.units.length : Int) == 0) = true → c.units = [] := fun c hc => by
    simp at hc; exact hc
  unfold partsB at hp hp'
  rw [hkk] at hp
  have hk : b.kind = 1 ∨ b.kind = 2 ∨ b.kind = 3 ∨ b.kind = 4 ∨ b.kind = 5 := by omega
  unfold sameB
  rcases hk with hk | hk | hk | hk | hk
  · have fU : kU 1 = true := rfl
    have fA : kA 1 = true := rfl
    have fZ : kZ 1 = false := rfl
    have fI : kI 1 = false := rfl
    have fS : kS 1 = false := rfl
    simp only [hk, fU, fA, fZ, fI, fS, if_true, if_false, Bool.false_eq_true, Bool.and_eq_true, beq_iff_eq, has_cell, unitsB, cellB, decide_eq_true_eq] at hp hp'
    obtain ⟨U, hU, hr⟩ := go_rises a.units 0 hp.1.1.1.1.1
    obtain ⟨U', hU', hr'⟩ := go_rises b.units 0 hp'.1.1.1.1.1
    simp [cmdNums, hkk, hk, fU, fA, fZ, fI, fS, hU, hU', ns_length, ns_toNat] at h
    obtain ⟨q1, q2, q3, q4, q5⟩ := h
    have q6 := List.append_inj q5 (by rw [dif_len, dif_len]; exact q4)
    have q7 := dif_inj U U' 0 hr hr' q6.1
    have q8 := q6.2
    simp at q8
    simp only [Bool.and_eq_true, beq_iff_eq, hU, hU', q7, hkk, eq_self, and_true]
    omega
  · have fU : kU 2 = true := rfl
    have fA : kA 2 = false := rfl
    have fZ : kZ 2 = false := rfl
    have fI : kI 2 = false := rfl
    have fS : kS 2 = false := rfl
    simp only [hk, fU, fA, fZ, fI, fS, if_true, if_false, Bool.false_eq_true, Bool.and_eq_true, beq_iff_eq, has_cell, unitsB, cellB, decide_eq_true_eq] at hp hp'
    obtain ⟨U, hU, hr⟩ := go_rises a.units 0 hp.1.1.1.1.1
    obtain ⟨U', hU', hr'⟩ := go_rises b.units 0 hp'.1.1.1.1.1
    simp [cmdNums, hkk, hk, fU, fA, fZ, fI, fS, hU, hU', ns_length, ns_toNat] at h
    obtain ⟨q1, q2, q3, q4, q5⟩ := h
    have q7 := dif_inj U U' 0 hr hr' q5
    simp only [Bool.and_eq_true, beq_iff_eq, hU, hU', q7, hkk, eq_self, and_true]
    omega
  · have fU : kU 3 = false := rfl
    have fA : kA 3 = true := rfl
    have fZ : kZ 3 = true := rfl
    have fI : kI 3 = true := rfl
    have fS : kS 3 = false := rfl
    simp only [hk, fU, fA, fZ, fI, fS, if_true, if_false, Bool.false_eq_true, Bool.and_eq_true, has_cell, cellB, withinB, decide_eq_true_eq] at hp hp'
    have u1 := hu a hp.1.1.1.1
    have u2 := hu b hp'.1.1.1.1
    simp only [beq_iff_eq] at hp hp'
    simp [cmdNums, hkk, hk, fU, fA, fZ, fI, fS] at h
    simp only [Bool.and_eq_true, beq_iff_eq, u1, u2, hkk, eq_self, and_true]
    omega
  · have fU : kU 4 = false := rfl
    have fA : kA 4 = false := rfl
    have fZ : kZ 4 = false := rfl
    have fI : kI 4 = true := rfl
    have fS : kS 4 = false := rfl
    simp only [hk, fU, fA, fZ, fI, fS, if_true, if_false, Bool.false_eq_true, Bool.and_eq_true, has_cell, cellB, withinB, decide_eq_true_eq] at hp hp'
    have u1 := hu a hp.1.1.1.1
    have u2 := hu b hp'.1.1.1.1
    simp only [beq_iff_eq] at hp hp'
    simp [cmdNums, hkk, hk, fU, fA, fZ, fI, fS] at h
    simp only [Bool.and_eq_true, beq_iff_eq, u1, u2, hkk, eq_self, and_true]
    omega
  · have fU : kU 5 = false := rfl
    have fA : kA 5 = true := rfl
    have fZ : kZ 5 = false := rfl
    have fI : kI 5 = true := rfl
    have fS : kS 5 = true := rfl
    simp only [hk, fU, fA, fZ, fI, fS, if_true, if_false, Bool.false_eq_true, Bool.and_eq_true, has_cell, cellB, withinB, shapeB, decide_eq_true_eq] at hp hp'
    have u1 := hu a hp.1.1.1.1
    have u2 := hu b hp'.1.1.1.1
    simp only [beq_iff_eq] at hp hp'
    simp [cmdNums, hkk, hk, fU, fA, fZ, fI, fS] at h
    simp only [Bool.and_eq_true, beq_iff_eq, u1, u2, hkk, eq_self, and_true]
    omega
theorem enc_same {a b : Cmd} (ha : checkB a = true) (hb : checkB b = true) : (nb (cmdNums a) == nb (cmdNums b)) = sameB a b := by
  rw [Bool.eq_iff_iff]
  simp only [beq_iff_eq]
  exact ⟨fun h => nums_same ha hb (nb_inj _ _ (nums_lt ha) (nums_lt hb) h), fun h => by rw [same_nums h]⟩
/-! ### CommandUnlike, the law. -/
set_option maxHeartbeats 2000000 in
theorem l24_CommandUnlike {m : Nat} {a b : Cmd} (ha : ∀ s, a.at_ s) (hb : ∀ s, b.at_ s) (hm : 100 < m) (hma : a.units.length < m) (hmb : b.units.length < m) : acallF Try.prog pl 12 m 9 [.agg a.v, .agg b.v] [] fun v _ => v = .sc (.bool true) := by
  refine acallF_inF Try.func9 rfl Try.ntmps9 (by simp) ?_
  have a1 := (ha []).one
  have a2 := (ha []).cv
  have b1 := (hb []).one
  have b2 := (hb []).cv
  have A : ∀ s : List Ob, Grw [Ob.cells a.v, .cells b.v] s → s[0]? = some (.cells a.v) ∧ s[1]? = some (.cells b.v) := fun s h => ⟨h 0 _ rfl, h 1 _ rfl⟩
  simp only [Cmd.v] at A
  simp only [Cmd.v, a1, a2, b1, b2, evf,↓evp,evq,evr,fxa0,fxa1,fxa2,fxa3,fxu,fxn,fxl,↓fxp,lgc,absL,fitL,flatL,ares,ares1,ofVal,unSc,aload,afill,splice,abound,asI,elems,IntKind.bits,sortT,eqNil,closedL,allByte,patch,pendOK,numA,Value.cells,Value.oneCell',ibin,List.replicate,Option.elim,Nat.reduceAdd,Nat.reduceSub,Nat.reduceMul,Nat.reduceLT,Nat.reduceEqDiff,Nat.reduceLeDiff,Nat.reduceBEq,Int.reduceLE,Int.reduceLT,Int.reduceToNat,Int.reduceBNe,Int.reduceBEq,Int.reduceNeg,Int.reduceEq,Int.reduceNe,Nat.reduceBNe,Int.reduceAdd,Int.reduceSub,Int.reduceMul,Int.reducePow,Nat.reducePow,Int.reduceGT,Int.reduceGE,if_true,if_false,ite_true,ite_false,beq_self_eq_true,BEq.rfl,reduceCtorEq,eq_self,ne_eq,Function.comp_def,beq_iff_eq]
  -- the fixed question, whenever it comes
  refine c_Encode (n := 3) (c := a) (ha _) hm hma (fun ea s1 g1 => ?_) (fun ea w1 s1 g1 hw1 => ?_)
  · obtain ⟨x1, y1⟩ := A s1 g1
    simp only [x1, y1, g1, evf,↓evp,evq,evr,fxa0,fxa1,fxa2,fxa3,fxu,fxn,fxl,↓fxp,lgc,absL,fitL,flatL,ares,ares1,ofVal,unSc,aload,afill,splice,abound,asI,elems,IntKind.bits,sortT,eqNil,closedL,allByte,patch,pendOK,numA,Value.cells,Value.oneCell',ibin,List.replicate,Option.elim,Nat.reduceAdd,Nat.reduceSub,Nat.reduceMul,Nat.reduceLT,Nat.reduceEqDiff,Nat.reduceLeDiff,Nat.reduceBEq,Int.reduceLE,Int.reduceLT,Int.reduceToNat,Int.reduceBNe,Int.reduceBEq,Int.reduceNeg,Int.reduceEq,Int.reduceNe,Nat.reduceBNe,Int.reduceAdd,Int.reduceSub,Int.reduceMul,Int.reducePow,Nat.reducePow,Int.reduceGT,Int.reduceGE,if_true,if_false,ite_true,ite_false,beq_self_eq_true,BEq.rfl,reduceCtorEq,eq_self,ne_eq,Function.comp_def,beq_iff_eq]
    refine c_Encode (n := 3) (c := b) (hb _) hm hmb (fun eb s2 g2 => ?_) (fun eb w2 s2 g2 hw2 => ?_)
    · simp only [evf,↓evp,evq,evr,fxa0,fxa1,fxa2,fxa3,fxu,fxn,fxl,↓fxp,lgc,absL,fitL,flatL,ares,ares1,ofVal,unSc,aload,afill,splice,abound,asI,elems,IntKind.bits,sortT,eqNil,closedL,allByte,patch,pendOK,numA,Value.cells,Value.oneCell',ibin,List.replicate,Option.elim,Nat.reduceAdd,Nat.reduceSub,Nat.reduceMul,Nat.reduceLT,Nat.reduceEqDiff,Nat.reduceLeDiff,Nat.reduceBEq,Int.reduceLE,Int.reduceLT,Int.reduceToNat,Int.reduceBNe,Int.reduceBEq,Int.reduceNeg,Int.reduceEq,Int.reduceNe,Nat.reduceBNe,Int.reduceAdd,Int.reduceSub,Int.reduceMul,Int.reducePow,Nat.reducePow,Int.reduceGT,Int.reduceGE,if_true,if_false,ite_true,ite_false,beq_self_eq_true,BEq.rfl,reduceCtorEq,eq_self,ne_eq,Function.comp_def,beq_iff_eq]
      refine awake24 (n := 2) (by omega) fun s3 g3 => ?_
      simp only [evf,↓evp,evq,evr,fxa0,fxa1,fxa2,fxa3,fxu,fxn,fxl,↓fxp,lgc,absL,fitL,flatL,ares,ares1,ofVal,unSc,aload,afill,splice,abound,asI,elems,IntKind.bits,sortT,eqNil,closedL,allByte,patch,pendOK,numA,Value.cells,Value.oneCell',ibin,List.replicate,Option.elim,Nat.reduceAdd,Nat.reduceSub,Nat.reduceMul,Nat.reduceLT,Nat.reduceEqDiff,Nat.reduceLeDiff,Nat.reduceBEq,Int.reduceLE,Int.reduceLT,Int.reduceToNat,Int.reduceBNe,Int.reduceBEq,Int.reduceNeg,Int.reduceEq,Int.reduceNe,Nat.reduceBNe,Int.reduceAdd,Int.reduceSub,Int.reduceMul,Int.reducePow,Nat.reducePow,Int.reduceGT,Int.reduceGE,if_true,if_false,ite_true,ite_false,beq_self_eq_true,BEq.rfl,reduceCtorEq,eq_self,ne_eq,Function.comp_def,beq_iff_eq]
    · simp only [evf,↓evp,evq,evr,fxa0,fxa1,fxa2,fxa3,fxu,fxn,fxl,↓fxp,lgc,absL,fitL,flatL,ares,ares1,ofVal,unSc,aload,afill,splice,abound,asI,elems,IntKind.bits,sortT,eqNil,closedL,allByte,patch,pendOK,numA,Value.cells,Value.oneCell',ibin,List.replicate,Option.elim,Nat.reduceAdd,Nat.reduceSub,Nat.reduceMul,Nat.reduceLT,Nat.reduceEqDiff,Nat.reduceLeDiff,Nat.reduceBEq,Int.reduceLE,Int.reduceLT,Int.reduceToNat,Int.reduceBNe,Int.reduceBEq,Int.reduceNeg,Int.reduceEq,Int.reduceNe,Nat.reduceBNe,Int.reduceAdd,Int.reduceSub,Int.reduceMul,Int.reducePow,Nat.reducePow,Int.reduceGT,Int.reduceGE,if_true,if_false,ite_true,ite_false,beq_self_eq_true,BEq.rfl,reduceCtorEq,eq_self,ne_eq,Function.comp_def,beq_iff_eq]
      refine awake24 (n := 2) (by omega) fun s3 g3 => ?_
      simp only [evf,↓evp,evq,evr,fxa0,fxa1,fxa2,fxa3,fxu,fxn,fxl,↓fxp,lgc,absL,fitL,flatL,ares,ares1,ofVal,unSc,aload,afill,splice,abound,asI,elems,IntKind.bits,sortT,eqNil,closedL,allByte,patch,pendOK,numA,Value.cells,Value.oneCell',ibin,List.replicate,Option.elim,Nat.reduceAdd,Nat.reduceSub,Nat.reduceMul,Nat.reduceLT,Nat.reduceEqDiff,Nat.reduceLeDiff,Nat.reduceBEq,Int.reduceLE,Int.reduceLT,Int.reduceToNat,Int.reduceBNe,Int.reduceBEq,Int.reduceNeg,Int.reduceEq,Int.reduceNe,Nat.reduceBNe,Int.reduceAdd,Int.reduceSub,Int.reduceMul,Int.reducePow,Nat.reducePow,Int.reduceGT,Int.reduceGE,if_true,if_false,ite_true,ite_false,beq_self_eq_true,BEq.rfl,reduceCtorEq,eq_self,ne_eq,Function.comp_def,beq_iff_eq]
  · obtain ⟨x1, y1⟩ := A s1 g1
    simp only [x1, y1, g1, evf,↓evp,evq,evr,fxa0,fxa1,fxa2,fxa3,fxu,fxn,fxl,↓fxp,lgc,absL,fitL,flatL,ares,ares1,ofVal,unSc,aload,afill,splice,abound,asI,elems,IntKind.bits,sortT,eqNil,closedL,allByte,patch,pendOK,numA,Value.cells,Value.oneCell',ibin,List.replicate,Option.elim,Nat.reduceAdd,Nat.reduceSub,Nat.reduceMul,Nat.reduceLT,Nat.reduceEqDiff,Nat.reduceLeDiff,Nat.reduceBEq,Int.reduceLE,Int.reduceLT,Int.reduceToNat,Int.reduceBNe,Int.reduceBEq,Int.reduceNeg,Int.reduceEq,Int.reduceNe,Nat.reduceBNe,Int.reduceAdd,Int.reduceSub,Int.reduceMul,Int.reducePow,Nat.reducePow,Int.reduceGT,Int.reduceGE,if_true,if_false,ite_true,ite_false,beq_self_eq_true,BEq.rfl,reduceCtorEq,eq_self,ne_eq,Function.comp_def,beq_iff_eq]
    refine c_Encode (n := 3) (c := b) (hb _) hm hmb (fun eb s2 g2 => ?_) (fun eb w2 s2 g2 hw2 => ?_)
    · simp only [evf,↓evp,evq,evr,fxa0,fxa1,fxa2,fxa3,fxu,fxn,fxl,↓fxp,lgc,absL,fitL,flatL,ares,ares1,ofVal,unSc,aload,afill,splice,abound,asI,elems,IntKind.bits,sortT,eqNil,closedL,allByte,patch,pendOK,numA,Value.cells,Value.oneCell',ibin,List.replicate,Option.elim,Nat.reduceAdd,Nat.reduceSub,Nat.reduceMul,Nat.reduceLT,Nat.reduceEqDiff,Nat.reduceLeDiff,Nat.reduceBEq,Int.reduceLE,Int.reduceLT,Int.reduceToNat,Int.reduceBNe,Int.reduceBEq,Int.reduceNeg,Int.reduceEq,Int.reduceNe,Nat.reduceBNe,Int.reduceAdd,Int.reduceSub,Int.reduceMul,Int.reducePow,Nat.reducePow,Int.reduceGT,Int.reduceGE,if_true,if_false,ite_true,ite_false,beq_self_eq_true,BEq.rfl,reduceCtorEq,eq_self,ne_eq,Function.comp_def,beq_iff_eq]
      refine awake24 (n := 2) (by omega) fun s3 g3 => ?_
      simp only [evf,↓evp,evq,evr,fxa0,fxa1,fxa2,fxa3,fxu,fxn,fxl,↓fxp,lgc,absL,fitL,flatL,ares,ares1,ofVal,unSc,aload,afill,splice,abound,asI,elems,IntKind.bits,sortT,eqNil,closedL,allByte,patch,pendOK,numA,Value.cells,Value.oneCell',ibin,List.replicate,Option.elim,Nat.reduceAdd,Nat.reduceSub,Nat.reduceMul,Nat.reduceLT,Nat.reduceEqDiff,Nat.reduceLeDiff,Nat.reduceBEq,Int.reduceLE,Int.reduceLT,Int.reduceToNat,Int.reduceBNe,Int.reduceBEq,Int.reduceNeg,Int.reduceEq,Int.reduceNe,Nat.reduceBNe,Int.reduceAdd,Int.reduceSub,Int.reduceMul,Int.reducePow,Nat.reducePow,Int.reduceGT,Int.reduceGE,if_true,if_false,ite_true,ite_false,beq_self_eq_true,BEq.rfl,reduceCtorEq,eq_self,ne_eq,Function.comp_def,beq_iff_eq]
    · have g12 := g1.trans g2
      obtain ⟨x2, y2⟩ := A s2 g12
      simp only [x2, y2, g12, evf,↓evp,evq,evr,fxa0,fxa1,fxa2,fxa3,fxu,fxn,fxl,↓fxp,lgc,absL,fitL,flatL,ares,ares1,ofVal,unSc,aload,afill,splice,abound,asI,elems,IntKind.bits,sortT,eqNil,closedL,allByte,patch,pendOK,numA,Value.cells,Value.oneCell',ibin,List.replicate,Option.elim,Nat.reduceAdd,Nat.reduceSub,Nat.reduceMul,Nat.reduceLT,Nat.reduceEqDiff,Nat.reduceLeDiff,Nat.reduceBEq,Int.reduceLE,Int.reduceLT,Int.reduceToNat,Int.reduceBNe,Int.reduceBEq,Int.reduceNeg,Int.reduceEq,Int.reduceNe,Nat.reduceBNe,Int.reduceAdd,Int.reduceSub,Int.reduceMul,Int.reducePow,Nat.reducePow,Int.reduceGT,Int.reduceGE,if_true,if_false,ite_true,ite_false,beq_self_eq_true,BEq.rfl,reduceCtorEq,eq_self,ne_eq,Function.comp_def,beq_iff_eq]
      refine l24_same (hw1.grw g2) hw2 (nb_bytes _) (nb_bytes _) ?_
      rw [enc_same ea eb]
      simp only [x2, y2, g12, evf,↓evp,evq,evr,fxa0,fxa1,fxa2,fxa3,fxu,fxn,fxl,↓fxp,lgc,absL,fitL,flatL,ares,ares1,ofVal,unSc,aload,afill,splice,abound,asI,elems,IntKind.bits,sortT,eqNil,closedL,allByte,patch,pendOK,numA,Value.cells,Value.oneCell',ibin,List.replicate,Option.elim,Nat.reduceAdd,Nat.reduceSub,Nat.reduceMul,Nat.reduceLT,Nat.reduceEqDiff,Nat.reduceLeDiff,Nat.reduceBEq,Int.reduceLE,Int.reduceLT,Int.reduceToNat,Int.reduceBNe,Int.reduceBEq,Int.reduceNeg,Int.reduceEq,Int.reduceNe,Nat.reduceBNe,Int.reduceAdd,Int.reduceSub,Int.reduceMul,Int.reducePow,Nat.reducePow,Int.reduceGT,Int.reduceGE,if_true,if_false,ite_true,ite_false,beq_self_eq_true,BEq.rfl,reduceCtorEq,eq_self,ne_eq,Function.comp_def,beq_iff_eq]
      refine q_Same (a := a) (b := b) (ha _) (hb _) hma fun s3 g3 => ?_
      have g13 := g12.trans g3
      obtain ⟨x3, y3⟩ := A s3 g13
      simp only [x2, y2, g12, x3, y3, g13, g3, beq_self_eq_true, evf,↓evp,evq,evr,fxa0,fxa1,fxa2,fxa3,fxu,fxn,fxl,↓fxp,lgc,absL,fitL,flatL,ares,ares1,ofVal,unSc,aload,afill,splice,abound,asI,elems,IntKind.bits,sortT,eqNil,closedL,allByte,patch,pendOK,numA,Value.cells,Value.oneCell',ibin,List.replicate,Option.elim,Nat.reduceAdd,Nat.reduceSub,Nat.reduceMul,Nat.reduceLT,Nat.reduceEqDiff,Nat.reduceLeDiff,Nat.reduceBEq,Int.reduceLE,Int.reduceLT,Int.reduceToNat,Int.reduceBNe,Int.reduceBEq,Int.reduceNeg,Int.reduceEq,Int.reduceNe,Nat.reduceBNe,Int.reduceAdd,Int.reduceSub,Int.reduceMul,Int.reducePow,Nat.reducePow,Int.reduceGT,Int.reduceGE,if_true,if_false,ite_true,ite_false,beq_self_eq_true,BEq.rfl,reduceCtorEq,eq_self,ne_eq,Function.comp_def,beq_iff_eq]
      refine c_Same (a := a) (b := b) (ha _) (hb _) hma fun s4 g4 => ?_
      have g34 := g3.trans g4
      have g14 := g13.trans g4
      obtain ⟨x4, y4⟩ := A s4 g14
      simp only [x2, y2, g12, x3, y3, g13, g3, g4, g34, g14, x4, y4, beq_self_eq_true, evf,↓evp,evq,evr,fxa0,fxa1,fxa2,fxa3,fxu,fxn,fxl,↓fxp,lgc,absL,fitL,flatL,ares,ares1,ofVal,unSc,aload,afill,splice,abound,asI,elems,IntKind.bits,sortT,eqNil,closedL,allByte,patch,pendOK,numA,Value.cells,Value.oneCell',ibin,List.replicate,Option.elim,Nat.reduceAdd,Nat.reduceSub,Nat.reduceMul,Nat.reduceLT,Nat.reduceEqDiff,Nat.reduceLeDiff,Nat.reduceBEq,Int.reduceLE,Int.reduceLT,Int.reduceToNat,Int.reduceBNe,Int.reduceBEq,Int.reduceNeg,Int.reduceEq,Int.reduceNe,Nat.reduceBNe,Int.reduceAdd,Int.reduceSub,Int.reduceMul,Int.reducePow,Nat.reducePow,Int.reduceGT,Int.reduceGE,if_true,if_false,ite_true,ite_false,beq_self_eq_true,BEq.rfl,reduceCtorEq,eq_self,ne_eq,Function.comp_def,beq_iff_eq]
      refine q_Same (a := a) (b := b) (ha _) (hb _) hma fun s5 g5 => ?_
      have g35 := g34.trans g5
      have g15 := g14.trans g5
      have g45 := g4.trans g5
      obtain ⟨x5, y5⟩ := A s5 g15
      simp only [x2, y2, g12, x3, y3, g13, g3, g4, g34, g14, x4, y4, g5, g35, g15, g45, x5, y5, beq_self_eq_true, evf,↓evp,evq,evr,fxa0,fxa1,fxa2,fxa3,fxu,fxn,fxl,↓fxp,lgc,absL,fitL,flatL,ares,ares1,ofVal,unSc,aload,afill,splice,abound,asI,elems,IntKind.bits,sortT,eqNil,closedL,allByte,patch,pendOK,numA,Value.cells,Value.oneCell',ibin,List.replicate,Option.elim,Nat.reduceAdd,Nat.reduceSub,Nat.reduceMul,Nat.reduceLT,Nat.reduceEqDiff,Nat.reduceLeDiff,Nat.reduceBEq,Int.reduceLE,Int.reduceLT,Int.reduceToNat,Int.reduceBNe,Int.reduceBEq,Int.reduceNeg,Int.reduceEq,Int.reduceNe,Nat.reduceBNe,Int.reduceAdd,Int.reduceSub,Int.reduceMul,Int.reducePow,Nat.reducePow,Int.reduceGT,Int.reduceGE,if_true,if_false,ite_true,ite_false,beq_self_eq_true,BEq.rfl,reduceCtorEq,eq_self,ne_eq,Function.comp_def,beq_iff_eq]
      refine awake24 (n := 2) (by omega) fun s6 g6 => ?_
      simp only [g6, evf,↓evp,evq,evr,fxa0,fxa1,fxa2,fxa3,fxu,fxn,fxl,↓fxp,lgc,absL,fitL,flatL,ares,ares1,ofVal,unSc,aload,afill,splice,abound,asI,elems,IntKind.bits,sortT,eqNil,closedL,allByte,patch,pendOK,numA,Value.cells,Value.oneCell',ibin,List.replicate,Option.elim,Nat.reduceAdd,Nat.reduceSub,Nat.reduceMul,Nat.reduceLT,Nat.reduceEqDiff,Nat.reduceLeDiff,Nat.reduceBEq,Int.reduceLE,Int.reduceLT,Int.reduceToNat,Int.reduceBNe,Int.reduceBEq,Int.reduceNeg,Int.reduceEq,Int.reduceNe,Nat.reduceBNe,Int.reduceAdd,Int.reduceSub,Int.reduceMul,Int.reducePow,Nat.reducePow,Int.reduceGT,Int.reduceGE,if_true,if_false,ite_true,ite_false,beq_self_eq_true,BEq.rfl,reduceCtorEq,eq_self,ne_eq,Function.comp_def,beq_iff_eq]
end Go.Proofs.Ytfndpnmdjblokaa
