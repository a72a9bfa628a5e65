/- Chapter 24: a command is read, by the document, whole. Chapter 24: Decode, by the program and by the document. -/
import Derived.Test.YtfndpnmdjblokaaCR
set_option linter.unusedVariables false
set_option linter.unusedSimpArgs false
set_option maxRecDepth 10000
namespace Go.Proofs.Ytfndpnmdjblokaa
open Go Go.M Go.RowKit
attribute [local congr] acallF_cong aloop_cong bcase_cong resK_cong valK_cong wantK_cong callK_cong xputK_cong qputK_cong
attribute [local irreducible] seqK blockK loopK nextK bcase resK valK wantK funK putK dputK xputK qputK callK aops aop acode adraw aloop acallF acall invK
/-! ### Chapter 24: a command is read, by the document, whole. -/
section
variable {n m : Nat} {st : List Ob} {K : V → List Ob → Prop} {r r' : RS} {x : Int} {bv : V} {id : Nat}
theorem r_nm3 {S s : List Ob} {cid : Nat} {cc : List V} {M : Int} (he : r.nb M = (x, r')) (w : Rs S id cid) (hg : Rg S id cid bv r cc s) (hm : 12 < m) (hM : -9223372036854775808 ≤ M) (hM2 : M < 9223372036854775808)
    (h : ∀ s', Rg S id cid bv r' cc s' → KeepR s s' → K (.sc (.int .i64 x)) s') : acallF Try.prog pl (n + 3) m 67 [.ref id 0, .sc (.int .i64 M)] s K := by
  refine r_ReadNumber hg.ok (T2.fst w.hi w.hne hg.g) hg.cut hm hM hM2 fun s' j => ?_
  have k1 := RS.nb_ok hg.ok M
  have k2 := RS.nb_b r M
  rw [he] at j k1 k2 ⊢
  have kc := hg.cut.trn (T2.fst w.hi w.hne hg.g) j
  rw [← k2] at kc
  exact h s' ⟨T2.trn w.hi w.hc w.hne hg.g j, k1, kc⟩ (KeepR.trn (T2.fst w.hi w.hne hg.g) j)
end
section
variable {n m : Nat} {S : List Ob} {r : RS} {bv : V} {id cid : Nat}
set_option maxHeartbeats 2000000 in
theorem read_loop2 {b : Code} (hb : fl (Try.f82.body.getD .skip) = some b) {K : ExK} {f : Nat → V} {t p q k0 : Int} {st : List Ob} {N : Nat} (hN : N ≤ 64) (w : Rs S id cid)
    (ho : r.ok) (hbv : Cut Try.prog st 5 bv (bs r.b) r.b.length) (hg : Grw (T2 S id cid (r.c bv) (cellU t p q k0 (.tsl [] 0 true true))) st) (hm : 100 < m)
    (q0 : f 0 = .ref id 0) (q3 : f 3 = .ref cid 0) (q4 : f 4 = .sc (.int .i64 N)) (q5 : f 5 = .sc (.int .i64 0)) (q6 : f 6 = .sc (.int .i64 0))
    (hx : ∀ f' s' w', Grw (T2 S id cid ((rdL N 0 r).2.c bv) (cellU t p q k0 w')) s' → Rd Try.prog s' 3 w' (is (rdL N 0 r).1) (rdL N 0 r).1.length → Cut Try.prog s' 5 bv (bs (rdL N 0 r).2.b) (rdL N 0 r).2.b.length → f' 0 = f 0 → f' 2 = f 2 → f' 3 = f 3 → K (.exit 0) (ofF 103 f') s') :
    aloop (acode Try.prog (acallF Try.prog pl (n + 3) m) m (pl 82) b) m K (ofF 103 f) st := by
  simp only [Try.f82, Option.getD_some, fl, Option.some.injEq] at hb
  subst hb
  have hi := w.hi
  have hc := w.hc
  have hne := w.hne
  refine aloop_forF (fun k g s => ∃ (i : Nat) (a : Nat) (A : List Nat) (r' : RS) (w' : V), k + i = m ∧ i ≤ N ∧ a ≤ i * 2147483647 ∧ A.length = i ∧ (ns A ++ (rdL (N - i) a r').1, (rdL (N - i) a r').2) = rdL N 0 r ∧ r'.ok ∧ Cut Try.prog s 5 bv (bs r'.b) r'.b.length ∧
    Buf Try.prog 3 (T2 S id cid (r'.c bv) (cellU t p q k0 w')) s w' (is (ns A)) A.length ∧ g 0 = f 0 ∧ g 2 = f 2 ∧ g 3 = f 3 ∧ g 4 = f 4 ∧ g 5 = .sc (.int .i64 a) ∧ g 6 = .sc (.int .i64 i)) ⟨0, 0, [], r, .tsl [] 0 true true, by omega, by omega, by omega, rfl, rfl, ho, hbv, ⟨hg, .inl ⟨⟨rfl, ⟨fun b hb => (by cases hb), fun _ => rfl⟩, fun s hs => (by simp [is, ns])⟩, rfl⟩⟩, rfl, rfl, rfl, rfl, q5, q6⟩ ?_
  rintro I' hI' k g s ⟨i, a, A, r', w', hk, hiN, ha, hA, hr, hro, hcut, hbuf, g0', g2, g3, g4, g5, g6⟩
  refine ⟨k - 1, by omega, ?_⟩
  by_cases hil : i < N
  · have d : decide ((i : Int) < N) = true := decide_eq_true (by omega)
    obtain ⟨M, hM⟩ : ∃ M, N - i = M + 1 := ⟨N - i - 1, by omega⟩
    rw [hM] at hr
    have hr2 := rdL_step (r' := (rdL N 0 r).2) (R := (rdL N 0 r).1) hr
    have hn := nb_le (r := r')
    obtain ⟨D, hD⟩ : ∃ D : Nat, (r'.nb 2147483647).1 = D := ⟨(r'.nb 2147483647).1.toNat, by omega⟩
    have g0 := hbuf.1
    have c0 := T2.fst hi hne g0
    have c1 := T2.snd hc g0
    simp only [g0', g4, g5, g6, q0, q4, d, evf,↓evp,evq,evr,fxa0,fxa1,fxa2,fxa3,fxu,fxn,fxl,↓fxp,lgc,absL,fitL,flatL,ares,ares1,ofVal,unSc,aload,afill,splice,abound,asI,elems,IntKind.bits,sortT,eqNil,closedL,allByte,patch,pendOK,numA,Value.cells,Value.oneCell',ibin,List.replicate,Option.elim,Nat.reduceAdd,Nat.reduceSub,Nat.reduceMul,Nat.reduceLT,Nat.reduceEqDiff,Nat.reduceLeDiff,Nat.reduceBEq,Int.reduceLE,Int.reduceLT,Int.reduceToNat,Int.reduceBNe,Int.reduceBEq,Int.reduceNeg,Int.reduceEq,Int.reduceNe,Nat.reduceBNe,Int.reduceAdd,Int.reduceSub,Int.reduceMul,Int.reducePow,Nat.reducePow,Int.reduceGT,Int.reduceGE,if_true,if_false,ite_true,ite_false,beq_self_eq_true,BEq.rfl,reduceCtorEq,eq_self,ne_eq,Function.comp_def,beq_iff_eq]
    refine r_ReadNumber hro c0 hcut (by omega) (by omega) (by omega) fun s2 j2 => ?_
    have g02 := T2.trn hi hc hne g0 j2
    have b2 := Buf.keepR hbuf (KeepR.trn c0 j2) (by simp only [T2.len]) g02
    have cut2 := hcut.trn c0 j2
    rw [← RS.nb_b r' 2147483647] at cut2
    have c2 := T2.snd hc g02
    have e1 : IntKind.i64.wrap ((a : Int) + D) = ((a + D : Nat) : Int) := by rw [IntWalk.i64_in _ (by omega)]; rfl
    have e2 : IntKind.i64.wrap ((i : Int) + 1) = ((i + 1 : Nat) : Int) := by rw [IntWalk.i64_in _ (by omega)]; rfl
    obtain ⟨w3, s3, a3, B3, G3⟩ := appL b2 [a + D] (by simp; omega)
    have c3 := G3.cells c2
    obtain ⟨v1, v2⟩ := rd_one B3.rd
    have g03 : Grw (T2 S id cid ((r'.nb 2147483647).2.c bv) (cellU t p q k0 w')) s3 := B3.1
    have g04 := T2.set (b' := cellU t p q k0 w3) hi hc hne g03
    have b4 := Buf.keepR (s0' := T2 S id cid ((r'.nb 2147483647).2.c bv) (cellU t p q k0 w3)) B3 (KeepR.set (c := cellU t p q k0 w3) c3) (by simp only [T2.len]) g04
    have cut4 : Cut Try.prog (s3.set cid (.cells (cellU t p q k0 w3))) 5 bv (bs (r'.nb 2147483647).2.b) (r'.nb 2147483647).2.b.length := (cut2.gro G3).trn c3 (Trn.set c3)
    simp only [cellU] at c2 c3
    simp only [is, ns, List.map_cons, List.map_nil, List.length_cons, List.length_nil, Nat.zero_add] at a3
    simp only [hD, e1, e2, c2, c3, g3, g5, g6, q3, a3, v1, v2, evf,↓evp,evq,evr,fxa0,fxa1,fxa2,fxa3,fxu,fxn,fxl,↓fxp,lgc,absL,fitL,flatL,ares,ares1,ofVal,unSc,aload,afill,splice,abound,asI,elems,IntKind.bits,sortT,eqNil,closedL,allByte,patch,pendOK,numA,Value.cells,Value.oneCell',ibin,List.replicate,Option.elim,Nat.reduceAdd,Nat.reduceSub,Nat.reduceMul,Nat.reduceLT,Nat.reduceEqDiff,Nat.reduceLeDiff,Nat.reduceBEq,Int.reduceLE,Int.reduceLT,Int.reduceToNat,Int.reduceBNe,Int.reduceBEq,Int.reduceNeg,Int.reduceEq,Int.reduceNe,Nat.reduceBNe,Int.reduceAdd,Int.reduceSub,Int.reduceMul,Int.reducePow,Nat.reducePow,Int.reduceGT,Int.reduceGE,if_true,if_false,ite_true,ite_false,beq_self_eq_true,BEq.rfl,reduceCtorEq,eq_self,ne_eq,Function.comp_def,beq_iff_eq]
    have hMi : N - (i + 1) = M := by omega
    refine hI' _ _ _ ⟨i + 1, a + D, A ++ [a + D], (r'.nb 2147483647).2, w3, by omega, hil, by omega, by simp [hA], ?_, RS.nb_ok hro _, cut4, b4, by simp only [g0', evf, ne_eq, Nat.reduceEqDiff, Nat.reduceLT, not_false_eq_true], by simp only [g2, evf, ne_eq, Nat.reduceEqDiff, Nat.reduceLT, not_false_eq_true], by simp only [g3, evf, ne_eq, Nat.reduceEqDiff, Nat.reduceLT, not_false_eq_true], by simp only [g4, evf, ne_eq, Nat.reduceEqDiff, Nat.reduceLT, not_false_eq_true], by simp only [evf, ne_eq, Nat.reduceEqDiff, Nat.reduceLT, not_false_eq_true], by simp only [evf, ne_eq, Nat.reduceEqDiff, Nat.reduceLT, not_false_eq_true]⟩
    rw [hD] at hr2
    rw [hMi]
    rw [← Prod.eta (rdL N 0 r)]
    simpa [ns] using hr2
  · have d : decide ((i : Int) < N) = false := decide_eq_false (by omega)
    obtain rfl : i = N := by omega
    rw [Nat.sub_self] at hr
    simp only [rdL, List.append_nil] at hr
    simp only [g4, g6, q4, d, evf,↓evp,evq,evr,fxa0,fxa1,fxa2,fxa3,fxu,fxn,fxl,↓fxp,lgc,absL,fitL,flatL,ares,ares1,ofVal,unSc,aload,afill,splice,abound,asI,elems,IntKind.bits,sortT,eqNil,closedL,allByte,patch,pendOK,numA,Value.cells,Value.oneCell',ibin,List.replicate,Option.elim,Nat.reduceAdd,Nat.reduceSub,Nat.reduceMul,Nat.reduceLT,Nat.reduceEqDiff,Nat.reduceLeDiff,Nat.reduceBEq,Int.reduceLE,Int.reduceLT,Int.reduceToNat,Int.reduceBNe,Int.reduceBEq,Int.reduceNeg,Int.reduceEq,Int.reduceNe,Nat.reduceBNe,Int.reduceAdd,Int.reduceSub,Int.reduceMul,Int.reducePow,Nat.reducePow,Int.reduceGT,Int.reduceGE,if_true,if_false,ite_true,ite_false,beq_self_eq_true,BEq.rfl,reduceCtorEq,eq_self,ne_eq,Function.comp_def,beq_iff_eq]
    rw [← hr] at hx
    exact hx _ _ w' hbuf.1 (by have := hbuf.rd; rw [← ns_length A] at this; exact this) hcut (by simp only [g0', evf, ne_eq, Nat.reduceEqDiff, Nat.reduceLT, not_false_eq_true]) (by simp only [g2, evf, ne_eq, Nat.reduceEqDiff, Nat.reduceLT, not_false_eq_true]) (by simp only [g3, evf, ne_eq, Nat.reduceEqDiff, Nat.reduceLT, not_false_eq_true])
end
section
variable {n m : Nat} {st : List Ob} {K : V → List Ob → Prop} {r r' : RS} {x : Int} {bv : V} {id : Nat}
set_option maxHeartbeats 4000000 in
theorem q_Read (ho : r.ok) (hr : st[id]? = some (.cells (r.c bv))) (hb : Cut Try.prog st 5 bv (bs r.b) r.b.length) (hm : 100 < m)
    (hK : ∀ w s, Trn st id (RS.c bv (rdCmd w r).2) s → (rdCmd w r).1.at_ s → (rdCmd w r).2.ok → Cut Try.prog s 5 bv (bs (rdCmd w r).2.b) (rdCmd w r).2.b.length → K (.agg (rdCmd w r).1.v) s) : acallF Try.prog pl (n + 4) m 82 [.ref id 0] st K := by
  refine acallF_inF Try.func82 rfl Try.ntmps82 (by simp) ?_
  simp only [evf,↓evp,evq,evr,fxa0,fxa1,fxa2,fxa3,fxu,fxn,fxl,↓fxp,lgc,absL,fitL,flatL,ares,ares1,ofVal,unSc,aload,afill,splice,abound,asI,elems,IntKind.bits,sortT,eqNil,closedL,allByte,patch,pendOK,numA,Value.cells,Value.oneCell',ibin,List.replicate,Option.elim,Nat.reduceAdd,Nat.reduceSub,Nat.reduceMul,Nat.reduceLT,Nat.reduceEqDiff,Nat.reduceLeDiff,Nat.reduceBEq,Int.reduceLE,Int.reduceLT,Int.reduceToNat,Int.reduceBNe,Int.reduceBEq,Int.reduceNeg,Int.reduceEq,Int.reduceNe,Nat.reduceBNe,Int.reduceAdd,Int.reduceSub,Int.reduceMul,Int.reducePow,Nat.reducePow,Int.reduceGT,Int.reduceGE,if_true,if_false,ite_true,ite_false,beq_self_eq_true,BEq.rfl,reduceCtorEq,eq_self,ne_eq,Function.comp_def,beq_iff_eq]
  obtain ⟨k, r1, e1⟩ : ∃ k r1, r.nb 2147483647 = (k, r1) := ⟨_, _, rfl⟩
  obtain ⟨t, r2, e2⟩ : ∃ k rr, r1.nb 2147483647 = (k, rr) := ⟨_, _, rfl⟩
  obtain ⟨p, r3, e3⟩ : ∃ k rr, r2.nb 2147483647 = (k, rr) := ⟨_, _, rfl⟩
  obtain ⟨q, r4, e4⟩ : ∃ k rr, r3.nb 2147483647 = (k, rr) := ⟨_, _, rfl⟩
  have hid := (List.getElem?_eq_some_iff.1 hr).1
  obtain ⟨S, hS⟩ : ∃ S, S = st ++ [Ob.cells zeroC, .cells zeroC] := ⟨_, rfl⟩
  have S0 : Grw st S := by rw [hS]; exact .push _ _
  have lS : S.length = st.length + 2 := by rw [hS]; simp
  have FZ : S[st.length]? = some (.cells zeroC) := by rw [hS]; exact get_new0 _ _
  have FC : S[st.length + 1]? = some (.cells zeroC) := by rw [hS]; simp
  have w : Rs S id (st.length + 1) := ⟨by omega, by omega, by omega⟩
  have G0 : Rg S id (st.length + 1) bv r (cellA 0 0 0 0 nilU 0 0 0 0 0 0 0) S := ⟨T2.of (S0 _ _ hr) FC fun j o _ _ h => h, ho, hb.grw S0⟩
  have FIN : ∀ (r' : RS) (cc : List V) (s : List Ob) (X : List V), Rg S id (st.length + 1) bv r' cc s → (∀ Y, (s.set st.length (.cells Y))[st.length]? = some (.cells Y)) ∧ Trn st id (r'.c bv) (s.set st.length (.cells X)) ∧ KeepR s (s.set st.length (.cells X)) ∧ Cut Try.prog (s.set st.length (.cells X)) 5 bv (bs r'.b) r'.b.length := by
    intro r' cc s X G
    have z := T2.other G.g (by omega) (by omega) FZ
    refine ⟨fun Y => get_set z _, ⟨?_, fun j o hj ho => ?_⟩, KeepR.set z, G.cut.trn z (Trn.set z)⟩
    · rw [List.getElem?_set_ne (by omega)]; exact T2.fst w.hi w.hne G.g
    · have hjl := (List.getElem?_eq_some_iff.1 ho).1
      rw [List.getElem?_set_ne (by omega)]
      exact T2.other G.g hj (by omega) (S0 _ _ ho)
  have ALL : ∀ (r' : RS) (cc : List V) (s : List Ob), Rg S id (st.length + 1) bv r' cc s → s[st.length + 1]? = some (.cells cc) ∧ s[st.length]? = some (.cells zeroC) := fun r' cc s G =>
    ⟨T2.snd w.hc G.g, T2.other G.g (by omega) (by omega) FZ⟩
  simp only [zeroC, cellU] at ALL FZ FC hS
  rw [← hS]
  have hn := nb_le (r := r)
  rw [e1] at hn
  simp only at hn
  refine r_nm3 e1 w G0 (by omega) (by omega) (by omega) fun s1 H1 K1 => ?_
  obtain ⟨c1', z1'⟩ := ALL _ _ _ H1
  simp only [cellA, nilU] at c1'
  have K2 : KeepR s1 (s1.set (st.length + 1) (.cells (cellA 0 0 0 k nilU 0 0 0 0 0 0 0))) := KeepR.set c1'
  have H2 := H1.set (cc' := cellA 0 0 0 k nilU 0 0 0 0 0 0 0) w
  obtain ⟨c2', z2'⟩ := ALL _ _ _ H2
  simp only [cellA, nilU] at c2' z2' K2
  simp only [c1', z1', c2', z2', evf,↓evp,evq,evr,fxa0,fxa1,fxa2,fxa3,fxu,fxn,fxl,↓fxp,lgc,absL,fitL,flatL,ares,ares1,ofVal,unSc,aload,afill,splice,abound,asI,elems,IntKind.bits,sortT,eqNil,closedL,allByte,patch,pendOK,numA,Value.cells,Value.oneCell',ibin,List.replicate,Option.elim,Nat.reduceAdd,Nat.reduceSub,Nat.reduceMul,Nat.reduceLT,Nat.reduceEqDiff,Nat.reduceLeDiff,Nat.reduceBEq,Int.reduceLE,Int.reduceLT,Int.reduceToNat,Int.reduceBNe,Int.reduceBEq,Int.reduceNeg,Int.reduceEq,Int.reduceNe,Nat.reduceBNe,Int.reduceAdd,Int.reduceSub,Int.reduceMul,Int.reducePow,Nat.reducePow,Int.reduceGT,Int.reduceGE,if_true,if_false,ite_true,ite_false,beq_self_eq_true,BEq.rfl,reduceCtorEq,eq_self,ne_eq,Function.comp_def,beq_iff_eq]
  refine r_nm3 e2 w H2 (by omega) (by omega) (by omega) fun s3 H3 K3 => ?_
  obtain ⟨c3', z3'⟩ := ALL _ _ _ H3
  simp only [cellA, nilU] at c3'
  have K4 : KeepR s3 (s3.set (st.length + 1) (.cells (cellA t 0 0 k nilU 0 0 0 0 0 0 0))) := KeepR.set c3'
  have H4 := H3.set (cc' := cellA t 0 0 k nilU 0 0 0 0 0 0 0) w
  obtain ⟨c4', z4'⟩ := ALL _ _ _ H4
  simp only [cellA, nilU] at c4' z4' K4
  simp only [c3', z3', c4', z4', evf,↓evp,evq,evr,fxa0,fxa1,fxa2,fxa3,fxu,fxn,fxl,↓fxp,lgc,absL,fitL,flatL,ares,ares1,ofVal,unSc,aload,afill,splice,abound,asI,elems,IntKind.bits,sortT,eqNil,closedL,allByte,patch,pendOK,numA,Value.cells,Value.oneCell',ibin,List.replicate,Option.elim,Nat.reduceAdd,Nat.reduceSub,Nat.reduceMul,Nat.reduceLT,Nat.reduceEqDiff,Nat.reduceLeDiff,Nat.reduceBEq,Int.reduceLE,Int.reduceLT,Int.reduceToNat,Int.reduceBNe,Int.reduceBEq,Int.reduceNeg,Int.reduceEq,Int.reduceNe,Nat.reduceBNe,Int.reduceAdd,Int.reduceSub,Int.reduceMul,Int.reducePow,Nat.reducePow,Int.reduceGT,Int.reduceGE,if_true,if_false,ite_true,ite_false,beq_self_eq_true,BEq.rfl,reduceCtorEq,eq_self,ne_eq,Function.comp_def,beq_iff_eq]
  refine r_nm3 e3 w H4 (by omega) (by omega) (by omega) fun s5 H5 K5 => ?_
  obtain ⟨c5', z5'⟩ := ALL _ _ _ H5
  simp only [cellA, nilU] at c5'
  have K6 : KeepR s5 (s5.set (st.length + 1) (.cells (cellA t p 0 k nilU 0 0 0 0 0 0 0))) := KeepR.set c5'
  have H6 := H5.set (cc' := cellA t p 0 k nilU 0 0 0 0 0 0 0) w
  obtain ⟨c6', z6'⟩ := ALL _ _ _ H6
  simp only [cellA, nilU] at c6' z6' K6
  simp only [c5', z5', c6', z6', evf,↓evp,evq,evr,fxa0,fxa1,fxa2,fxa3,fxu,fxn,fxl,↓fxp,lgc,absL,fitL,flatL,ares,ares1,ofVal,unSc,aload,afill,splice,abound,asI,elems,IntKind.bits,sortT,eqNil,closedL,allByte,patch,pendOK,numA,Value.cells,Value.oneCell',ibin,List.replicate,Option.elim,Nat.reduceAdd,Nat.reduceSub,Nat.reduceMul,Nat.reduceLT,Nat.reduceEqDiff,Nat.reduceLeDiff,Nat.reduceBEq,Int.reduceLE,Int.reduceLT,Int.reduceToNat,Int.reduceBNe,Int.reduceBEq,Int.reduceNeg,Int.reduceEq,Int.reduceNe,Nat.reduceBNe,Int.reduceAdd,Int.reduceSub,Int.reduceMul,Int.reducePow,Nat.reducePow,Int.reduceGT,Int.reduceGE,if_true,if_false,ite_true,ite_false,beq_self_eq_true,BEq.rfl,reduceCtorEq,eq_self,ne_eq,Function.comp_def,beq_iff_eq]
  refine r_nm3 e4 w H6 (by omega) (by omega) (by omega) fun s7 H7 K7 => ?_
  obtain ⟨c7', z7'⟩ := ALL _ _ _ H7
  simp only [cellA, nilU] at c7'
  have K8 : KeepR s7 (s7.set (st.length + 1) (.cells (cellA t p q k nilU 0 0 0 0 0 0 0))) := KeepR.set c7'
  have H8 := H7.set (cc' := cellA t p q k nilU 0 0 0 0 0 0 0) w
  obtain ⟨c8', z8'⟩ := ALL _ _ _ H8
  simp only [cellA, nilU] at c8' z8' K8
  have hk : k = 1 ∨ k = 2 ∨ k = 3 ∨ k = 4 ∨ k = 5 ∨ (k ≠ 1 ∧ k ≠ 2 ∧ k ≠ 3 ∧ k ≠ 4 ∧ k ≠ 5) := by omega
  rcases hk with hk | hk | hk | hk | hk | hk
  · have qU : kU k = true := by simp [kU, hk]
    have qA : kA k = true := by simp [kA, hk]
    have qZ : kZ k = false := by simp [kZ, hk]
    have qI : kI k = false := by simp [kI, hk]
    have qS : kS k = false := by simp [kS, hk]
    have q1 : (k == 1) = true := by simp [hk]
    have q2 : (k == 2) = false := by simp [hk]
    have q3 : (k == 3) = false := by simp [hk]
    have q4 : (k == 4) = false := by simp [hk]
    have q5 : (k == 5) = false := by simp [hk]
    obtain ⟨N, r5, e5, hN⟩ := nb64 r4
    obtain ⟨X6, r6, e6⟩ : ∃ x r', ((rdL N 0 r5).2).nb 2147483647 = (x, r') := ⟨_, _, rfl⟩
    obtain ⟨Y7, r7, e7⟩ : ∃ x r', (r6).nb 2147483647 = (x, r') := ⟨_, _, rfl⟩
    simp only [q1, q2, q3, q4, q5, c7', z7', c8', z8', evf,↓evp,evq,evr,fxa0,fxa1,fxa2,fxa3,fxu,fxn,fxl,↓fxp,lgc,absL,fitL,flatL,ares,ares1,ofVal,unSc,aload,afill,splice,abound,asI,elems,IntKind.bits,sortT,eqNil,closedL,allByte,patch,pendOK,numA,Value.cells,Value.oneCell',ibin,List.replicate,Option.elim,Nat.reduceAdd,Nat.reduceSub,Nat.reduceMul,Nat.reduceLT,Nat.reduceEqDiff,Nat.reduceLeDiff,Nat.reduceBEq,Int.reduceLE,Int.reduceLT,Int.reduceToNat,Int.reduceBNe,Int.reduceBEq,Int.reduceNeg,Int.reduceEq,Int.reduceNe,Nat.reduceBNe,Int.reduceAdd,Int.reduceSub,Int.reduceMul,Int.reducePow,Nat.reducePow,Int.reduceGT,Int.reduceGE,if_true,if_false,ite_true,ite_false,beq_self_eq_true,BEq.rfl,reduceCtorEq,eq_self,ne_eq,Function.comp_def,beq_iff_eq]
    refine r_nm3 e5 w H8 (by omega) (by omega) (by omega) fun s9 H9 K9 => ?_
    obtain ⟨c9', z9'⟩ := ALL _ _ _ H9
    simp only [cellA, nilU] at c9'
    simp only [evf,↓evp,evq,evr,fxa0,fxa1,fxa2,fxa3,fxu,fxn,fxl,↓fxp,lgc,absL,fitL,flatL,ares,ares1,ofVal,unSc,aload,afill,splice,abound,asI,elems,IntKind.bits,sortT,eqNil,closedL,allByte,patch,pendOK,numA,Value.cells,Value.oneCell',ibin,List.replicate,Option.elim,Nat.reduceAdd,Nat.reduceSub,Nat.reduceMul,Nat.reduceLT,Nat.reduceEqDiff,Nat.reduceLeDiff,Nat.reduceBEq,Int.reduceLE,Int.reduceLT,Int.reduceToNat,Int.reduceBNe,Int.reduceBEq,Int.reduceNeg,Int.reduceEq,Int.reduceNe,Nat.reduceBNe,Int.reduceAdd,Int.reduceSub,Int.reduceMul,Int.reducePow,Nat.reducePow,Int.reduceGT,Int.reduceGE,if_true,if_false,ite_true,ite_false,beq_self_eq_true,BEq.rfl,reduceCtorEq,eq_self,ne_eq,Function.comp_def,beq_iff_eq]
    refine read_loop2 rfl (S := S) (id := id) (cid := st.length + 1) (N := N) hN w H9.ok H9.cut H9.g (by omega) (by simp only [evf, ne_eq, Nat.reduceEqDiff, Nat.reduceLT, not_false_eq_true]) (by simp only [evf, ne_eq, Nat.reduceEqDiff, Nat.reduceLT, not_false_eq_true]) (by simp only [evf, ne_eq, Nat.reduceEqDiff, Nat.reduceLT, not_false_eq_true]) (by simp only [evf, ne_eq, Nat.reduceEqDiff, Nat.reduceLT, not_false_eq_true]) (by simp only [evf, ne_eq, Nat.reduceEqDiff, Nat.reduceLT, not_false_eq_true]) fun f s w' g hw cut f0 f2 f3 => ?_
    simp only [evf, ne_eq, Nat.reduceEqDiff, Nat.reduceLT, not_false_eq_true] at f0 f2 f3
    have H10 : Rg S id (st.length + 1) bv (rdL N 0 r5).2 (cellA t p q k w' 0 0 0 0 0 0 0) s := ⟨g, rdL_ok _ _ H9.ok, cut⟩
    obtain ⟨c10', z10'⟩ := ALL _ _ _ H10
    simp only [cellA] at c10'
    obtain ⟨v1, v2⟩ := rd_one hw
    simp only [q1, q2, q3, q4, q5, f0, f2, f3, v1, v2, c10', z10', evf,↓evp,evq,evr,fxa0,fxa1,fxa2,fxa3,fxu,fxn,fxl,↓fxp,lgc,absL,fitL,flatL,ares,ares1,ofVal,unSc,aload,afill,splice,abound,asI,elems,IntKind.bits,sortT,eqNil,closedL,allByte,patch,pendOK,numA,Value.cells,Value.oneCell',ibin,List.replicate,Option.elim,Nat.reduceAdd,Nat.reduceSub,Nat.reduceMul,Nat.reduceLT,Nat.reduceEqDiff,Nat.reduceLeDiff,Nat.reduceBEq,Int.reduceLE,Int.reduceLT,Int.reduceToNat,Int.reduceBNe,Int.reduceBEq,Int.reduceNeg,Int.reduceEq,Int.reduceNe,Nat.reduceBNe,Int.reduceAdd,Int.reduceSub,Int.reduceMul,Int.reducePow,Nat.reducePow,Int.reduceGT,Int.reduceGE,if_true,if_false,ite_true,ite_false,beq_self_eq_true,BEq.rfl,reduceCtorEq,eq_self,ne_eq,Function.comp_def,beq_iff_eq]
    refine r_nm3 e6 w H10 (by omega) (by omega) (by omega) fun s11 H11 K11 => ?_
    obtain ⟨c11', z11'⟩ := ALL _ _ _ H11
    simp only [cellA] at c11'
    have K12 : KeepR s11 (s11.set (st.length + 1) (.cells (cellA t p q k w' X6 0 0 0 0 0 0))) := KeepR.set c11'
    have H12 := H11.set (cc' := cellA t p q k w' X6 0 0 0 0 0 0) w
    obtain ⟨c12', z12'⟩ := ALL _ _ _ H12
    simp only [cellA, nilU] at c12' z12' K12
    simp only [q1, q2, q3, q4, q5, f0, f2, f3, v1, v2, c11', z11', c12', z12', evf,↓evp,evq,evr,fxa0,fxa1,fxa2,fxa3,fxu,fxn,fxl,↓fxp,lgc,absL,fitL,flatL,ares,ares1,ofVal,unSc,aload,afill,splice,abound,asI,elems,IntKind.bits,sortT,eqNil,closedL,allByte,patch,pendOK,numA,Value.cells,Value.oneCell',ibin,List.replicate,Option.elim,Nat.reduceAdd,Nat.reduceSub,Nat.reduceMul,Nat.reduceLT,Nat.reduceEqDiff,Nat.reduceLeDiff,Nat.reduceBEq,Int.reduceLE,Int.reduceLT,Int.reduceToNat,Int.reduceBNe,Int.reduceBEq,Int.reduceNeg,Int.reduceEq,Int.reduceNe,Nat.reduceBNe,Int.reduceAdd,Int.reduceSub,Int.reduceMul,Int.reducePow,Nat.reducePow,Int.reduceGT,Int.reduceGE,if_true,if_false,ite_true,ite_false,beq_self_eq_true,BEq.rfl,reduceCtorEq,eq_self,ne_eq,Function.comp_def,beq_iff_eq]
    refine r_nm3 e7 w H12 (by omega) (by omega) (by omega) fun s13 H13 K13 => ?_
    obtain ⟨c13', z13'⟩ := ALL _ _ _ H13
    simp only [cellA] at c13'
    have K14 : KeepR s13 (s13.set (st.length + 1) (.cells (cellA t p q k w' X6 Y7 0 0 0 0 0))) := KeepR.set c13'
    have H14 := H13.set (cc' := cellA t p q k w' X6 Y7 0 0 0 0 0) w
    obtain ⟨c14', z14'⟩ := ALL _ _ _ H14
    simp only [cellA, nilU] at c14' z14' K14
    obtain ⟨F1, F2, F3, F4⟩ := FIN _ _ _ (cellA t p q k w' X6 Y7 0 0 0 0 0) H14
    simp only [cellA, nilU] at F1 F2 F3
    simp only [q1, q2, q3, q4, q5, f0, f2, f3, v1, v2, c13', z13', c14', z14', F1, evf,↓evp,evq,evr,fxa0,fxa1,fxa2,fxa3,fxu,fxn,fxl,↓fxp,lgc,absL,fitL,flatL,ares,ares1,ofVal,unSc,aload,afill,splice,abound,asI,elems,IntKind.bits,sortT,eqNil,closedL,allByte,patch,pendOK,numA,Value.cells,Value.oneCell',ibin,List.replicate,Option.elim,Nat.reduceAdd,Nat.reduceSub,Nat.reduceMul,Nat.reduceLT,Nat.reduceEqDiff,Nat.reduceLeDiff,Nat.reduceBEq,Int.reduceLE,Int.reduceLT,Int.reduceToNat,Int.reduceBNe,Int.reduceBEq,Int.reduceNeg,Int.reduceEq,Int.reduceNe,Nat.reduceBNe,Int.reduceAdd,Int.reduceSub,Int.reduceMul,Int.reducePow,Nat.reducePow,Int.reduceGT,Int.reduceGE,if_true,if_false,ite_true,ite_false,beq_self_eq_true,BEq.rfl,reduceCtorEq,eq_self,ne_eq,Function.comp_def,beq_iff_eq]
    have R : rdCmd w' r = (⟨t, p, q, k, w', (rdL N 0 r5).1, X6, Y7, 0, 0, 0, 0, 0⟩, r7) := by simp [rdCmd, rdIf, rdU, e1, e2, e3, e4, e5, e6, e7, qU, qA, qZ, qI, qS]
    have := hK w'
    rw [R] at this
    have ll := rdL_len N 0 r5
    exact this _ F2 ⟨(Rd.keepR (Rd.keepR (Rd.keepR (Rd.keepR (Rd.keepR hw K11) K12) K13) K14) F3), v1, v2, by simp only [ll]; omega⟩ H14.ok F4
  · have qU : kU k = true := by simp [kU, hk]
    have qA : kA k = false := by simp [kA, hk]
    have qZ : kZ k = false := by simp [kZ, hk]
    have qI : kI k = false := by simp [kI, hk]
    have qS : kS k = false := by simp [kS, hk]
    have q1 : (k == 1) = false := by simp [hk]
    have q2 : (k == 2) = true := by simp [hk]
    have q3 : (k == 3) = false := by simp [hk]
    have q4 : (k == 4) = false := by simp [hk]
    have q5 : (k == 5) = false := by simp [hk]
    obtain ⟨N, r5, e5, hN⟩ := nb64 r4
    simp only [q1, q2, q3, q4, q5, c7', z7', c8', z8', evf,↓evp,evq,evr,fxa0,fxa1,fxa2,fxa3,fxu,fxn,fxl,↓fxp,lgc,absL,fitL,flatL,ares,ares1,ofVal,unSc,aload,afill,splice,abound,asI,elems,IntKind.bits,sortT,eqNil,closedL,allByte,patch,pendOK,numA,Value.cells,Value.oneCell',ibin,List.replicate,Option.elim,Nat.reduceAdd,Nat.reduceSub,Nat.reduceMul,Nat.reduceLT,Nat.reduceEqDiff,Nat.reduceLeDiff,Nat.reduceBEq,Int.reduceLE,Int.reduceLT,Int.reduceToNat,Int.reduceBNe,Int.reduceBEq,Int.reduceNeg,Int.reduceEq,Int.reduceNe,Nat.reduceBNe,Int.reduceAdd,Int.reduceSub,Int.reduceMul,Int.reducePow,Nat.reducePow,Int.reduceGT,Int.reduceGE,if_true,if_false,ite_true,ite_false,beq_self_eq_true,BEq.rfl,reduceCtorEq,eq_self,ne_eq,Function.comp_def,beq_iff_eq]
    refine r_nm3 e5 w H8 (by omega) (by omega) (by omega) fun s9 H9 K9 => ?_
    obtain ⟨c9', z9'⟩ := ALL _ _ _ H9
    simp only [cellA, nilU] at c9'
    simp only [evf,↓evp,evq,evr,fxa0,fxa1,fxa2,fxa3,fxu,fxn,fxl,↓fxp,lgc,absL,fitL,flatL,ares,ares1,ofVal,unSc,aload,afill,splice,abound,asI,elems,IntKind.bits,sortT,eqNil,closedL,allByte,patch,pendOK,numA,Value.cells,Value.oneCell',ibin,List.replicate,Option.elim,Nat.reduceAdd,Nat.reduceSub,Nat.reduceMul,Nat.reduceLT,Nat.reduceEqDiff,Nat.reduceLeDiff,Nat.reduceBEq,Int.reduceLE,Int.reduceLT,Int.reduceToNat,Int.reduceBNe,Int.reduceBEq,Int.reduceNeg,Int.reduceEq,Int.reduceNe,Nat.reduceBNe,Int.reduceAdd,Int.reduceSub,Int.reduceMul,Int.reducePow,Nat.reducePow,Int.reduceGT,Int.reduceGE,if_true,if_false,ite_true,ite_false,beq_self_eq_true,BEq.rfl,reduceCtorEq,eq_self,ne_eq,Function.comp_def,beq_iff_eq]
    refine read_loop2 rfl (S := S) (id := id) (cid := st.length + 1) (N := N) hN w H9.ok H9.cut H9.g (by omega) (by simp only [evf, ne_eq, Nat.reduceEqDiff, Nat.reduceLT, not_false_eq_true]) (by simp only [evf, ne_eq, Nat.reduceEqDiff, Nat.reduceLT, not_false_eq_true]) (by simp only [evf, ne_eq, Nat.reduceEqDiff, Nat.reduceLT, not_false_eq_true]) (by simp only [evf, ne_eq, Nat.reduceEqDiff, Nat.reduceLT, not_false_eq_true]) (by simp only [evf, ne_eq, Nat.reduceEqDiff, Nat.reduceLT, not_false_eq_true]) fun f s w' g hw cut f0 f2 f3 => ?_
    simp only [evf, ne_eq, Nat.reduceEqDiff, Nat.reduceLT, not_false_eq_true] at f0 f2 f3
    have H10 : Rg S id (st.length + 1) bv (rdL N 0 r5).2 (cellA t p q k w' 0 0 0 0 0 0 0) s := ⟨g, rdL_ok _ _ H9.ok, cut⟩
    obtain ⟨c10', z10'⟩ := ALL _ _ _ H10
    simp only [cellA] at c10'
    obtain ⟨v1, v2⟩ := rd_one hw
    obtain ⟨F1, F2, F3, F4⟩ := FIN _ _ _ (cellA t p q k w' 0 0 0 0 0 0 0) H10
    simp only [cellA, nilU] at F1 F2 F3
    simp only [q1, q2, q3, q4, q5, f0, f2, f3, v1, v2, c10', z10', F1, evf,↓evp,evq,evr,fxa0,fxa1,fxa2,fxa3,fxu,fxn,fxl,↓fxp,lgc,absL,fitL,flatL,ares,ares1,ofVal,unSc,aload,afill,splice,abound,asI,elems,IntKind.bits,sortT,eqNil,closedL,allByte,patch,pendOK,numA,Value.cells,Value.oneCell',ibin,List.replicate,Option.elim,Nat.reduceAdd,Nat.reduceSub,Nat.reduceMul,Nat.reduceLT,Nat.reduceEqDiff,Nat.reduceLeDiff,Nat.reduceBEq,Int.reduceLE,Int.reduceLT,Int.reduceToNat,Int.reduceBNe,Int.reduceBEq,Int.reduceNeg,Int.reduceEq,Int.reduceNe,Nat.reduceBNe,Int.reduceAdd,Int.reduceSub,Int.reduceMul,Int.reducePow,Nat.reducePow,Int.reduceGT,Int.reduceGE,if_true,if_false,ite_true,ite_false,beq_self_eq_true,BEq.rfl,reduceCtorEq,eq_self,ne_eq,Function.comp_def,beq_iff_eq]
    have R : rdCmd w' r = (⟨t, p, q, k, w', (rdL N 0 r5).1, 0, 0, 0, 0, 0, 0, 0⟩, (rdL N 0 r5).2) := by simp [rdCmd, rdIf, rdU, e1, e2, e3, e4, e5, qU, qA, qZ, qI, qS]
    have := hK w'
    rw [R] at this
    have ll := rdL_len N 0 r5
    exact this _ F2 ⟨(Rd.keepR hw F3), v1, v2, by simp only [ll]; omega⟩ H10.ok F4
  · have qU : kU k = false := by simp [kU, hk]
    have qA : kA k = true := by simp [kA, hk]
    have qZ : kZ k = true := by simp [kZ, hk]
    have qI : kI k = true := by simp [kI, hk]
    have qS : kS k = false := by simp [kS, hk]
    have q1 : (k == 1) = false := by simp [hk]
    have q2 : (k == 2) = false := by simp [hk]
    have q3 : (k == 3) = true := by simp [hk]
    have q4 : (k == 4) = false := by simp [hk]
    have q5 : (k == 5) = false := by simp [hk]
    obtain ⟨I5, r5, e5⟩ : ∃ x r', (r4).nb 2147483647 = (x, r') := ⟨_, _, rfl⟩
    obtain ⟨X6, r6, e6⟩ : ∃ x r', (r5).nb 2147483647 = (x, r') := ⟨_, _, rfl⟩
    obtain ⟨Y7, r7, e7⟩ : ∃ x r', (r6).nb 2147483647 = (x, r') := ⟨_, _, rfl⟩
    obtain ⟨A8, r8, e8⟩ : ∃ x r', (r7).nb 2147483647 = (x, r') := ⟨_, _, rfl⟩
    obtain ⟨B9, r9, e9⟩ : ∃ x r', (r8).nb 2147483647 = (x, r') := ⟨_, _, rfl⟩
    simp only [q1, q2, q3, q4, q5, c7', z7', c8', z8', evf,↓evp,evq,evr,fxa0,fxa1,fxa2,fxa3,fxu,fxn,fxl,↓fxp,lgc,absL,fitL,flatL,ares,ares1,ofVal,unSc,aload,afill,splice,abound,asI,elems,IntKind.bits,sortT,eqNil,closedL,allByte,patch,pendOK,numA,Value.cells,Value.oneCell',ibin,List.replicate,Option.elim,Nat.reduceAdd,Nat.reduceSub,Nat.reduceMul,Nat.reduceLT,Nat.reduceEqDiff,Nat.reduceLeDiff,Nat.reduceBEq,Int.reduceLE,Int.reduceLT,Int.reduceToNat,Int.reduceBNe,Int.reduceBEq,Int.reduceNeg,Int.reduceEq,Int.reduceNe,Nat.reduceBNe,Int.reduceAdd,Int.reduceSub,Int.reduceMul,Int.reducePow,Nat.reducePow,Int.reduceGT,Int.reduceGE,if_true,if_false,ite_true,ite_false,beq_self_eq_true,BEq.rfl,reduceCtorEq,eq_self,ne_eq,Function.comp_def,beq_iff_eq]
    refine r_nm3 e5 w H8 (by omega) (by omega) (by omega) fun s9 H9 K9 => ?_
    obtain ⟨c9', z9'⟩ := ALL _ _ _ H9
    simp only [cellA, nilU] at c9'
    have K10 : KeepR s9 (s9.set (st.length + 1) (.cells (cellA t p q k nilU 0 0 0 0 I5 0 0))) := KeepR.set c9'
    have H10 := H9.set (cc' := cellA t p q k nilU 0 0 0 0 I5 0 0) w
    obtain ⟨c10', z10'⟩ := ALL _ _ _ H10
    simp only [cellA, nilU] at c10' z10' K10
    simp only [q1, q2, q3, q4, q5, c9', z9', c10', z10', evf,↓evp,evq,evr,fxa0,fxa1,fxa2,fxa3,fxu,fxn,fxl,↓fxp,lgc,absL,fitL,flatL,ares,ares1,ofVal,unSc,aload,afill,splice,abound,asI,elems,IntKind.bits,sortT,eqNil,closedL,allByte,patch,pendOK,numA,Value.cells,Value.oneCell',ibin,List.replicate,Option.elim,Nat.reduceAdd,Nat.reduceSub,Nat.reduceMul,Nat.reduceLT,Nat.reduceEqDiff,Nat.reduceLeDiff,Nat.reduceBEq,Int.reduceLE,Int.reduceLT,Int.reduceToNat,Int.reduceBNe,Int.reduceBEq,Int.reduceNeg,Int.reduceEq,Int.reduceNe,Nat.reduceBNe,Int.reduceAdd,Int.reduceSub,Int.reduceMul,Int.reducePow,Nat.reducePow,Int.reduceGT,Int.reduceGE,if_true,if_false,ite_true,ite_false,beq_self_eq_true,BEq.rfl,reduceCtorEq,eq_self,ne_eq,Function.comp_def,beq_iff_eq]
    refine r_nm3 e6 w H10 (by omega) (by omega) (by omega) fun s11 H11 K11 => ?_
    obtain ⟨c11', z11'⟩ := ALL _ _ _ H11
    simp only [cellA, nilU] at c11'
    have K12 : KeepR s11 (s11.set (st.length + 1) (.cells (cellA t p q k nilU X6 0 0 0 I5 0 0))) := KeepR.set c11'
    have H12 := H11.set (cc' := cellA t p q k nilU X6 0 0 0 I5 0 0) w
    obtain ⟨c12', z12'⟩ := ALL _ _ _ H12
    simp only [cellA, nilU] at c12' z12' K12
    simp only [q1, q2, q3, q4, q5, c11', z11', c12', z12', evf,↓evp,evq,evr,fxa0,fxa1,fxa2,fxa3,fxu,fxn,fxl,↓fxp,lgc,absL,fitL,flatL,ares,ares1,ofVal,unSc,aload,afill,splice,abound,asI,elems,IntKind.bits,sortT,eqNil,closedL,allByte,patch,pendOK,numA,Value.cells,Value.oneCell',ibin,List.replicate,Option.elim,Nat.reduceAdd,Nat.reduceSub,Nat.reduceMul,Nat.reduceLT,Nat.reduceEqDiff,Nat.reduceLeDiff,Nat.reduceBEq,Int.reduceLE,Int.reduceLT,Int.reduceToNat,Int.reduceBNe,Int.reduceBEq,Int.reduceNeg,Int.reduceEq,Int.reduceNe,Nat.reduceBNe,Int.reduceAdd,Int.reduceSub,Int.reduceMul,Int.reducePow,Nat.reducePow,Int.reduceGT,Int.reduceGE,if_true,if_false,ite_true,ite_false,beq_self_eq_true,BEq.rfl,reduceCtorEq,eq_self,ne_eq,Function.comp_def,beq_iff_eq]
    refine r_nm3 e7 w H12 (by omega) (by omega) (by omega) fun s13 H13 K13 => ?_
    obtain ⟨c13', z13'⟩ := ALL _ _ _ H13
    simp only [cellA, nilU] at c13'
    have K14 : KeepR s13 (s13.set (st.length + 1) (.cells (cellA t p q k nilU X6 Y7 0 0 I5 0 0))) := KeepR.set c13'
    have H14 := H13.set (cc' := cellA t p q k nilU X6 Y7 0 0 I5 0 0) w
    obtain ⟨c14', z14'⟩ := ALL _ _ _ H14
    simp only [cellA, nilU] at c14' z14' K14
    simp only [q1, q2, q3, q4, q5, c13', z13', c14', z14', evf,↓evp,evq,evr,fxa0,fxa1,fxa2,fxa3,fxu,fxn,fxl,↓fxp,lgc,absL,fitL,flatL,ares,ares1,ofVal,unSc,aload,afill,splice,abound,asI,elems,IntKind.bits,sortT,eqNil,closedL,allByte,patch,pendOK,numA,Value.cells,Value.oneCell',ibin,List.replicate,Option.elim,Nat.reduceAdd,Nat.reduceSub,Nat.reduceMul,Nat.reduceLT,Nat.reduceEqDiff,Nat.reduceLeDiff,Nat.reduceBEq,Int.reduceLE,Int.reduceLT,Int.reduceToNat,Int.reduceBNe,Int.reduceBEq,Int.reduceNeg,Int.reduceEq,Int.reduceNe,Nat.reduceBNe,Int.reduceAdd,Int.reduceSub,Int.reduceMul,Int.reducePow,Nat.reducePow,Int.reduceGT,Int.reduceGE,if_true,if_false,ite_true,ite_false,beq_self_eq_true,BEq.rfl,reduceCtorEq,eq_self,ne_eq,Function.comp_def,beq_iff_eq]
    refine r_nm3 e8 w H14 (by omega) (by omega) (by omega) fun s15 H15 K15 => ?_
    obtain ⟨c15', z15'⟩ := ALL _ _ _ H15
    simp only [cellA, nilU] at c15'
    have K16 : KeepR s15 (s15.set (st.length + 1) (.cells (cellA t p q k nilU X6 Y7 A8 0 I5 0 0))) := KeepR.set c15'
    have H16 := H15.set (cc' := cellA t p q k nilU X6 Y7 A8 0 I5 0 0) w
    obtain ⟨c16', z16'⟩ := ALL _ _ _ H16
    simp only [cellA, nilU] at c16' z16' K16
    simp only [q1, q2, q3, q4, q5, c15', z15', c16', z16', evf,↓evp,evq,evr,fxa0,fxa1,fxa2,fxa3,fxu,fxn,fxl,↓fxp,lgc,absL,fitL,flatL,ares,ares1,ofVal,unSc,aload,afill,splice,abound,asI,elems,IntKind.bits,sortT,eqNil,closedL,allByte,patch,pendOK,numA,Value.cells,Value.oneCell',ibin,List.replicate,Option.elim,Nat.reduceAdd,Nat.reduceSub,Nat.reduceMul,Nat.reduceLT,Nat.reduceEqDiff,Nat.reduceLeDiff,Nat.reduceBEq,Int.reduceLE,Int.reduceLT,Int.reduceToNat,Int.reduceBNe,Int.reduceBEq,Int.reduceNeg,Int.reduceEq,Int.reduceNe,Nat.reduceBNe,Int.reduceAdd,Int.reduceSub,Int.reduceMul,Int.reducePow,Nat.reducePow,Int.reduceGT,Int.reduceGE,if_true,if_false,ite_true,ite_false,beq_self_eq_true,BEq.rfl,reduceCtorEq,eq_self,ne_eq,Function.comp_def,beq_iff_eq]
    refine r_nm3 e9 w H16 (by omega) (by omega) (by omega) fun s17 H17 K17 => ?_
    obtain ⟨c17', z17'⟩ := ALL _ _ _ H17
    simp only [cellA, nilU] at c17'
    have K18 : KeepR s17 (s17.set (st.length + 1) (.cells (cellA t p q k nilU X6 Y7 A8 B9 I5 0 0))) := KeepR.set c17'
    have H18 := H17.set (cc' := cellA t p q k nilU X6 Y7 A8 B9 I5 0 0) w
    obtain ⟨c18', z18'⟩ := ALL _ _ _ H18
    simp only [cellA, nilU] at c18' z18' K18
    obtain ⟨F1, F2, F3, F4⟩ := FIN _ _ _ (cellA t p q k nilU X6 Y7 A8 B9 I5 0 0) H18
    simp only [cellA, nilU] at F1 F2 F3
    simp only [q1, q2, q3, q4, q5, c17', z17', c18', z18', F1, evf,↓evp,evq,evr,fxa0,fxa1,fxa2,fxa3,fxu,fxn,fxl,↓fxp,lgc,absL,fitL,flatL,ares,ares1,ofVal,unSc,aload,afill,splice,abound,asI,elems,IntKind.bits,sortT,eqNil,closedL,allByte,patch,pendOK,numA,Value.cells,Value.oneCell',ibin,List.replicate,Option.elim,Nat.reduceAdd,Nat.reduceSub,Nat.reduceMul,Nat.reduceLT,Nat.reduceEqDiff,Nat.reduceLeDiff,Nat.reduceBEq,Int.reduceLE,Int.reduceLT,Int.reduceToNat,Int.reduceBNe,Int.reduceBEq,Int.reduceNeg,Int.reduceEq,Int.reduceNe,Nat.reduceBNe,Int.reduceAdd,Int.reduceSub,Int.reduceMul,Int.reducePow,Nat.reducePow,Int.reduceGT,Int.reduceGE,if_true,if_false,ite_true,ite_false,beq_self_eq_true,BEq.rfl,reduceCtorEq,eq_self,ne_eq,Function.comp_def,beq_iff_eq]
    have R : rdCmd nilU r = (⟨t, p, q, k, nilU, [], X6, Y7, A8, B9, I5, 0, 0⟩, r9) := by simp [rdCmd, rdIf, rdU, e1, e2, e3, e4, e5, e6, e7, e8, e9, qU, qA, qZ, qI, qS]
    have := hK nilU
    rw [R] at this
    exact this _ F2 (nil_at _ rfl rfl _) H18.ok F4
  · have qU : kU k = false := by simp [kU, hk]
    have qA : kA k = false := by simp [kA, hk]
    have qZ : kZ k = false := by simp [kZ, hk]
    have qI : kI k = true := by simp [kI, hk]
    have qS : kS k = false := by simp [kS, hk]
    have q1 : (k == 1) = false := by simp [hk]
    have q2 : (k == 2) = false := by simp [hk]
    have q3 : (k == 3) = false := by simp [hk]
    have q4 : (k == 4) = true := by simp [hk]
    have q5 : (k == 5) = false := by simp [hk]
    obtain ⟨I5, r5, e5⟩ : ∃ x r', (r4).nb 2147483647 = (x, r') := ⟨_, _, rfl⟩
    simp only [q1, q2, q3, q4, q5, c7', z7', c8', z8', evf,↓evp,evq,evr,fxa0,fxa1,fxa2,fxa3,fxu,fxn,fxl,↓fxp,lgc,absL,fitL,flatL,ares,ares1,ofVal,unSc,aload,afill,splice,abound,asI,elems,IntKind.bits,sortT,eqNil,closedL,allByte,patch,pendOK,numA,Value.cells,Value.oneCell',ibin,List.replicate,Option.elim,Nat.reduceAdd,Nat.reduceSub,Nat.reduceMul,Nat.reduceLT,Nat.reduceEqDiff,Nat.reduceLeDiff,Nat.reduceBEq,Int.reduceLE,Int.reduceLT,Int.reduceToNat,Int.reduceBNe,Int.reduceBEq,Int.reduceNeg,Int.reduceEq,Int.reduceNe,Nat.reduceBNe,Int.reduceAdd,Int.reduceSub,Int.reduceMul,Int.reducePow,Nat.reducePow,Int.reduceGT,Int.reduceGE,if_true,if_false,ite_true,ite_false,beq_self_eq_true,BEq.rfl,reduceCtorEq,eq_self,ne_eq,Function.comp_def,beq_iff_eq]
    refine r_nm3 e5 w H8 (by omega) (by omega) (by omega) fun s9 H9 K9 => ?_
    obtain ⟨c9', z9'⟩ := ALL _ _ _ H9
    simp only [cellA, nilU] at c9'
    have K10 : KeepR s9 (s9.set (st.length + 1) (.cells (cellA t p q k nilU 0 0 0 0 I5 0 0))) := KeepR.set c9'
    have H10 := H9.set (cc' := cellA t p q k nilU 0 0 0 0 I5 0 0) w
    obtain ⟨c10', z10'⟩ := ALL _ _ _ H10
    simp only [cellA, nilU] at c10' z10' K10
    obtain ⟨F1, F2, F3, F4⟩ := FIN _ _ _ (cellA t p q k nilU 0 0 0 0 I5 0 0) H10
    simp only [cellA, nilU] at F1 F2 F3
    simp only [q1, q2, q3, q4, q5, c9', z9', c10', z10', F1, evf,↓evp,evq,evr,fxa0,fxa1,fxa2,fxa3,fxu,fxn,fxl,↓fxp,lgc,absL,fitL,flatL,ares,ares1,ofVal,unSc,aload,afill,splice,abound,asI,elems,IntKind.bits,sortT,eqNil,closedL,allByte,patch,pendOK,numA,Value.cells,Value.oneCell',ibin,List.replicate,Option.elim,Nat.reduceAdd,Nat.reduceSub,Nat.reduceMul,Nat.reduceLT,Nat.reduceEqDiff,Nat.reduceLeDiff,Nat.reduceBEq,Int.reduceLE,Int.reduceLT,Int.reduceToNat,Int.reduceBNe,Int.reduceBEq,Int.reduceNeg,Int.reduceEq,Int.reduceNe,Nat.reduceBNe,Int.reduceAdd,Int.reduceSub,Int.reduceMul,Int.reducePow,Nat.reducePow,Int.reduceGT,Int.reduceGE,if_true,if_false,ite_true,ite_false,beq_self_eq_true,BEq.rfl,reduceCtorEq,eq_self,ne_eq,Function.comp_def,beq_iff_eq]
    have R : rdCmd nilU r = (⟨t, p, q, k, nilU, [], 0, 0, 0, 0, I5, 0, 0⟩, r5) := by simp [rdCmd, rdIf, rdU, e1, e2, e3, e4, e5, qU, qA, qZ, qI, qS]
    have := hK nilU
    rw [R] at this
    exact this _ F2 (nil_at _ rfl rfl _) H10.ok F4
  · have qU : kU k = false := by simp [kU, hk]
    have qA : kA k = true := by simp [kA, hk]
    have qZ : kZ k = false := by simp [kZ, hk]
    have qI : kI k = true := by simp [kI, hk]
    have qS : kS k = true := by simp [kS, hk]
    have q1 : (k == 1) = false := by simp [hk]
    have q2 : (k == 2) = false := by simp [hk]
    have q3 : (k == 3) = false := by simp [hk]
    have q4 : (k == 4) = false := by simp [hk]
    have q5 : (k == 5) = true := by simp [hk]
    obtain ⟨I5, r5, e5⟩ : ∃ x r', (r4).nb 2147483647 = (x, r') := ⟨_, _, rfl⟩
    obtain ⟨X6, r6, e6⟩ : ∃ x r', (r5).nb 2147483647 = (x, r') := ⟨_, _, rfl⟩
    obtain ⟨Y7, r7, e7⟩ : ∃ x r', (r6).nb 2147483647 = (x, r') := ⟨_, _, rfl⟩
    obtain ⟨C8, r8, e8⟩ : ∃ x r', (r7).nb 2147483647 = (x, r') := ⟨_, _, rfl⟩
    obtain ⟨Z9, r9, e9⟩ : ∃ x r', (r8).nb 2147483647 = (x, r') := ⟨_, _, rfl⟩
    simp only [q1, q2, q3, q4, q5, c7', z7', c8', z8', evf,↓evp,evq,evr,fxa0,fxa1,fxa2,fxa3,fxu,fxn,fxl,↓fxp,lgc,absL,fitL,flatL,ares,ares1,ofVal,unSc,aload,afill,splice,abound,asI,elems,IntKind.bits,sortT,eqNil,closedL,allByte,patch,pendOK,numA,Value.cells,Value.oneCell',ibin,List.replicate,Option.elim,Nat.reduceAdd,Nat.reduceSub,Nat.reduceMul,Nat.reduceLT,Nat.reduceEqDiff,Nat.reduceLeDiff,Nat.reduceBEq,Int.reduceLE,Int.reduceLT,Int.reduceToNat,Int.reduceBNe,Int.reduceBEq,Int.reduceNeg,Int.reduceEq,Int.reduceNe,Nat.reduceBNe,Int.reduceAdd,Int.reduceSub,Int.reduceMul,Int.reducePow,Nat.reducePow,Int.reduceGT,Int.reduceGE,if_true,if_false,ite_true,ite_false,beq_self_eq_true,BEq.rfl,reduceCtorEq,eq_self,ne_eq,Function.comp_def,beq_iff_eq]
    refine r_nm3 e5 w H8 (by omega) (by omega) (by omega) fun s9 H9 K9 => ?_
    obtain ⟨c9', z9'⟩ := ALL _ _ _ H9
    simp only [cellA, nilU] at c9'
    have K10 : KeepR s9 (s9.set (st.length + 1) (.cells (cellA t p q k nilU 0 0 0 0 I5 0 0))) := KeepR.set c9'
    have H10 := H9.set (cc' := cellA t p q k nilU 0 0 0 0 I5 0 0) w
    obtain ⟨c10', z10'⟩ := ALL _ _ _ H10
    simp only [cellA, nilU] at c10' z10' K10
    simp only [q1, q2, q3, q4, q5, c9', z9', c10', z10', evf,↓evp,evq,evr,fxa0,fxa1,fxa2,fxa3,fxu,fxn,fxl,↓fxp,lgc,absL,fitL,flatL,ares,ares1,ofVal,unSc,aload,afill,splice,abound,asI,elems,IntKind.bits,sortT,eqNil,closedL,allByte,patch,pendOK,numA,Value.cells,Value.oneCell',ibin,List.replicate,Option.elim,Nat.reduceAdd,Nat.reduceSub,Nat.reduceMul,Nat.reduceLT,Nat.reduceEqDiff,Nat.reduceLeDiff,Nat.reduceBEq,Int.reduceLE,Int.reduceLT,Int.reduceToNat,Int.reduceBNe,Int.reduceBEq,Int.reduceNeg,Int.reduceEq,Int.reduceNe,Nat.reduceBNe,Int.reduceAdd,Int.reduceSub,Int.reduceMul,Int.reducePow,Nat.reducePow,Int.reduceGT,Int.reduceGE,if_true,if_false,ite_true,ite_false,beq_self_eq_true,BEq.rfl,reduceCtorEq,eq_self,ne_eq,Function.comp_def,beq_iff_eq]
    refine r_nm3 e6 w H10 (by omega) (by omega) (by omega) fun s11 H11 K11 => ?_
    obtain ⟨c11', z11'⟩ := ALL _ _ _ H11
    simp only [cellA, nilU] at c11'
    have K12 : KeepR s11 (s11.set (st.length + 1) (.cells (cellA t p q k nilU X6 0 0 0 I5 0 0))) := KeepR.set c11'
    have H12 := H11.set (cc' := cellA t p q k nilU X6 0 0 0 I5 0 0) w
    obtain ⟨c12', z12'⟩ := ALL _ _ _ H12
    simp only [cellA, nilU] at c12' z12' K12
    simp only [q1, q2, q3, q4, q5, c11', z11', c12', z12', evf,↓evp,evq,evr,fxa0,fxa1,fxa2,fxa3,fxu,fxn,fxl,↓fxp,lgc,absL,fitL,flatL,ares,ares1,ofVal,unSc,aload,afill,splice,abound,asI,elems,IntKind.bits,sortT,eqNil,closedL,allByte,patch,pendOK,numA,Value.cells,Value.oneCell',ibin,List.replicate,Option.elim,Nat.reduceAdd,Nat.reduceSub,Nat.reduceMul,Nat.reduceLT,Nat.reduceEqDiff,Nat.reduceLeDiff,Nat.reduceBEq,Int.reduceLE,Int.reduceLT,Int.reduceToNat,Int.reduceBNe,Int.reduceBEq,Int.reduceNeg,Int.reduceEq,Int.reduceNe,Nat.reduceBNe,Int.reduceAdd,Int.reduceSub,Int.reduceMul,Int.reducePow,Nat.reducePow,Int.reduceGT,Int.reduceGE,if_true,if_false,ite_true,ite_false,beq_self_eq_true,BEq.rfl,reduceCtorEq,eq_self,ne_eq,Function.comp_def,beq_iff_eq]
    refine r_nm3 e7 w H12 (by omega) (by omega) (by omega) fun s13 H13 K13 => ?_
    obtain ⟨c13', z13'⟩ := ALL _ _ _ H13
    simp only [cellA, nilU] at c13'
    have K14 : KeepR s13 (s13.set (st.length + 1) (.cells (cellA t p q k nilU X6 Y7 0 0 I5 0 0))) := KeepR.set c13'
    have H14 := H13.set (cc' := cellA t p q k nilU X6 Y7 0 0 I5 0 0) w
    obtain ⟨c14', z14'⟩ := ALL _ _ _ H14
    simp only [cellA, nilU] at c14' z14' K14
    simp only [q1, q2, q3, q4, q5, c13', z13', c14', z14', evf,↓evp,evq,evr,fxa0,fxa1,fxa2,fxa3,fxu,fxn,fxl,↓fxp,lgc,absL,fitL,flatL,ares,ares1,ofVal,unSc,aload,afill,splice,abound,asI,elems,IntKind.bits,sortT,eqNil,closedL,allByte,patch,pendOK,numA,Value.cells,Value.oneCell',ibin,List.replicate,Option.elim,Nat.reduceAdd,Nat.reduceSub,Nat.reduceMul,Nat.reduceLT,Nat.reduceEqDiff,Nat.reduceLeDiff,Nat.reduceBEq,Int.reduceLE,Int.reduceLT,Int.reduceToNat,Int.reduceBNe,Int.reduceBEq,Int.reduceNeg,Int.reduceEq,Int.reduceNe,Nat.reduceBNe,Int.reduceAdd,Int.reduceSub,Int.reduceMul,Int.reducePow,Nat.reducePow,Int.reduceGT,Int.reduceGE,if_true,if_false,ite_true,ite_false,beq_self_eq_true,BEq.rfl,reduceCtorEq,eq_self,ne_eq,Function.comp_def,beq_iff_eq]
    refine r_nm3 e8 w H14 (by omega) (by omega) (by omega) fun s15 H15 K15 => ?_
    obtain ⟨c15', z15'⟩ := ALL _ _ _ H15
    simp only [cellA, nilU] at c15'
    have K16 : KeepR s15 (s15.set (st.length + 1) (.cells (cellA t p q k nilU X6 Y7 0 0 I5 C8 0))) := KeepR.set c15'
    have H16 := H15.set (cc' := cellA t p q k nilU X6 Y7 0 0 I5 C8 0) w
    obtain ⟨c16', z16'⟩ := ALL _ _ _ H16
    simp only [cellA, nilU] at c16' z16' K16
    simp only [q1, q2, q3, q4, q5, c15', z15', c16', z16', evf,↓evp,evq,evr,fxa0,fxa1,fxa2,fxa3,fxu,fxn,fxl,↓fxp,lgc,absL,fitL,flatL,ares,ares1,ofVal,unSc,aload,afill,splice,abound,asI,elems,IntKind.bits,sortT,eqNil,closedL,allByte,patch,pendOK,numA,Value.cells,Value.oneCell',ibin,List.replicate,Option.elim,Nat.reduceAdd,Nat.reduceSub,Nat.reduceMul,Nat.reduceLT,Nat.reduceEqDiff,Nat.reduceLeDiff,Nat.reduceBEq,Int.reduceLE,Int.reduceLT,Int.reduceToNat,Int.reduceBNe,Int.reduceBEq,Int.reduceNeg,Int.reduceEq,Int.reduceNe,Nat.reduceBNe,Int.reduceAdd,Int.reduceSub,Int.reduceMul,Int.reducePow,Nat.reducePow,Int.reduceGT,Int.reduceGE,if_true,if_false,ite_true,ite_false,beq_self_eq_true,BEq.rfl,reduceCtorEq,eq_self,ne_eq,Function.comp_def,beq_iff_eq]
    refine r_nm3 e9 w H16 (by omega) (by omega) (by omega) fun s17 H17 K17 => ?_
    obtain ⟨c17', z17'⟩ := ALL _ _ _ H17
    simp only [cellA, nilU] at c17'
    have K18 : KeepR s17 (s17.set (st.length + 1) (.cells (cellA t p q k nilU X6 Y7 0 0 I5 C8 Z9))) := KeepR.set c17'
    have H18 := H17.set (cc' := cellA t p q k nilU X6 Y7 0 0 I5 C8 Z9) w
    obtain ⟨c18', z18'⟩ := ALL _ _ _ H18
    simp only [cellA, nilU] at c18' z18' K18
    obtain ⟨F1, F2, F3, F4⟩ := FIN _ _ _ (cellA t p q k nilU X6 Y7 0 0 I5 C8 Z9) H18
    simp only [cellA, nilU] at F1 F2 F3
    simp only [q1, q2, q3, q4, q5, c17', z17', c18', z18', F1, evf,↓evp,evq,evr,fxa0,fxa1,fxa2,fxa3,fxu,fxn,fxl,↓fxp,lgc,absL,fitL,flatL,ares,ares1,ofVal,unSc,aload,afill,splice,abound,asI,elems,IntKind.bits,sortT,eqNil,closedL,allByte,patch,pendOK,numA,Value.cells,Value.oneCell',ibin,List.replicate,Option.elim,Nat.reduceAdd,Nat.reduceSub,Nat.reduceMul,Nat.reduceLT,Nat.reduceEqDiff,Nat.reduceLeDiff,Nat.reduceBEq,Int.reduceLE,Int.reduceLT,Int.reduceToNat,Int.reduceBNe,Int.reduceBEq,Int.reduceNeg,Int.reduceEq,Int.reduceNe,Nat.reduceBNe,Int.reduceAdd,Int.reduceSub,Int.reduceMul,Int.reducePow,Nat.reducePow,Int.reduceGT,Int.reduceGE,if_true,if_false,ite_true,ite_false,beq_self_eq_true,BEq.rfl,reduceCtorEq,eq_self,ne_eq,Function.comp_def,beq_iff_eq]
    have R : rdCmd nilU r = (⟨t, p, q, k, nilU, [], X6, Y7, 0, 0, I5, C8, Z9⟩, r9) := by simp [rdCmd, rdIf, rdU, e1, e2, e3, e4, e5, e6, e7, e8, e9, qU, qA, qZ, qI, qS]
    have := hK nilU
    rw [R] at this
    exact this _ F2 (nil_at _ rfl rfl _) H18.ok F4
  · have qU : kU k = false := by simp [kU, hk]
    have qA : kA k = false := by simp [kA, hk]
    have qZ : kZ k = false := by simp [kZ, hk]
    have qI : kI k = false := by simp [kI, hk]
    have qS : kS k = false := by simp [kS, hk]
    have q1 : (k == 1) = false := by simp [hk]
    have q2 : (k == 2) = false := by simp [hk]
    have q3 : (k == 3) = false := by simp [hk]
    have q4 : (k == 4) = false := by simp [hk]
    have q5 : (k == 5) = false := by simp [hk]
    obtain ⟨F1, F2, F3, F4⟩ := FIN _ _ _ (cellA t p q k nilU 0 0 0 0 0 0 0) H8
    simp only [cellA, nilU] at F1 F2 F3
    simp only [q1, q2, q3, q4, q5, c7', z7', c8', z8', F1, evf,↓evp,evq,evr,fxa0,fxa1,fxa2,fxa3,fxu,fxn,fxl,↓fxp,lgc,absL,fitL,flatL,ares,ares1,ofVal,unSc,aload,afill,splice,abound,asI,elems,IntKind.bits,sortT,eqNil,closedL,allByte,patch,pendOK,numA,Value.cells,Value.oneCell',ibin,List.replicate,Option.elim,Nat.reduceAdd,Nat.reduceSub,Nat.reduceMul,Nat.reduceLT,Nat.reduceEqDiff,Nat.reduceLeDiff,Nat.reduceBEq,Int.reduceLE,Int.reduceLT,Int.reduceToNat,Int.reduceBNe,Int.reduceBEq,Int.reduceNeg,Int.reduceEq,Int.reduceNe,Nat.reduceBNe,Int.reduceAdd,Int.reduceSub,Int.reduceMul,Int.reducePow,Nat.reducePow,Int.reduceGT,Int.reduceGE,if_true,if_false,ite_true,ite_false,beq_self_eq_true,BEq.rfl,reduceCtorEq,eq_self,ne_eq,Function.comp_def,beq_iff_eq]
    have R : rdCmd nilU r = (⟨t, p, q, k, nilU, [], 0, 0, 0, 0, 0, 0, 0⟩, r4) := by simp [rdCmd, rdIf, rdU, e1, e2, e3, e4, qU, qA, qZ, qI, qS]
    have := hK nilU
    rw [R] at this
    exact this _ F2 (nil_at _ rfl rfl _) H8.ok F4
end
/-! ### Chapter 24: Decode, by the program and by the document. -/
def zCmd : Cmd := ⟨0, 0, 0, 0, nilU, [], 0, 0, 0, 0, 0, 0, 0⟩
theorem check_uv (c : Cmd) (w : V) : checkB { c with uv := w } = checkB c := rfl
theorem nums_uv (c : Cmd) (w : V) : cmdNums { c with uv := w } = cmdNums c := rfl
/-- The bytes are this command's. -/
def codes (c : Cmd) (b : List Int) : Prop := checkB c = true ∧ nb (cmdNums c) = b
theorem rd_start {b : List Int} {c : Cmd} (w : V) (h : codes c b) : (rdCmd w ⟨b, 0, 0⟩).1 = { c with uv := w } ∧ Pos (rdCmd w ⟨b, 0, 0⟩).2 [] := by
  refine rd_back (l := []) w h.1 ⟨rfl, ?_⟩
  simp [h.2]
theorem rd_units (w : V) (r : RS) : (rdCmd w r).1.units.length ≤ 64 := by
  simp only [rdCmd]
  unfold rdU
  split
  · obtain ⟨N, r', e, hN⟩ := nb64 (rdIf (kI (r.nb 2147483647).1) ((((r.nb 2147483647).2.nb 2147483647).2.nb 2147483647).2.nb 2147483647).2).2
    rw [rdL_len, e]
    simp only
    omega
  · simp
theorem done_pos {r : RS} (h : r.dn = 0) : r.e = 0 ∧ r.b.drop r.at_ = [] := by
  unfold RS.dn at h
  by_cases he : r.e = 0
  · rw [if_pos he] at h
    by_cases hl : r.at_ < r.b.length
    · rw [if_pos hl] at h; simp at h
    · exact ⟨he, List.drop_eq_nil_of_le (by omega)⟩
  · rw [if_neg he] at h; exact absurd h he
theorem pos_done {r : RS} (h : Pos r []) : r.dn = 0 := by
  unfold RS.dn
  rw [if_pos h.1]
  have := List.drop_eq_nil_iff.1 h.2
  rw [if_neg (by omega)]
theorem rd_codes {b : List Int} {w : V} (ho : RS.ok ⟨b, 0, 0⟩) (h : (rdCmd w ⟨b, 0, 0⟩).2.dn = 0) (hc : checkB (rdCmd w ⟨b, 0, 0⟩).1 = true) : codes (rdCmd w ⟨b, 0, 0⟩).1 b := by
  obtain ⟨h1, h2⟩ := done_pos h
  obtain ⟨_, h4⟩ := rd_canon ho h1
  refine ⟨hc, ?_⟩
  rw [h2, List.append_nil] at h4
  simpa using h4.symm
theorem trn_new {st s s' : List Ob} {id : Nat} {c : List V} (h : Grw st s) (hl : st.length ≤ id) (k : Trn s id c s') : Grw st s' := fun j o hj => by
  have hjl := (List.getElem?_eq_some_iff.1 hj).1
  exact k.2 j o (by omega) (h j o hj)
section
variable {n m : Nat} {st : List Ob} {K : V → List Ob → Prop} {v : V} {b : List Int}
set_option maxHeartbeats 2000000 in
theorem c_Decode (hv : Rd Try.prog st 5 v (bs b) b.length) (hn : nilV v = true → b = []) (hl : b.length < 140737488350000) (hbb : ∀ c ∈ b, 0 ≤ c ∧ c < 256) (hm : 100 < m)
    (h0 : (∀ c, ¬ codes c b) → ∀ s, Grw st s → K (.tup [.agg zCmd.v, .sc (.int .i64 5)]) s)
    (h1 : ∀ c s, codes c b → c.units.length ≤ 64 → Grw st s → c.at_ s → K (.tup [.agg c.v, .sc (.int .i64 0)]) s) : acallF Try.prog pl (n + 8) m 43 [v] st K := by
  refine acallF_inF Try.func43 rfl Try.ntmps43 (by simp) ?_
  have g0 := Grw.push st [.cells zeroC]
  have z0 : (st ++ [Ob.cells zeroC])[st.length]? = some (.cells zeroC) := get_new0 _ _
  have v0 := hv.grw g0
  simp only [zeroC, cellU] at g0 z0 v0
  simp only [evf,↓evp,evq,evr,fxa0,fxa1,fxa2,fxa3,fxu,fxn,fxl,↓fxp,lgc,absL,fitL,flatL,ares,ares1,ofVal,unSc,aload,afill,splice,abound,asI,elems,IntKind.bits,sortT,eqNil,closedL,allByte,patch,pendOK,numA,Value.cells,Value.oneCell',ibin,List.replicate,Option.elim,Nat.reduceAdd,Nat.reduceSub,Nat.reduceMul,Nat.reduceLT,Nat.reduceEqDiff,Nat.reduceLeDiff,Nat.reduceBEq,Int.reduceLE,Int.reduceLT,Int.reduceToNat,Int.reduceBNe,Int.reduceBEq,Int.reduceNeg,Int.reduceEq,Int.reduceNe,Nat.reduceBNe,Int.reduceAdd,Int.reduceSub,Int.reduceMul,Int.reducePow,Nat.reducePow,Int.reduceGT,Int.reduceGE,if_true,if_false,ite_true,ite_false,beq_self_eq_true,BEq.rfl,reduceCtorEq,eq_self,ne_eq,Function.comp_def,beq_iff_eq]
  have ho : (⟨b, 0, 0⟩ : RS).ok := ⟨by simp, by simp only; omega, hbb⟩
  refine p_Read (n := n + 5) v0 hn hl fun bv id s1 j1 i1 r1 cut1 => ?_
  simp only [evf,↓evp,evq,evr,fxa0,fxa1,fxa2,fxa3,fxu,fxn,fxl,↓fxp,lgc,absL,fitL,flatL,ares,ares1,ofVal,unSc,aload,afill,splice,abound,asI,elems,IntKind.bits,sortT,eqNil,closedL,allByte,patch,pendOK,numA,Value.cells,Value.oneCell',ibin,List.replicate,Option.elim,Nat.reduceAdd,Nat.reduceSub,Nat.reduceMul,Nat.reduceLT,Nat.reduceEqDiff,Nat.reduceLeDiff,Nat.reduceBEq,Int.reduceLE,Int.reduceLT,Int.reduceToNat,Int.reduceBNe,Int.reduceBEq,Int.reduceNeg,Int.reduceEq,Int.reduceNe,Nat.reduceBNe,Int.reduceAdd,Int.reduceSub,Int.reduceMul,Int.reducePow,Nat.reducePow,Int.reduceGT,Int.reduceGE,if_true,if_false,ite_true,ite_false,beq_self_eq_true,BEq.rfl,reduceCtorEq,eq_self,ne_eq,Function.comp_def,beq_iff_eq]
  refine c_read (n := n + 2) ho r1 cut1 hm fun w s2 j2 c2 o2 cut2 => ?_
  have ru := rd_units w ⟨b, 0, 0⟩
  have rb : ∀ c', codes c' b → (rdCmd w ⟨b, 0, 0⟩).1 = { c' with uv := w } ∧ Pos (rdCmd w ⟨b, 0, 0⟩).2 [] := fun c' h => rd_start w h
  have rc : (rdCmd w ⟨b, 0, 0⟩).2.dn = 0 → checkB (rdCmd w ⟨b, 0, 0⟩).1 = true → codes (rdCmd w ⟨b, 0, 0⟩).1 b := rd_codes ho
  generalize hc : (rdCmd w ⟨b, 0, 0⟩).1 = c at *
  generalize hr : (rdCmd w ⟨b, 0, 0⟩).2 = r at *
  have il : st.length + 1 ≤ id := by have := i1; simp only [List.length_append, List.length_cons, List.length_nil] at this; omega
  have g02 := trn_new (g0.trans j1) (by omega) j2
  have z2 := trn_new j1 i1 j2 _ _ z0
  obtain ⟨S, hS⟩ : ∃ S, S = s2 ++ [Ob.cells c.v] := ⟨_, rfl⟩
  have g2S : Grw s2 S := by rw [hS]; exact .push _ _
  have cS : S[s2.length]? = some (.cells c.v) := by rw [hS]; exact get_new0 _ _
  have atS := c2.grw g2S
  have zS := g2S _ _ z2
  have setg : ∀ (s : List Ob) (X : List V), Grw S s → s[st.length]? = some (.cells [.sc (.int .i64 0), .sc (.int .i64 0), .sc (.int .i64 0), .sc (.int .i64 0), .tsl [] 0 true true, .sc (.int .i64 0), .sc (.int .i64 0), .sc (.int .i64 0), .sc (.int .i64 0), .sc (.int .i64 0), .sc (.int .i64 0), .sc (.int .i64 0)]) ∧ (∀ Y, (s.set st.length (.cells Y))[st.length]? = some (.cells Y)) ∧ Grw st (s.set st.length (.cells X)) := fun s X g => by
    have z := g _ _ zS
    refine ⟨z, fun Y => get_set z _, fun j o hj => ?_⟩
    have hjl := (List.getElem?_eq_some_iff.1 hj).1
    rw [List.getElem?_set_ne (by omega)]
    exact g _ _ (g2S _ _ (g02 _ _ hj))
  have o1 := c2.one
  have cv1 := c2.cv
  simp only [Cmd.v] at cS hS
  simp only [Cmd.v, o1, cv1, evf,↓evp,evq,evr,fxa0,fxa1,fxa2,fxa3,fxu,fxn,fxl,↓fxp,lgc,absL,fitL,flatL,ares,ares1,ofVal,unSc,aload,afill,splice,abound,asI,elems,IntKind.bits,sortT,eqNil,closedL,allByte,patch,pendOK,numA,Value.cells,Value.oneCell',ibin,List.replicate,Option.elim,Nat.reduceAdd,Nat.reduceSub,Nat.reduceMul,Nat.reduceLT,Nat.reduceEqDiff,Nat.reduceLeDiff,Nat.reduceBEq,Int.reduceLE,Int.reduceLT,Int.reduceToNat,Int.reduceBNe,Int.reduceBEq,Int.reduceNeg,Int.reduceEq,Int.reduceNe,Nat.reduceBNe,Int.reduceAdd,Int.reduceSub,Int.reduceMul,Int.reducePow,Nat.reducePow,Int.reduceGT,Int.reduceGE,if_true,if_false,ite_true,ite_false,beq_self_eq_true,BEq.rfl,reduceCtorEq,eq_self,ne_eq,Function.comp_def,beq_iff_eq]
  rw [← hS]
  refine p_Done (n := n + 5) o2 (g2S _ _ j2.1) (cut2.grw g2S) ?_
  by_cases hd : r.dn = 0
  · have d : (r.dn != 0) = false := by simp [hd]
    simp only [d, cS, o1, cv1, evf,↓evp,evq,evr,fxa0,fxa1,fxa2,fxa3,fxu,fxn,fxl,↓fxp,lgc,absL,fitL,flatL,ares,ares1,ofVal,unSc,aload,afill,splice,abound,asI,elems,IntKind.bits,sortT,eqNil,closedL,allByte,patch,pendOK,numA,Value.cells,Value.oneCell',ibin,List.replicate,Option.elim,Nat.reduceAdd,Nat.reduceSub,Nat.reduceMul,Nat.reduceLT,Nat.reduceEqDiff,Nat.reduceLeDiff,Nat.reduceBEq,Int.reduceLE,Int.reduceLT,Int.reduceToNat,Int.reduceBNe,Int.reduceBEq,Int.reduceNeg,Int.reduceEq,Int.reduceNe,Nat.reduceBNe,Int.reduceAdd,Int.reduceSub,Int.reduceMul,Int.reducePow,Nat.reducePow,Int.reduceGT,Int.reduceGE,if_true,if_false,ite_true,ite_false,beq_self_eq_true,BEq.rfl,reduceCtorEq,eq_self,ne_eq,Function.comp_def,beq_iff_eq]
    refine c_Check (n := n) (c := c) atS (by omega) (by omega) fun s3 j3 => ?_
    obtain ⟨z3, y3, k3⟩ := setg s3 zCmd.v j3
    obtain ⟨_, _, k3'⟩ := setg s3 c.v j3
    have c3 := j3 _ _ cS
    cases e : checkB c
    · simp only [zCmd, nilU, Cmd.v] at k3
      simp only [eno, e, Bool.false_eq_true, if_false, d, cS, c3, z3, y3, o1, cv1, evf,↓evp,evq,evr,fxa0,fxa1,fxa2,fxa3,fxu,fxn,fxl,↓fxp,lgc,absL,fitL,flatL,ares,ares1,ofVal,unSc,aload,afill,splice,abound,asI,elems,IntKind.bits,sortT,eqNil,closedL,allByte,patch,pendOK,numA,Value.cells,Value.oneCell',ibin,List.replicate,Option.elim,Nat.reduceAdd,Nat.reduceSub,Nat.reduceMul,Nat.reduceLT,Nat.reduceEqDiff,Nat.reduceLeDiff,Nat.reduceBEq,Int.reduceLE,Int.reduceLT,Int.reduceToNat,Int.reduceBNe,Int.reduceBEq,Int.reduceNeg,Int.reduceEq,Int.reduceNe,Nat.reduceBNe,Int.reduceAdd,Int.reduceSub,Int.reduceMul,Int.reducePow,Nat.reducePow,Int.reduceGT,Int.reduceGE,if_true,if_false,ite_true,ite_false,beq_self_eq_true,BEq.rfl,reduceCtorEq,eq_self,ne_eq,Function.comp_def,beq_iff_eq]
      refine h0 (fun c' hc' => ?_) _ k3
      have := (rb c' hc').1
      rw [this, check_uv, hc'.1] at e
      cases e
    · simp only [Cmd.v] at k3'
      simp only [eno, e, if_true, d, cS, c3, z3, y3, o1, cv1, evf,↓evp,evq,evr,fxa0,fxa1,fxa2,fxa3,fxu,fxn,fxl,↓fxp,lgc,absL,fitL,flatL,ares,ares1,ofVal,unSc,aload,afill,splice,abound,asI,elems,IntKind.bits,sortT,eqNil,closedL,allByte,patch,pendOK,numA,Value.cells,Value.oneCell',ibin,List.replicate,Option.elim,Nat.reduceAdd,Nat.reduceSub,Nat.reduceMul,Nat.reduceLT,Nat.reduceEqDiff,Nat.reduceLeDiff,Nat.reduceBEq,Int.reduceLE,Int.reduceLT,Int.reduceToNat,Int.reduceBNe,Int.reduceBEq,Int.reduceNeg,Int.reduceEq,Int.reduceNe,Nat.reduceBNe,Int.reduceAdd,Int.reduceSub,Int.reduceMul,Int.reducePow,Nat.reducePow,Int.reduceGT,Int.reduceGE,if_true,if_false,ite_true,ite_false,beq_self_eq_true,BEq.rfl,reduceCtorEq,eq_self,ne_eq,Function.comp_def,beq_iff_eq]
      exact h1 c _ (rc hd e) ru k3' ⟨Rd.keepR (c2.grw (g2S.trans j3)).rd (KeepR.set z3), o1, cv1, c2.len⟩
  · have d : (r.dn != 0) = true := by simp [hd]
    obtain ⟨z3, y3, k3⟩ := setg S zCmd.v (.refl _)
    simp only [zCmd, nilU, Cmd.v] at k3
    simp only [d, z3, y3, evf,↓evp,evq,evr,fxa0,fxa1,fxa2,fxa3,fxu,fxn,fxl,↓fxp,lgc,absL,fitL,flatL,ares,ares1,ofVal,unSc,aload,afill,splice,abound,asI,elems,IntKind.bits,sortT,eqNil,closedL,allByte,patch,pendOK,numA,Value.cells,Value.oneCell',ibin,List.replicate,Option.elim,Nat.reduceAdd,Nat.reduceSub,Nat.reduceMul,Nat.reduceLT,Nat.reduceEqDiff,Nat.reduceLeDiff,Nat.reduceBEq,Int.reduceLE,Int.reduceLT,Int.reduceToNat,Int.reduceBNe,Int.reduceBEq,Int.reduceNeg,Int.reduceEq,Int.reduceNe,Nat.reduceBNe,Int.reduceAdd,Int.reduceSub,Int.reduceMul,Int.reducePow,Nat.reducePow,Int.reduceGT,Int.reduceGE,if_true,if_false,ite_true,ite_false,beq_self_eq_true,BEq.rfl,reduceCtorEq,eq_self,ne_eq,Function.comp_def,beq_iff_eq]
    refine h0 (fun c' hc' => ?_) _ k3
    exact hd (pos_done (rb c' hc').2)
theorem q_same {x y : V} {xs ys : List Int} (hx : Rd Try.prog st 5 x (bs xs) xs.length) (hy : Rd Try.prog st 5 y (bs ys) ys.length) (hbx : ∀ c ∈ xs, 0 ≤ c ∧ c < 256) (hby : ∀ c ∈ ys, 0 ≤ c ∧ c < 256)
    (hK : K (.sc (.bool (xs == ys))) st) : acallF Try.prog pl (n + 1) m 83 [x, y] st K := by
  refine acallF_inF Try.func83 rfl Try.ntmps83 (by simp) ?_
  have cx := aconv_b (d := 9) (e' := 0) hx Try.underlying22 Try.underlying5 Try.underlying9 sz5
  have cy := aconv_b (d := 9) (e' := 0) hy Try.underlying22 Try.underlying5 Try.underlying9 sz5
  simp only [cx, cy, evf,↓evp,evq,evr,fxa0,fxa1,fxa2,fxa3,fxu,fxn,fxl,↓fxp,lgc,absL,fitL,flatL,ares,ares1,ofVal,unSc,aload,afill,splice,abound,asI,elems,IntKind.bits,sortT,eqNil,closedL,allByte,patch,pendOK,numA,Value.cells,Value.oneCell',ibin,List.replicate,Option.elim,Nat.reduceAdd,Nat.reduceSub,Nat.reduceMul,Nat.reduceLT,Nat.reduceEqDiff,Nat.reduceLeDiff,Nat.reduceBEq,Int.reduceLE,Int.reduceLT,Int.reduceToNat,Int.reduceBNe,Int.reduceBEq,Int.reduceNeg,Int.reduceEq,Int.reduceNe,Nat.reduceBNe,Int.reduceAdd,Int.reduceSub,Int.reduceMul,Int.reducePow,Nat.reducePow,Int.reduceGT,Int.reduceGE,if_true,if_false,ite_true,ite_false,beq_self_eq_true,BEq.rfl,reduceCtorEq,eq_self,ne_eq,Function.comp_def,beq_iff_eq]
  have e : ((⟨(xs.map fun n => UInt8.ofNat n.toNat).toArray⟩ : ByteArray).toList == (⟨(ys.map fun n => UInt8.ofNat n.toNat).toArray⟩ : ByteArray).toList) = (xs == ys) := by
    rw [ByteArray.toList_eq, ByteArray.toList_eq]
    rw [Bool.eq_iff_iff]
    simp only [beq_iff_eq]
    constructor
    · intro h; exact u8_inj xs ys hbx hby (by simpa using h)
    · rintro rfl; rfl
  rw [e]
  exact hK
set_option maxHeartbeats 2000000 in
theorem q_Decode (hv : Cut Try.prog st 5 v (bs b) b.length) (hl : b.length < 140737488350000) (hbb : ∀ c ∈ b, 0 ≤ c ∧ c < 256) (hm : 1000 < m) (ov : one v = true) (cvv : cellsV v = [v])
    (h0 : (∀ c, ¬ codes c b) → ∀ s, Grw st s → K (.tup [.agg zCmd.v, .sc (.int .i64 5)]) s)
    (h1 : ∀ c s, codes c b → c.units.length ≤ 64 → Grw st s → c.at_ s → K (.tup [.agg c.v, .sc (.int .i64 0)]) s) : acallF Try.prog pl (n + 5) m 44 [v] st K := by
  refine acallF_inF Try.func44 rfl Try.ntmps44 (by simp) ?_
  have ho : (⟨b, 0, 0⟩ : RS).ok := ⟨by simp, by simp only; omega, hbb⟩
  obtain ⟨S0, hS0⟩ : ∃ S, S = st ++ [Ob.cells zeroC, .cells (RS.c v ⟨b, 0, 0⟩)] := ⟨_, rfl⟩
  have g0 : Grw st S0 := by rw [hS0]; exact .push _ _
  have z0 : S0[st.length]? = some (.cells zeroC) := by rw [hS0]; exact get_new0 _ _
  have r0 : S0[st.length + 1]? = some (.cells (RS.c v ⟨b, 0, 0⟩)) := by rw [hS0]; simp
  simp only [zeroC, cellU] at z0
  simp only [zeroC, cellU, RS.c, Int.natCast_zero] at hS0
  simp only [ov, cvv, evf,↓evp,evq,evr,fxa0,fxa1,fxa2,fxa3,fxu,fxn,fxl,↓fxp,lgc,absL,fitL,flatL,ares,ares1,ofVal,unSc,aload,afill,splice,abound,asI,elems,IntKind.bits,sortT,eqNil,closedL,allByte,patch,pendOK,numA,Value.cells,Value.oneCell',ibin,List.replicate,Option.elim,Nat.reduceAdd,Nat.reduceSub,Nat.reduceMul,Nat.reduceLT,Nat.reduceEqDiff,Nat.reduceLeDiff,Nat.reduceBEq,Int.reduceLE,Int.reduceLT,Int.reduceToNat,Int.reduceBNe,Int.reduceBEq,Int.reduceNeg,Int.reduceEq,Int.reduceNe,Nat.reduceBNe,Int.reduceAdd,Int.reduceSub,Int.reduceMul,Int.reducePow,Nat.reducePow,Int.reduceGT,Int.reduceGE,if_true,if_false,ite_true,ite_false,beq_self_eq_true,BEq.rfl,reduceCtorEq,eq_self,ne_eq,Function.comp_def,beq_iff_eq]
  rw [← hS0]
  refine q_Read (n := n) ho r0 (hv.grw g0) (by omega) fun w s2 j2 c2 o2 cut2 => ?_
  have ru := rd_units w ⟨b, 0, 0⟩
  have rb : ∀ c', codes c' b → (rdCmd w ⟨b, 0, 0⟩).1 = { c' with uv := w } ∧ Pos (rdCmd w ⟨b, 0, 0⟩).2 [] := fun c' h => rd_start w h
  generalize hc : (rdCmd w ⟨b, 0, 0⟩).1 = c at *
  generalize hr : (rdCmd w ⟨b, 0, 0⟩).2 = r at *
  have g02 := trn_new g0 (by omega) j2
  have z2 := j2.other z0 (by omega)
  obtain ⟨S, hS⟩ : ∃ S, S = s2 ++ [Ob.cells c.v] := ⟨_, rfl⟩
  have g2S : Grw s2 S := by rw [hS]; exact .push _ _
  have cS : S[s2.length]? = some (.cells c.v) := by rw [hS]; exact get_new0 _ _
  have atS := c2.grw g2S
  have zS := g2S _ _ z2
  have setg : ∀ (s : List Ob) (X : List V), Grw S s → s[st.length]? = some (.cells [.sc (.int .i64 0), .sc (.int .i64 0), .sc (.int .i64 0), .sc (.int .i64 0), .tsl [] 0 true true, .sc (.int .i64 0), .sc (.int .i64 0), .sc (.int .i64 0), .sc (.int .i64 0), .sc (.int .i64 0), .sc (.int .i64 0), .sc (.int .i64 0)]) ∧ (∀ Y, (s.set st.length (.cells Y))[st.length]? = some (.cells Y)) ∧ Grw st (s.set st.length (.cells X)) := fun s X g => by
    have z := g _ _ zS
    refine ⟨z, fun Y => get_set z _, fun j o hj => ?_⟩
    have hjl := (List.getElem?_eq_some_iff.1 hj).1
    rw [List.getElem?_set_ne (by omega)]
    exact g _ _ (g2S _ _ (g02 _ _ hj))
  have o1 := c2.one
  have cv1 := c2.cv
  simp only [Cmd.v] at cS hS
  simp only [Cmd.v, o1, cv1, evf,↓evp,evq,evr,fxa0,fxa1,fxa2,fxa3,fxu,fxn,fxl,↓fxp,lgc,absL,fitL,flatL,ares,ares1,ofVal,unSc,aload,afill,splice,abound,asI,elems,IntKind.bits,sortT,eqNil,closedL,allByte,patch,pendOK,numA,Value.cells,Value.oneCell',ibin,List.replicate,Option.elim,Nat.reduceAdd,Nat.reduceSub,Nat.reduceMul,Nat.reduceLT,Nat.reduceEqDiff,Nat.reduceLeDiff,Nat.reduceBEq,Int.reduceLE,Int.reduceLT,Int.reduceToNat,Int.reduceBNe,Int.reduceBEq,Int.reduceNeg,Int.reduceEq,Int.reduceNe,Nat.reduceBNe,Int.reduceAdd,Int.reduceSub,Int.reduceMul,Int.reducePow,Nat.reducePow,Int.reduceGT,Int.reduceGE,if_true,if_false,ite_true,ite_false,beq_self_eq_true,BEq.rfl,reduceCtorEq,eq_self,ne_eq,Function.comp_def,beq_iff_eq]
  rw [← hS]
  refine q_Encode (n := n) (c := c) atS hm (by omega) (fun e s3 j3 => ?_) fun e w3 s3 j3 hw3 => ?_
  · obtain ⟨z3, y3, k3⟩ := setg s3 zCmd.v j3
    simp only [zCmd, nilU, Cmd.v] at k3
    simp only [z3, y3, evf,↓evp,evq,evr,fxa0,fxa1,fxa2,fxa3,fxu,fxn,fxl,↓fxp,lgc,absL,fitL,flatL,ares,ares1,ofVal,unSc,aload,afill,splice,abound,asI,elems,IntKind.bits,sortT,eqNil,closedL,allByte,patch,pendOK,numA,Value.cells,Value.oneCell',ibin,List.replicate,Option.elim,Nat.reduceAdd,Nat.reduceSub,Nat.reduceMul,Nat.reduceLT,Nat.reduceEqDiff,Nat.reduceLeDiff,Nat.reduceBEq,Int.reduceLE,Int.reduceLT,Int.reduceToNat,Int.reduceBNe,Int.reduceBEq,Int.reduceNeg,Int.reduceEq,Int.reduceNe,Nat.reduceBNe,Int.reduceAdd,Int.reduceSub,Int.reduceMul,Int.reducePow,Nat.reducePow,Int.reduceGT,Int.reduceGE,if_true,if_false,ite_true,ite_false,beq_self_eq_true,BEq.rfl,reduceCtorEq,eq_self,ne_eq,Function.comp_def,beq_iff_eq]
    refine h0 (fun c' hc' => ?_) _ k3
    have := (rb c' hc').1
    rw [this, check_uv, hc'.1] at e
    cases e
  · simp only [evf,↓evp,evq,evr,fxa0,fxa1,fxa2,fxa3,fxu,fxn,fxl,↓fxp,lgc,absL,fitL,flatL,ares,ares1,ofVal,unSc,aload,afill,splice,abound,asI,elems,IntKind.bits,sortT,eqNil,closedL,allByte,patch,pendOK,numA,Value.cells,Value.oneCell',ibin,List.replicate,Option.elim,Nat.reduceAdd,Nat.reduceSub,Nat.reduceMul,Nat.reduceLT,Nat.reduceEqDiff,Nat.reduceLeDiff,Nat.reduceBEq,Int.reduceLE,Int.reduceLT,Int.reduceToNat,Int.reduceBNe,Int.reduceBEq,Int.reduceNeg,Int.reduceEq,Int.reduceNe,Nat.reduceBNe,Int.reduceAdd,Int.reduceSub,Int.reduceMul,Int.reducePow,Nat.reducePow,Int.reduceGT,Int.reduceGE,if_true,if_false,ite_true,ite_false,beq_self_eq_true,BEq.rfl,reduceCtorEq,eq_self,ne_eq,Function.comp_def,beq_iff_eq]
    have hv3 := (hv.1.grw (g02.trans (g2S.trans j3)))
    refine q_same hw3 hv3 (nb_bytes _) hbb ?_
    obtain ⟨z3, y3, k3⟩ := setg s3 zCmd.v j3
    obtain ⟨_, _, k3'⟩ := setg s3 c.v j3
    have c3 := j3 _ _ cS
    cases e' : (nb (cmdNums c) == b)
    · simp only [zCmd, nilU, Cmd.v] at k3
      simp only [c3, z3, y3, o1, cv1, evf,↓evp,evq,evr,fxa0,fxa1,fxa2,fxa3,fxu,fxn,fxl,↓fxp,lgc,absL,fitL,flatL,ares,ares1,ofVal,unSc,aload,afill,splice,abound,asI,elems,IntKind.bits,sortT,eqNil,closedL,allByte,patch,pendOK,numA,Value.cells,Value.oneCell',ibin,List.replicate,Option.elim,Nat.reduceAdd,Nat.reduceSub,Nat.reduceMul,Nat.reduceLT,Nat.reduceEqDiff,Nat.reduceLeDiff,Nat.reduceBEq,Int.reduceLE,Int.reduceLT,Int.reduceToNat,Int.reduceBNe,Int.reduceBEq,Int.reduceNeg,Int.reduceEq,Int.reduceNe,Nat.reduceBNe,Int.reduceAdd,Int.reduceSub,Int.reduceMul,Int.reducePow,Nat.reducePow,Int.reduceGT,Int.reduceGE,if_true,if_false,ite_true,ite_false,beq_self_eq_true,BEq.rfl,reduceCtorEq,eq_self,ne_eq,Function.comp_def,beq_iff_eq]
      refine h0 (fun c' hc' => ?_) _ k3
      have := (rb c' hc').1
      rw [this, nums_uv, hc'.2] at e'
      simp at e'
    · simp only [Cmd.v] at k3'
      simp only [c3, z3, y3, o1, cv1, evf,↓evp,evq,evr,fxa0,fxa1,fxa2,fxa3,fxu,fxn,fxl,↓fxp,lgc,absL,fitL,flatL,ares,ares1,ofVal,unSc,aload,afill,splice,abound,asI,elems,IntKind.bits,sortT,eqNil,closedL,allByte,patch,pendOK,numA,Value.cells,Value.oneCell',ibin,List.replicate,Option.elim,Nat.reduceAdd,Nat.reduceSub,Nat.reduceMul,Nat.reduceLT,Nat.reduceEqDiff,Nat.reduceLeDiff,Nat.reduceBEq,Int.reduceLE,Int.reduceLT,Int.reduceToNat,Int.reduceBNe,Int.reduceBEq,Int.reduceNeg,Int.reduceEq,Int.reduceNe,Nat.reduceBNe,Int.reduceAdd,Int.reduceSub,Int.reduceMul,Int.reducePow,Nat.reducePow,Int.reduceGT,Int.reduceGE,if_true,if_false,ite_true,ite_false,beq_self_eq_true,BEq.rfl,reduceCtorEq,eq_self,ne_eq,Function.comp_def,beq_iff_eq]
      exact h1 c _ ⟨e, by simpa using e'⟩ ru k3' ⟨Rd.keepR (c2.grw (g2S.trans j3)).rd (KeepR.set z3), o1, cv1, c2.len⟩
end
end Go.Proofs.Ytfndpnmdjblokaa
