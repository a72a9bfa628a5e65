/- Chapter 24's fixed question: one command's bytes. -/
import Derived.Test.YtfndpnmdjblokaaC3
set_option linter.unusedVariables false
set_option linter.unusedSimpArgs false
set_option maxRecDepth 10000
namespace Go.Proofs.Ytfndpnmdjblokaa
open Go Go.M Go.RowKit
attribute [local congr] acallF_cong aloop_cong bcase_cong resK_cong valK_cong wantK_cong callK_cong xputK_cong qputK_cong
attribute [local irreducible] seqK blockK loopK nextK bcase resK valK wantK funK putK dputK xputK qputK callK aops aop acode adraw aloop acallF acall invK
section
variable {n m : Nat} {st : List Ob} {K : V → List Ob → Prop}
/-- Numbers' bytes, one behind the other. -/
def nb (l : List Nat) : List Int := l.flatMap uvb
def ns (l : List Nat) : List Int := l.map fun n : Nat => (n : Int)
theorem ns_length (l : List Nat) : (ns l).length = l.length := by simp [ns]
theorem nb_len (l : List Nat) (h : ∀ x ∈ l, x < 18446744073709551616) : (nb l).length ≤ 10 * l.length := by
  induction l with
  | nil => simp [nb]
  | cons a l ih =>
    have := uvb_len a (h a (by simp))
    have := ih (fun x hx => h x (by simp [hx]))
    simp only [nb, List.flatMap_cons, List.length_append, List.length_cons] at *
    omega
theorem c_put {v x : V} {xs : List Int} {l : List Nat} (hv : Rd Try.prog st 5 v (bs xs) xs.length) (hx : Rd Try.prog st 3 x (is (ns l)) l.length) (hl : ∀ a ∈ l, a < 9223372036854775808) (hb : xs.length + 10 * l.length < 140737488340000) (hm : 12 < m) (hm2 : l.length < m)
    (h : ∀ w s, Grw st s → Rd Try.prog s 5 w (bs (xs ++ nb l)) (xs ++ nb l).length → K w s) : acallF Try.prog pl (n + 3) m 78 [v, x] st K := by
  rw [acallF_eq Try.func78 rfl]
  have hal := alen_rd hx Try.underlying53
  simp only [hal, ↓evp,evq,evr,fxa0,fxa1,fxa2,fxa3,fxu,fxn,fxl,↓fxp,lgc,absL,fitL,flatL,aput,ares,ares1,ofVal,unSc,aload,afill,splice,abound,asI,elems,IntKind.bits,sortT,eqNil,closedL,allByte,patch,pendOK,numA,Value.cells,Value.oneCell',ibin,List.replicate,Option.elim,Nat.reduceAdd,Nat.reduceSub,Nat.reduceMul,Nat.reduceLT,Nat.reduceEqDiff,Nat.reduceLeDiff,Nat.reduceBEq,Int.reduceLE,Int.reduceLT,Int.reduceToNat,Int.reduceBNe,Int.reduceBEq,Int.reduceNeg,Int.reduceEq,Int.reduceNe,Nat.reduceBNe,Int.reduceAdd,Int.reduceSub,Int.reduceMul,Int.reducePow,Nat.reducePow,Int.reduceGT,Int.reduceGE,if_true,if_false,ite_true,ite_false,beq_self_eq_true,BEq.rfl,reduceCtorEq,eq_self,ne_eq,Function.comp_def,beq_iff_eq]
  refine aloop_for (fun k t s => ∃ (i : Nat) (w : V), k + i = m ∧ i ≤ l.length ∧ Grw st s ∧ Rd Try.prog s 5 w (bs (xs ++ nb (l.take i))) (xs ++ nb (l.take i)).length ∧
    ∃ hf : Nat → V, t = [w, hf 1, hf 2, hf 3, hf 4, hf 5, hf 6, x, .sc (.int .i64 l.length), .sc (.int .i64 i), hf 10, hf 11, hf 12, hf 13, hf 14, hf 15, hf 16, hf 17, hf 18]) ⟨0, v, by omega, by omega, .refl _, by simpa [nb] using hv, (hol [V.dead, _, _, _, _, _, _, V.dead, V.dead, V.dead, _, _, _, _, _, _, _, _, _]), rfl⟩ ?_
  rintro I' hI' k t s ⟨i, w, hk, hi, hg, hw, hf, rfl⟩
  refine ⟨k - 1, by omega, ?_⟩
  by_cases hil : i < l.length
  · have d : decide ((i : Int) < l.length) = true := decide_eq_true (by omega)
    have hxs : Rd Try.prog s 3 x (is (ns l)) (ns l).length := by rw [ns_length]; exact hx.grw hg
    obtain ⟨p1, p2⟩ := ix_is hxs (i := i) (by rw [ns_length]; exact hil)
    have ha := hl l[i] (List.getElem_mem hil)
    have e : (ns l)[i]'(by rw [ns_length]; exact hil) = (l[i] : Int) := by simp [ns]
    rw [e] at p2
    have a1 : IntKind.i64.wrap ((i : Int) + 1) = ((i + 1 : Nat) : Int) := by rw [IntWalk.i64_in _ (by omega)]; rfl
    have a2 : IntKind.u64.wrap (l[i] : Int) = (l[i] : Int) := IntWalk.u64_in _ (by omega)
    have hlen : (nb (l.take i)).length ≤ 10 * l.length := by
      have := nb_len (l.take i) (fun x hx => by have := hl x (List.take_subset _ _ hx); omega)
      rw [List.length_take] at this; omega
    simp only [d, p1, p2, a2, ↓evp,evq,evr,fxa0,fxa1,fxa2,fxa3,fxu,fxn,fxl,↓fxp,lgc,absL,fitL,flatL,aput,ares,ares1,ofVal,unSc,aload,afill,splice,abound,asI,elems,IntKind.bits,sortT,eqNil,closedL,allByte,patch,pendOK,numA,Value.cells,Value.oneCell',ibin,List.replicate,Option.elim,Nat.reduceAdd,Nat.reduceSub,Nat.reduceMul,Nat.reduceLT,Nat.reduceEqDiff,Nat.reduceLeDiff,Nat.reduceBEq,Int.reduceLE,Int.reduceLT,Int.reduceToNat,Int.reduceBNe,Int.reduceBEq,Int.reduceNeg,Int.reduceEq,Int.reduceNe,Nat.reduceBNe,Int.reduceAdd,Int.reduceSub,Int.reduceMul,Int.reducePow,Nat.reducePow,Int.reduceGT,Int.reduceGE,if_true,if_false,ite_true,ite_false,beq_self_eq_true,BEq.rfl,reduceCtorEq,eq_self,ne_eq,Function.comp_def,beq_iff_eq]
    refine f21 hw (by omega) (by rw [List.length_append]; omega) hm fun w' s' hb' => ?_
    simp only [a1, ↓evp,evq,evr,fxa0,fxa1,fxa2,fxa3,fxu,fxn,fxl,↓fxp,lgc,absL,fitL,flatL,aput,ares,ares1,ofVal,unSc,aload,afill,splice,abound,asI,elems,IntKind.bits,sortT,eqNil,closedL,allByte,patch,pendOK,numA,Value.cells,Value.oneCell',ibin,List.replicate,Option.elim,Nat.reduceAdd,Nat.reduceSub,Nat.reduceMul,Nat.reduceLT,Nat.reduceEqDiff,Nat.reduceLeDiff,Nat.reduceBEq,Int.reduceLE,Int.reduceLT,Int.reduceToNat,Int.reduceBNe,Int.reduceBEq,Int.reduceNeg,Int.reduceEq,Int.reduceNe,Nat.reduceBNe,Int.reduceAdd,Int.reduceSub,Int.reduceMul,Int.reducePow,Nat.reducePow,Int.reduceGT,Int.reduceGE,if_true,if_false,ite_true,ite_false,beq_self_eq_true,BEq.rfl,reduceCtorEq,eq_self,ne_eq,Function.comp_def,beq_iff_eq]
    have e2 : xs ++ nb (l.take (i + 1)) = xs ++ nb (l.take i) ++ uvb l[i] := by rw [nb, flatMap_take_succ _ _ hil, List.append_assoc]; rfl
    refine hI' _ _ _ ⟨i + 1, w', by omega, hil, hg.trans hb'.1, ?_, (hol [V.dead, _, _, _, _, _, _, V.dead, V.dead, V.dead, _, _, _, _, _, _, _, _, _]), rfl⟩
    rw [e2]; exact hb'.rd
  · have d : decide ((i : Int) < l.length) = false := decide_eq_false (by omega)
    obtain rfl : i = l.length := by omega
    rw [List.take_length] at hw
    simp only [d, ↓evp,evq,evr,fxa0,fxa1,fxa2,fxa3,fxu,fxn,fxl,↓fxp,lgc,absL,fitL,flatL,aput,ares,ares1,ofVal,unSc,aload,afill,splice,abound,asI,elems,IntKind.bits,sortT,eqNil,closedL,allByte,patch,pendOK,numA,Value.cells,Value.oneCell',ibin,List.replicate,Option.elim,Nat.reduceAdd,Nat.reduceSub,Nat.reduceMul,Nat.reduceLT,Nat.reduceEqDiff,Nat.reduceLeDiff,Nat.reduceBEq,Int.reduceLE,Int.reduceLT,Int.reduceToNat,Int.reduceBNe,Int.reduceBEq,Int.reduceNeg,Int.reduceEq,Int.reduceNe,Nat.reduceBNe,Int.reduceAdd,Int.reduceSub,Int.reduceMul,Int.reducePow,Nat.reducePow,Int.reduceGT,Int.reduceGE,if_true,if_false,ite_true,ite_false,beq_self_eq_true,BEq.rfl,reduceCtorEq,eq_self,ne_eq,Function.comp_def,beq_iff_eq]
    exact h w s hg hw
/-- A row of numbers that was just laid. -/
theorem row_rd (l : List Nat) : Rd Try.prog (st ++ [.row 3 (is (ns l)) l.length 0 false]) 3 (.sl st.length 0 l.length false) (is (ns l)) l.length := by
  refine ⟨?_, ⟨fun b hb => (by cases hb), fun hh => by cases hh⟩, fun s hs => by rw [sz3] at hs; cases hs; simp [is, ns]⟩
  simp only [elems, get_new0, List.getElem?_cons_zero, sz3]
  rw [if_pos ⟨trivial, Nat.zero_le _⟩]
  simp only [Nat.zero_mul, List.drop_zero, Nat.mul_one]
  rw [List.take_of_length_le (by simp [is, ns])]
end
end Go.Proofs.Ytfndpnmdjblokaa
