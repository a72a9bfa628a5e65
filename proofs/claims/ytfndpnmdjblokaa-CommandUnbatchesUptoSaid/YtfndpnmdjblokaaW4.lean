/- What is written, and its bytes by the document. -/
import Derived.Test.YtfndpnmdjblokaaW2
import Derived.Laws.BitsAllLaws
set_option linter.unusedVariables false
set_option linter.unusedSimpArgs false
set_option maxRecDepth 10000
namespace Go.Proofs.Ytfndpnmdjblokaa
open Go Go.M Go.RowKit
attribute [local congr] acallF_cong aloop_cong bcase_cong resK_cong valK_cong wantK_cong callK_cong xputK_cong qputK_cong
attribute [local irreducible] seqK blockK loopK nextK bcase resK valK wantK funK putK dputK xputK qputK callK aops aop acode adraw aloop acallF acall invK

/-- Bytes of their own, written from nothing. -/
theorem nil_rd {st : List Ob} : Rd Try.prog st 5 (.tsl [] 0 true true) (bs []) 0 := ⟨rfl, ⟨fun b hb => (by cases hb), fun _ => rfl⟩, fun s hs => (by simp [bs])⟩

theorem r_Uvarint {n m : Nat} {x : Nat} {st : List Ob} {K : V → List Ob → Prop} (hx : x < 18446744073709551616) (hm : 12 < m)
    (h : ∀ w s, Buf Try.prog 5 st s w (bs (uvb x)) (uvb x).length → K w s) : acallF Try.prog pl (n + 1) m 49 [.sc (.int .u64 x)] st K := by
  rw [acallF_eq Try.func49 rfl]
  simp only [↓evp,evq,evr,fxa0,fxa1,fxa2,fxa3,fxu,fxn,fxl,↓fxp,lgc,absL,fitL,flatL,aput,ares,ares1,ofVal,unSc,aload,afill,splice,abound,asI,elems,IntKind.bits,sortT,eqNil,closedL,allByte,patch,pendOK,numA,Value.cells,Value.oneCell',ibin,List.replicate,Option.elim,Nat.reduceAdd,Nat.reduceSub,Nat.reduceMul,Nat.reduceLT,Nat.reduceEqDiff,Nat.reduceLeDiff,Nat.reduceBEq,Int.reduceLE,Int.reduceLT,Int.reduceToNat,Int.reduceBNe,Int.reduceBEq,Int.reduceNeg,Int.reduceEq,Int.reduceNe,Nat.reduceBNe,Int.reduceAdd,Int.reduceSub,Int.reduceMul,Int.reducePow,Nat.reducePow,Int.reduceGT,Int.reduceGE,if_true,if_false,ite_true,ite_false,beq_self_eq_true,BEq.rfl,reduceCtorEq,eq_self,ne_eq,Function.comp_def,beq_iff_eq]
  refine aloop_inv (fun k t s => ∃ (pre : List Int) (y : Nat) (w : V), k + pre.length = m ∧ (pre = [] ∨ 0 < y) ∧ uvb x = pre ++ uvb y ∧ y * 128 ^ pre.length ≤ x ∧ Buf Try.prog 5 st s w (bs pre) pre.length ∧
    ∃ hh1 hh2 hh4 hh5 hh6 hh7 hh8 hh9 hh10 hh11 hh12 hh13 hh14 hh15 hh16 hh17 hh18 hh19, t = [.sc (.int .u64 y), hh1, hh2, w, hh4, hh5, hh6, hh7, hh8, hh9, hh10, hh11, hh12, hh13, hh14, hh15, hh16, hh17, hh18, hh19]) ?_ m _ _ ⟨[], x, .tsl [] 0 true true, by simp, .inl rfl, rfl, by simp, Buf.start nil_rd rfl, _, _, _, _, _, _, _, _, _, _, _, _, _, _, _, _, _, _, rfl⟩
  rintro k t s ⟨pre, y, w, hk, h0, hp, hle, hb, hh1, hh2, hh4, hh5, hh6, hh7, hh8, hh9, hh10, hh11, hh12, hh13, hh14, hh15, hh16, hh17, hh18, hh19, rfl⟩
  have hpl : ∀ q, 0 < q → q * 128 ^ pre.length ≤ x → pre.length ≤ 9 := fun q hq h => by
    rcases Nat.lt_or_ge 9 pre.length with h9 | h9
    · have h10 : 128 ^ 10 ≤ 128 ^ pre.length := Nat.pow_le_pow_right (by omega) h9
      have h11 : 1 * 128 ^ pre.length ≤ q * 128 ^ pre.length := Nat.mul_le_mul_right _ hq
      omega
    · exact h9
  have hpre : pre.length ≤ 9 := by
    rcases h0 with rfl | h0
    · simp
    · exact hpl y h0 hle
  have hyx : y ≤ x := Nat.le_trans (Nat.le_mul_of_pos_right _ (Nat.pow_pos (by omega))) hle
  refine ⟨k - 1, by omega, ?_⟩
  by_cases hy : y < 128
  · have d1 : decide ((y : Int) ≥ 128) = false := decide_eq_false (by omega)
    have hwr : IntKind.u8.wrap (y : Int) = (y : Int) := IntWalk.u8_in _ (by omega)
    obtain ⟨w', s', ha, hb'⟩ := app_byte hb (y : Int) (by omega)
    simp only [d1, hwr, ha, ↓evp,evq,evr,fxa0,fxa1,fxa2,fxa3,fxu,fxn,fxl,↓fxp,lgc,absL,fitL,flatL,aput,ares,ares1,ofVal,unSc,aload,afill,splice,abound,asI,elems,IntKind.bits,sortT,eqNil,closedL,allByte,patch,pendOK,numA,Value.cells,Value.oneCell',ibin,List.replicate,Option.elim,Nat.reduceAdd,Nat.reduceSub,Nat.reduceMul,Nat.reduceLT,Nat.reduceEqDiff,Nat.reduceLeDiff,Nat.reduceBEq,Int.reduceLE,Int.reduceLT,Int.reduceToNat,Int.reduceBNe,Int.reduceBEq,Int.reduceNeg,Int.reduceEq,Int.reduceNe,Nat.reduceBNe,Int.reduceAdd,Int.reduceSub,Int.reduceMul,Int.reducePow,Nat.reducePow,Int.reduceGT,Int.reduceGE,if_true,if_false,ite_true,ite_false,beq_self_eq_true,BEq.rfl,reduceCtorEq,eq_self,ne_eq,Function.comp_def,beq_iff_eq]
    refine h w' s' ?_
    rw [hp, uvb_lt hy]
    simpa using hb'
  · have d1 : decide ((y : Int) ≥ 128) = true := decide_eq_true (by omega)
    obtain ⟨w', s', ha, hb'⟩ := app_byte hb ((y % 128 + 128 : Nat) : Int) (by omega)
    have e1 : (y : Int).tmod 128 = ((y % 128 : Nat) : Int) := by rw [Int.tmod_eq_emod_of_nonneg (by omega)]; omega
    have e2 : IntKind.u8.wrap ((y % 128 : Nat) : Int) = ((y % 128 : Nat) : Int) := IntWalk.u8_in _ (by omega)
    have e3 : IntKind.u8.wrap (((y % 128 : Nat) : Int) + 128) = ((y % 128 + 128 : Nat) : Int) := by rw [IntWalk.u8_in _ (by omega)]; omega
    have e4 : IntKind.u64.wrap ((y : Int).tdiv 128) = ((y / 128 : Nat) : Int) := by
      rw [Int.tdiv_eq_ediv_of_nonneg (by omega), IntWalk.u64_in _ (by omega)]; omega
    simp only [d1, e1, e2, e3, e4, ha, ↓evp,evq,evr,fxa0,fxa1,fxa2,fxa3,fxu,fxn,fxl,↓fxp,lgc,absL,fitL,flatL,aput,ares,ares1,ofVal,unSc,aload,afill,splice,abound,asI,elems,IntKind.bits,sortT,eqNil,closedL,allByte,patch,pendOK,numA,Value.cells,Value.oneCell',ibin,List.replicate,Option.elim,Nat.reduceAdd,Nat.reduceSub,Nat.reduceMul,Nat.reduceLT,Nat.reduceEqDiff,Nat.reduceLeDiff,Nat.reduceBEq,Int.reduceLE,Int.reduceLT,Int.reduceToNat,Int.reduceBNe,Int.reduceBEq,Int.reduceNeg,Int.reduceEq,Int.reduceNe,Nat.reduceBNe,Int.reduceAdd,Int.reduceSub,Int.reduceMul,Int.reducePow,Nat.reducePow,Int.reduceGT,Int.reduceGE,if_true,if_false,ite_true,ite_false,beq_self_eq_true,BEq.rfl,reduceCtorEq,eq_self,ne_eq,Function.comp_def,beq_iff_eq]
    have hy2 : y / 128 * 128 ^ (pre.length + 1) ≤ x := by
      have : y / 128 * 128 ≤ y := Nat.div_mul_le_self _ _
      have := Nat.mul_le_mul_right (128 ^ pre.length) this
      rw [Nat.pow_succ, Nat.mul_comm (128 ^ pre.length) 128, ← Nat.mul_assoc]
      omega
    refine ⟨pre ++ [((y % 128 + 128 : Nat) : Int)], y / 128, w', by simp; omega, .inr (by omega), ?_, by simpa using hy2, ?_, _, _, _, _, _, _, _, _, _, _, _, _, _, _, _, _, _, _, rfl⟩
    · rw [hp, uvb_ge hy]; simp
    · have e : (pre ++ [((y % 128 + 128 : Nat) : Int)]).length = pre.length + 1 := by simp
      rw [e]
      exact hb'

/-- A number with sign, as one without. -/
def zz (n : Int) : Nat := if n < 0 then (-(n + 1)).toNat * 2 + 1 else n.toNat * 2
theorem zz_xor {n : Int} (h1 : -9223372036854775808 ≤ n) (h2 : n < 9223372036854775808) :
    bits .xor .u64 (IntKind.u64.wrap (IntKind.i64.wrap (n * 2 ^ min 1 64))) (IntKind.u64.wrap (n.fdiv (2 ^ min 63 64))) = ((zz n : Nat) : Int) := by
  have e1 : IntKind.u64.wrap (IntKind.i64.wrap (n * 2 ^ min 1 64)) = ((if n < 0 then (2 * n + 18446744073709551616).toNat else (2 * n).toNat : Nat) : Int) := by
    show IntKind.u64.wrap (IntKind.i64.wrap (n * 2)) = _
    rw [IntKind.wrap_u64, IntKind.wrap_i64]
    split <;> omega
  have e2 : IntKind.u64.wrap (n.fdiv (2 ^ min 63 64)) = ((if n < 0 then 18446744073709551615 else 0 : Nat) : Int) := by
    show IntKind.u64.wrap (n.fdiv 9223372036854775808) = _
    rw [Int.fdiv_eq_ediv_of_nonneg _ (by omega), IntKind.wrap_u64]
    split <;> omega
  rw [e1, e2, u64_xor_nat _ _ (by split <;> omega) (by split <;> omega)]
  unfold zz
  split
  · have key : ∀ a : Nat, a < 18446744073709551616 → a ^^^ 18446744073709551615 = 18446744073709551615 - a := fun a ha => by
      apply Nat.eq_of_testBit_eq
      intro i
      rw [Nat.testBit_xor, show (18446744073709551615 : Nat) = 2 ^ 64 - 1 from rfl, Nat.testBit_two_pow_sub_one, Nat.sub_right_comm, Nat.sub_sub, Nat.testBit_two_pow_sub_succ (by simpa using ha)]
      by_cases hi : i < 64
      · simp [hi]
      · simp [hi]
        exact Nat.testBit_lt_two_pow (Nat.lt_of_lt_of_le ha (by rw [show (18446744073709551616 : Nat) = 2 ^ 64 from rfl]; exact Nat.pow_le_pow_right (by omega) (by omega)))
    rw [key _ (by omega)]
    omega
  · rw [Nat.xor_zero]; omega
theorem zz_lt {n : Int} (h1 : -9223372036854775808 ≤ n) (h2 : n < 9223372036854775808) : zz n < 18446744073709551616 := by
  unfold zz; split <;> omega

theorem w_Varint {n m : Nat} {v : V} {xs : List Int} {x : Int} {st : List Ob} {K : V → List Ob → Prop} (hv : Rd Try.prog st 5 v (bs xs) xs.length) (h1 : -9223372036854775808 ≤ x) (h2 : x < 9223372036854775808) (hl : xs.length < 140737488350000) (hm : 12 < m)
    (h : ∀ w s, Buf Try.prog 5 st s w (bs (xs ++ uvb (zz x))) (xs ++ uvb (zz x)).length → K w s) : acallF Try.prog pl (n + 3) m 23 [v, .sc (.int .i64 x)] st K := by
  rw [acallF_eq Try.func23 rfl]
  have e := zz_xor h1 h2
  simp only [e, ↓evp,evq,evr,fxa0,fxa1,fxa2,fxa3,fxu,fxn,fxl,↓fxp,lgc,absL,fitL,flatL,aput,ares,ares1,ofVal,unSc,aload,afill,splice,abound,asI,elems,IntKind.bits,sortT,eqNil,closedL,allByte,patch,pendOK,numA,Value.cells,Value.oneCell',ibin,List.replicate,Option.elim,Nat.reduceAdd,Nat.reduceSub,Nat.reduceMul,Nat.reduceLT,Nat.reduceEqDiff,Nat.reduceLeDiff,Nat.reduceBEq,Int.reduceLE,Int.reduceLT,Int.reduceToNat,Int.reduceBNe,Int.reduceBEq,Int.reduceNeg,Int.reduceEq,Int.reduceNe,Nat.reduceBNe,Int.reduceAdd,Int.reduceSub,Int.reduceMul,Int.reducePow,Nat.reducePow,Int.reduceGT,Int.reduceGE,if_true,if_false,ite_true,ite_false,beq_self_eq_true,BEq.rfl,reduceCtorEq,eq_self,ne_eq,Function.comp_def,beq_iff_eq]
  refine f21 hv (zz_lt h1 h2) hl hm fun w s hb => ?_
  simp only [↓evp,evq,evr,fxa0,fxa1,fxa2,fxa3,fxu,fxn,fxl,↓fxp,lgc,absL,fitL,flatL,aput,ares,ares1,ofVal,unSc,aload,afill,splice,abound,asI,elems,IntKind.bits,sortT,eqNil,closedL,allByte,patch,pendOK,numA,Value.cells,Value.oneCell',ibin,List.replicate,Option.elim,Nat.reduceAdd,Nat.reduceSub,Nat.reduceMul,Nat.reduceLT,Nat.reduceEqDiff,Nat.reduceLeDiff,Nat.reduceBEq,Int.reduceLE,Int.reduceLT,Int.reduceToNat,Int.reduceBNe,Int.reduceBEq,Int.reduceNeg,Int.reduceEq,Int.reduceNe,Nat.reduceBNe,Int.reduceAdd,Int.reduceSub,Int.reduceMul,Int.reducePow,Nat.reducePow,Int.reduceGT,Int.reduceGE,if_true,if_false,ite_true,ite_false,beq_self_eq_true,BEq.rfl,reduceCtorEq,eq_self,ne_eq,Function.comp_def,beq_iff_eq]
  exact h w s hb
theorem r_Varint {n m : Nat} {x : Int} {st : List Ob} {K : V → List Ob → Prop} (h1 : -9223372036854775808 ≤ x) (h2 : x < 9223372036854775808) (hm : 12 < m)
    (h : ∀ w s, Buf Try.prog 5 st s w (bs (uvb (zz x))) (uvb (zz x)).length → K w s) : acallF Try.prog pl (n + 2) m 50 [.sc (.int .i64 x)] st K := by
  rw [acallF_eq Try.func50 rfl]
  by_cases hx : x < 0
  · have d : decide (x < 0) = true := decide_eq_true hx
    have e : IntKind.u64.wrap (IntKind.u64.wrap (IntKind.u64.wrap (IntKind.i64.wrap (0 - IntKind.i64.wrap (x + 1))) * 2) + 1) = ((zz x : Nat) : Int) := by
      unfold zz
      rw [if_pos hx]
      simp only [IntKind.wrap_u64, IntKind.wrap_i64]
      omega
    simp only [d, e, ↓evp,evq,evr,fxa0,fxa1,fxa2,fxa3,fxu,fxn,fxl,↓fxp,lgc,absL,fitL,flatL,aput,ares,ares1,ofVal,unSc,aload,afill,splice,abound,asI,elems,IntKind.bits,sortT,eqNil,closedL,allByte,patch,pendOK,numA,Value.cells,Value.oneCell',ibin,List.replicate,Option.elim,Nat.reduceAdd,Nat.reduceSub,Nat.reduceMul,Nat.reduceLT,Nat.reduceEqDiff,Nat.reduceLeDiff,Nat.reduceBEq,Int.reduceLE,Int.reduceLT,Int.reduceToNat,Int.reduceBNe,Int.reduceBEq,Int.reduceNeg,Int.reduceEq,Int.reduceNe,Nat.reduceBNe,Int.reduceAdd,Int.reduceSub,Int.reduceMul,Int.reducePow,Nat.reducePow,Int.reduceGT,Int.reduceGE,if_true,if_false,ite_true,ite_false,beq_self_eq_true,BEq.rfl,reduceCtorEq,eq_self,ne_eq,Function.comp_def,beq_iff_eq]
    refine r_Uvarint (zz_lt h1 h2) hm fun w s hb => ?_
    simp only [↓evp,evq,evr,fxa0,fxa1,fxa2,fxa3,fxu,fxn,fxl,↓fxp,lgc,absL,fitL,flatL,aput,ares,ares1,ofVal,unSc,aload,afill,splice,abound,asI,elems,IntKind.bits,sortT,eqNil,closedL,allByte,patch,pendOK,numA,Value.cells,Value.oneCell',ibin,List.replicate,Option.elim,Nat.reduceAdd,Nat.reduceSub,Nat.reduceMul,Nat.reduceLT,Nat.reduceEqDiff,Nat.reduceLeDiff,Nat.reduceBEq,Int.reduceLE,Int.reduceLT,Int.reduceToNat,Int.reduceBNe,Int.reduceBEq,Int.reduceNeg,Int.reduceEq,Int.reduceNe,Nat.reduceBNe,Int.reduceAdd,Int.reduceSub,Int.reduceMul,Int.reducePow,Nat.reducePow,Int.reduceGT,Int.reduceGE,if_true,if_false,ite_true,ite_false,beq_self_eq_true,BEq.rfl,reduceCtorEq,eq_self,ne_eq,Function.comp_def,beq_iff_eq]
    exact h w s hb
  · have d : decide (x < 0) = false := decide_eq_false hx
    have e : IntKind.u64.wrap (IntKind.u64.wrap x * 2) = ((zz x : Nat) : Int) := by
      unfold zz
      rw [if_neg hx]
      simp only [IntKind.wrap_u64]
      omega
    simp only [d, e, ↓evp,evq,evr,fxa0,fxa1,fxa2,fxa3,fxu,fxn,fxl,↓fxp,lgc,absL,fitL,flatL,aput,ares,ares1,ofVal,unSc,aload,afill,splice,abound,asI,elems,IntKind.bits,sortT,eqNil,closedL,allByte,patch,pendOK,numA,Value.cells,Value.oneCell',ibin,List.replicate,Option.elim,Nat.reduceAdd,Nat.reduceSub,Nat.reduceMul,Nat.reduceLT,Nat.reduceEqDiff,Nat.reduceLeDiff,Nat.reduceBEq,Int.reduceLE,Int.reduceLT,Int.reduceToNat,Int.reduceBNe,Int.reduceBEq,Int.reduceNeg,Int.reduceEq,Int.reduceNe,Nat.reduceBNe,Int.reduceAdd,Int.reduceSub,Int.reduceMul,Int.reducePow,Nat.reducePow,Int.reduceGT,Int.reduceGE,if_true,if_false,ite_true,ite_false,beq_self_eq_true,BEq.rfl,reduceCtorEq,eq_self,ne_eq,Function.comp_def,beq_iff_eq]
    refine r_Uvarint (zz_lt h1 h2) hm fun w s hb => ?_
    simp only [↓evp,evq,evr,fxa0,fxa1,fxa2,fxa3,fxu,fxn,fxl,↓fxp,lgc,absL,fitL,flatL,aput,ares,ares1,ofVal,unSc,aload,afill,splice,abound,asI,elems,IntKind.bits,sortT,eqNil,closedL,allByte,patch,pendOK,numA,Value.cells,Value.oneCell',ibin,List.replicate,Option.elim,Nat.reduceAdd,Nat.reduceSub,Nat.reduceMul,Nat.reduceLT,Nat.reduceEqDiff,Nat.reduceLeDiff,Nat.reduceBEq,Int.reduceLE,Int.reduceLT,Int.reduceToNat,Int.reduceBNe,Int.reduceBEq,Int.reduceNeg,Int.reduceEq,Int.reduceNe,Nat.reduceBNe,Int.reduceAdd,Int.reduceSub,Int.reduceMul,Int.reducePow,Nat.reducePow,Int.reduceGT,Int.reduceGE,if_true,if_false,ite_true,ite_false,beq_self_eq_true,BEq.rfl,reduceCtorEq,eq_self,ne_eq,Function.comp_def,beq_iff_eq]
    exact h w s hb

theorem uvb_len : ∀ x : Nat, x < 18446744073709551616 → (uvb x).length ≤ 10 := fun x hx => by
  have key : ∀ k x : Nat, x < 128 ^ (k + 1) → (uvb x).length ≤ k + 1 := fun k => by
    induction k with
    | zero => intro x hx; rw [uvb_lt (by omega)]; simp
    | succ k ih =>
      intro x hx
      by_cases h : x < 128
      · rw [uvb_lt h]; simp
      · rw [uvb_ge h, List.length_cons]
        have := ih (x / 128) (by rw [Nat.pow_succ] at hx; exact Nat.div_lt_of_lt_mul (by rw [Nat.mul_comm]; exact hx))
        omega
  exact key 9 x (by omega)
/-- So many bytes of a number. -/
def fxb (x : Nat) : Nat → List Int
  | 0 => []
  | k + 1 => ((x % 256 : Nat) : Int) :: fxb (x / 256) k
theorem fxb_length (x k : Nat) : (fxb x k).length = k := by
  induction k generalizing x with
  | zero => rfl
  | succ k ih => simp [fxb, ih]
theorem fxb_snoc (x k : Nat) : fxb x (k + 1) = fxb x k ++ [((x / 256 ^ k % 256 : Nat) : Int)] := by
  induction k generalizing x with
  | zero => simp [fxb]
  | succ k ih =>
    rw [fxb, ih, fxb, Nat.div_div_eq_div_mul, Nat.pow_succ, Nat.mul_comm (256 ^ k)]
    rfl
theorem fxb_add (x j k : Nat) : fxb x (j + k) = fxb x j ++ fxb (x / 256 ^ j) k := by
  induction j generalizing x with
  | zero => simp [fxb]
  | succ j ih => rw [Nat.add_right_comm, fxb, ih, fxb, Nat.div_div_eq_div_mul, Nat.pow_succ, Nat.mul_comm (256 ^ j)]; rfl
theorem fxb_mod (x k : Nat) : fxb (x % 256 ^ k) k = fxb x k := by
  induction k generalizing x with
  | zero => rfl
  | succ k ih =>
    rw [fxb, fxb, ← ih (x / 256), ← ih (x % 256 ^ (k + 1) / 256)]
    congr 2
    · rw [Nat.pow_succ, Nat.mul_comm, Nat.mod_mul_right_mod]
    · rw [Nat.pow_succ, Nat.mul_comm, Nat.mod_mul_right_div_self, Nat.mod_mod]
theorem r_Fixed {n m : Nat} {x many : Nat} {st : List Ob} {K : V → List Ob → Prop} (hx : x < 18446744073709551616) (hk : many ≤ 8) (hm : 12 < m)
    (h : ∀ w s, Buf Try.prog 5 st s w (bs (fxb x many)) many → K w s) : acallF Try.prog pl (n + 1) m 52 [.sc (.int .u64 x), .sc (.int .i64 many)] st K := by
  rw [acallF_eq Try.func52 rfl]
  simp only [↓evp,evq,evr,fxa0,fxa1,fxa2,fxa3,fxu,fxn,fxl,↓fxp,lgc,absL,fitL,flatL,aput,ares,ares1,ofVal,unSc,aload,afill,splice,abound,asI,elems,IntKind.bits,sortT,eqNil,closedL,allByte,patch,pendOK,numA,Value.cells,Value.oneCell',ibin,List.replicate,Option.elim,Nat.reduceAdd,Nat.reduceSub,Nat.reduceMul,Nat.reduceLT,Nat.reduceEqDiff,Nat.reduceLeDiff,Nat.reduceBEq,Int.reduceLE,Int.reduceLT,Int.reduceToNat,Int.reduceBNe,Int.reduceBEq,Int.reduceNeg,Int.reduceEq,Int.reduceNe,Nat.reduceBNe,Int.reduceAdd,Int.reduceSub,Int.reduceMul,Int.reducePow,Nat.reducePow,Int.reduceGT,Int.reduceGE,if_true,if_false,ite_true,ite_false,beq_self_eq_true,BEq.rfl,reduceCtorEq,eq_self,ne_eq,Function.comp_def,beq_iff_eq]
  refine aloop_inv (fun k t s => ∃ (i : Nat) (w : V), k + i = m ∧ i ≤ many ∧ Buf Try.prog 5 st s w (bs (fxb x i)) i ∧
    ∃ hh2 hh3 hh7 hh8 hh9 hh10 hh11 hh12 hh13 hh14 hh15 hh16 hh17 hh18 hh19 hh20 hh21, t = [.sc (.int .u64 x), .sc (.int .i64 many), hh2, hh3, .tsl [] 0 true true, w, .sc (.int .i64 i), hh7, hh8, hh9, hh10, hh11, hh12, hh13, hh14, hh15, hh16, hh17, hh18, hh19, hh20, hh21]) ?_ m _ _ ⟨0, .tsl [] 0 true true, by simp, by omega, Buf.start nil_rd rfl, _, _, _, _, _, _, _, _, _, _, _, _, _, _, _, _, _, rfl⟩
  rintro k t s ⟨i, w, hki, him, hb, hh2, hh3, hh7, hh8, hh9, hh10, hh11, hh12, hh13, hh14, hh15, hh16, hh17, hh18, hh19, hh20, hh21, rfl⟩
  refine ⟨k - 1, by omega, ?_⟩
  by_cases hi : i < many
  · have d : decide ((i : Int) < many) = true := decide_eq_true (by omega)
    have e1 : IntKind.u64.wrap (IntKind.i64.wrap (8 * (i : Int))) = ((8 * i : Nat) : Int) := by
      rw [IntWalk.i64_in _ (by omega), IntWalk.u64_in _ (by omega)]; omega
    have e2 : IntKind.u8.wrap ((x : Int).fdiv (2 ^ min (8 * i) 64)) = ((x / 256 ^ i % 256 : Nat) : Int) := by
      rw [Nat.min_eq_left (by omega), show (2 : Int) ^ (8 * i) = ((256 ^ i : Nat) : Int) by rw [Int.pow_mul, Int.natCast_pow]; rfl]
      generalize 256 ^ i = q
      rw [Int.fdiv_eq_ediv_of_nonneg _ (by omega), ← Int.natCast_ediv, IntKind.wrap_u8]
      omega
    have e3 : IntKind.i64.wrap ((i : Int) + 1) = ((i + 1 : Nat) : Int) := by rw [IntWalk.i64_in _ (by omega)]; rfl
    obtain ⟨w', s', ha, hb'⟩ := app_byte hb ((x / 256 ^ i % 256 : Nat) : Int) (by omega)
    rw [← fxb_snoc] at hb'
    simp only [d, e1, e2, e3, ha, ↓evp,evq,evr,fxa0,fxa1,fxa2,fxa3,fxu,fxn,fxl,↓fxp,lgc,absL,fitL,flatL,aput,ares,ares1,ofVal,unSc,aload,afill,splice,abound,asI,elems,IntKind.bits,sortT,eqNil,closedL,allByte,patch,pendOK,numA,Value.cells,Value.oneCell',ibin,List.replicate,Option.elim,Nat.reduceAdd,Nat.reduceSub,Nat.reduceMul,Nat.reduceLT,Nat.reduceEqDiff,Nat.reduceLeDiff,Nat.reduceBEq,Int.reduceLE,Int.reduceLT,Int.reduceToNat,Int.reduceBNe,Int.reduceBEq,Int.reduceNeg,Int.reduceEq,Int.reduceNe,Nat.reduceBNe,Int.reduceAdd,Int.reduceSub,Int.reduceMul,Int.reducePow,Nat.reducePow,Int.reduceGT,Int.reduceGE,if_true,if_false,ite_true,ite_false,beq_self_eq_true,BEq.rfl,reduceCtorEq,eq_self,ne_eq,Function.comp_def,beq_iff_eq]
    exact ⟨i + 1, w', by omega, hi, hb', _, _, _, _, _, _, _, _, _, _, _, _, _, _, _, _, _, rfl⟩
  · have d : decide ((i : Int) < many) = false := decide_eq_false (by omega)
    obtain rfl : i = many := by omega
    simp only [d, ↓evp,evq,evr,fxa0,fxa1,fxa2,fxa3,fxu,fxn,fxl,↓fxp,lgc,absL,fitL,flatL,aput,ares,ares1,ofVal,unSc,aload,afill,splice,abound,asI,elems,IntKind.bits,sortT,eqNil,closedL,allByte,patch,pendOK,numA,Value.cells,Value.oneCell',ibin,List.replicate,Option.elim,Nat.reduceAdd,Nat.reduceSub,Nat.reduceMul,Nat.reduceLT,Nat.reduceEqDiff,Nat.reduceLeDiff,Nat.reduceBEq,Int.reduceLE,Int.reduceLT,Int.reduceToNat,Int.reduceBNe,Int.reduceBEq,Int.reduceNeg,Int.reduceEq,Int.reduceNe,Nat.reduceBNe,Int.reduceAdd,Int.reduceSub,Int.reduceMul,Int.reducePow,Nat.reducePow,Int.reduceGT,Int.reduceGE,if_true,if_false,ite_true,ite_false,beq_self_eq_true,BEq.rfl,reduceCtorEq,eq_self,ne_eq,Function.comp_def,beq_iff_eq]
    exact h w s hb

theorem app_rd {s0 s : List Ob} {w : V} {l : List Int} (h : Buf Try.prog 5 s0 s w (bs l) l.length) {x : V} {zs : List Int} (hx : Rd Try.prog s 5 x (bs zs) zs.length) (hb : l.length + zs.length ≤ 140737488355328) :
    ∃ w' s', aappend Try.prog s 22 w x = some (w', s') ∧ Buf Try.prog 5 s0 s' w' (bs (l ++ zs)) (l ++ zs).length ∧ Gro s s' := by
  obtain ⟨w', s', h1, h2, h3⟩ := h.append' Try.underlying22 sz5 by5 ze5 (by omega) rfl hx.1 (closed_bs zs) (by rw [bs_length]; omega) (by omega) (by omega)
  exact ⟨w', s', h1, by rw [bs_append, List.length_append]; exact h2, h3⟩
theorem app_lit {s0 s : List Ob} {w : V} {l : List Int} (h : Buf Try.prog 5 s0 s w (bs l) l.length) (zs : List Int) (hb : l.length + zs.length ≤ 140737488355328) :
    ∃ w' s', aappend Try.prog (s ++ [.row 5 (bs zs) zs.length 0 false]) 22 w (.sl s.length 0 zs.length false) = some (w', s') ∧ Buf Try.prog 5 s0 s' w' (bs (l ++ zs)) (l ++ zs).length := by
  obtain ⟨w', s', h1, h2⟩ := h.applit Try.underlying22 sz5 by5 ze5 (by omega) rfl (cs := bs zs) (k := zs.length) (closed_bs zs) (by rw [bs_length]; omega) (by omega) (by omega)
  exact ⟨w', s', h1, by rw [bs_append, List.length_append]; exact h2⟩

theorem shr_nat (x j b : Nat) : (x : Int).fdiv (2 ^ min j b) = ((x / 2 ^ min j b : Nat) : Int) := by
  rw [Int.fdiv_eq_ediv_of_nonneg _ (Int.pow_nonneg (by omega)), Int.natCast_ediv, Int.natCast_pow]
  rfl
theorem w_Fixed4 {n m : Nat} {v : V} {xs : List Int} {x : Nat} {st : List Ob} {K : V → List Ob → Prop} (hv : Rd Try.prog st 5 v (bs xs) xs.length) (hx : x < 4294967296) (hl : xs.length < 140737488350000)
    (h : ∀ w s, Buf Try.prog 5 st s w (bs (xs ++ fxb x 4)) (xs ++ fxb x 4).length → K w s) : acallF Try.prog pl (n + 2) m 51 [v, .sc (.int .u32 x)] st K := by
  rw [acallF_eq Try.func51 rfl]
  simp only [↓evp,evq,evr,fxa0,fxa1,fxa2,fxa3,fxu,fxn,fxl,↓fxp,lgc,absL,fitL,flatL,aput,ares,ares1,ofVal,unSc,aload,afill,splice,abound,asI,elems,IntKind.bits,sortT,eqNil,closedL,allByte,patch,pendOK,numA,Value.cells,Value.oneCell',ibin,List.replicate,Option.elim,Nat.reduceAdd,Nat.reduceSub,Nat.reduceMul,Nat.reduceLT,Nat.reduceEqDiff,Nat.reduceLeDiff,Nat.reduceBEq,Int.reduceLE,Int.reduceLT,Int.reduceToNat,Int.reduceBNe,Int.reduceBEq,Int.reduceNeg,Int.reduceEq,Int.reduceNe,Nat.reduceBNe,Int.reduceAdd,Int.reduceSub,Int.reduceMul,Int.reducePow,Nat.reducePow,Int.reduceGT,Int.reduceGE,if_true,if_false,ite_true,ite_false,beq_self_eq_true,BEq.rfl,reduceCtorEq,eq_self,ne_eq,Function.comp_def,beq_iff_eq]
  refine f60 hv fun v' h1 h2 => ?_
  obtain ⟨w', s', ha, hb⟩ := app_lit (Buf.start h1 h2) (fxb x 4) (by rw [fxb_length]; omega)
  have e0 : IntKind.u8.wrap (x : Int) = ((x % 256 : Nat) : Int) := by rw [IntKind.wrap_u8]; omega
  have e1 : IntKind.u8.wrap ((x : Int).fdiv (2 ^ min 8 32)) = ((x / 256 % 256 : Nat) : Int) := by
    rw [shr_nat, show 2 ^ min 8 32 = 256 from rfl, IntKind.wrap_u8]; omega
  have e2 : IntKind.u8.wrap ((x : Int).fdiv (2 ^ min 16 32)) = ((x / 256 / 256 % 256 : Nat) : Int) := by
    rw [shr_nat, show 2 ^ min 16 32 = 65536 from rfl, IntKind.wrap_u8]; omega
  have e3 : IntKind.u8.wrap ((x : Int).fdiv (2 ^ min 24 32)) = ((x / 256 / 256 / 256 % 256 : Nat) : Int) := by
    rw [shr_nat, show 2 ^ min 24 32 = 16777216 from rfl, IntKind.wrap_u8]; omega
  simp only [fxb, bs, List.map_cons, List.map_nil, List.length_cons, List.length_nil, Nat.zero_add, Nat.reduceAdd] at ha
  simp only [e0, e1, e2, e3, ha, ↓evp,evq,evr,fxa0,fxa1,fxa2,fxa3,fxu,fxn,fxl,↓fxp,lgc,absL,fitL,flatL,aput,ares,ares1,ofVal,unSc,aload,afill,splice,abound,asI,elems,IntKind.bits,sortT,eqNil,closedL,allByte,patch,pendOK,numA,Value.cells,Value.oneCell',ibin,List.replicate,Option.elim,Nat.reduceAdd,Nat.reduceSub,Nat.reduceMul,Nat.reduceLT,Nat.reduceEqDiff,Nat.reduceLeDiff,Nat.reduceBEq,Int.reduceLE,Int.reduceLT,Int.reduceToNat,Int.reduceBNe,Int.reduceBEq,Int.reduceNeg,Int.reduceEq,Int.reduceNe,Nat.reduceBNe,Int.reduceAdd,Int.reduceSub,Int.reduceMul,Int.reducePow,Nat.reducePow,Int.reduceGT,Int.reduceGE,if_true,if_false,ite_true,ite_false,beq_self_eq_true,BEq.rfl,reduceCtorEq,eq_self,ne_eq,Function.comp_def,beq_iff_eq]
  exact h _ _ hb
theorem w_Fixed8 {n m : Nat} {v : V} {xs : List Int} {x : Nat} {st : List Ob} {K : V → List Ob → Prop} (hv : Rd Try.prog st 5 v (bs xs) xs.length) (hx : x < 18446744073709551616) (hl : xs.length < 140737488340000)
    (h : ∀ w s, Buf Try.prog 5 st s w (bs (xs ++ fxb x 8)) (xs ++ fxb x 8).length → K w s) : acallF Try.prog pl (n + 3) m 53 [v, .sc (.int .u64 x)] st K := by
  rw [acallF_eq Try.func53 rfl]
  have e0 : IntKind.u32.wrap (x : Int) = ((x % 256 ^ 4 : Nat) : Int) := by rw [IntKind.wrap_u32]; omega
  have e1 : IntKind.u32.wrap ((x : Int).fdiv (2 ^ min 32 64)) = ((x / 256 ^ 4 : Nat) : Int) := by
    rw [shr_nat, show 2 ^ min 32 64 = 4294967296 from rfl, IntKind.wrap_u32]; omega
  simp only [e0, e1, ↓evp,evq,evr,fxa0,fxa1,fxa2,fxa3,fxu,fxn,fxl,↓fxp,lgc,absL,fitL,flatL,aput,ares,ares1,ofVal,unSc,aload,afill,splice,abound,asI,elems,IntKind.bits,sortT,eqNil,closedL,allByte,patch,pendOK,numA,Value.cells,Value.oneCell',ibin,List.replicate,Option.elim,Nat.reduceAdd,Nat.reduceSub,Nat.reduceMul,Nat.reduceLT,Nat.reduceEqDiff,Nat.reduceLeDiff,Nat.reduceBEq,Int.reduceLE,Int.reduceLT,Int.reduceToNat,Int.reduceBNe,Int.reduceBEq,Int.reduceNeg,Int.reduceEq,Int.reduceNe,Nat.reduceBNe,Int.reduceAdd,Int.reduceSub,Int.reduceMul,Int.reducePow,Nat.reducePow,Int.reduceGT,Int.reduceGE,if_true,if_false,ite_true,ite_false,beq_self_eq_true,BEq.rfl,reduceCtorEq,eq_self,ne_eq,Function.comp_def,beq_iff_eq]
  refine w_Fixed4 hv (by omega) (by omega) fun w s hb => ?_
  rw [show fxb (x % 4294967296) 4 = fxb x 4 from fxb_mod x 4] at hb
  simp only [e1, ↓evp,evq,evr,fxa0,fxa1,fxa2,fxa3,fxu,fxn,fxl,↓fxp,lgc,absL,fitL,flatL,aput,ares,ares1,ofVal,unSc,aload,afill,splice,abound,asI,elems,IntKind.bits,sortT,eqNil,closedL,allByte,patch,pendOK,numA,Value.cells,Value.oneCell',ibin,List.replicate,Option.elim,Nat.reduceAdd,Nat.reduceSub,Nat.reduceMul,Nat.reduceLT,Nat.reduceEqDiff,Nat.reduceLeDiff,Nat.reduceBEq,Int.reduceLE,Int.reduceLT,Int.reduceToNat,Int.reduceBNe,Int.reduceBEq,Int.reduceNeg,Int.reduceEq,Int.reduceNe,Nat.reduceBNe,Int.reduceAdd,Int.reduceSub,Int.reduceMul,Int.reducePow,Nat.reducePow,Int.reduceGT,Int.reduceGE,if_true,if_false,ite_true,ite_false,beq_self_eq_true,BEq.rfl,reduceCtorEq,eq_self,ne_eq,Function.comp_def,beq_iff_eq]
  refine w_Fixed4 (x := x / 4294967296) hb.rd (by omega) (by rw [List.length_append, fxb_length]; omega) fun w' s' hb' => ?_
  simp only [↓evp,evq,evr,fxa0,fxa1,fxa2,fxa3,fxu,fxn,fxl,↓fxp,lgc,absL,fitL,flatL,aput,ares,ares1,ofVal,unSc,aload,afill,splice,abound,asI,elems,IntKind.bits,sortT,eqNil,closedL,allByte,patch,pendOK,numA,Value.cells,Value.oneCell',ibin,List.replicate,Option.elim,Nat.reduceAdd,Nat.reduceSub,Nat.reduceMul,Nat.reduceLT,Nat.reduceEqDiff,Nat.reduceLeDiff,Nat.reduceBEq,Int.reduceLE,Int.reduceLT,Int.reduceToNat,Int.reduceBNe,Int.reduceBEq,Int.reduceNeg,Int.reduceEq,Int.reduceNe,Nat.reduceBNe,Int.reduceAdd,Int.reduceSub,Int.reduceMul,Int.reducePow,Nat.reducePow,Int.reduceGT,Int.reduceGE,if_true,if_false,ite_true,ite_false,beq_self_eq_true,BEq.rfl,reduceCtorEq,eq_self,ne_eq,Function.comp_def,beq_iff_eq]
  rw [List.append_assoc, show fxb x 4 ++ fxb (x / 4294967296) 4 = fxb x 8 from (fxb_add x 4 4).symm] at hb'
  exact h _ _ (hb'.rebase hb.1)
theorem w_Bytes {n m : Nat} {v x : V} {xs ys : List Int} {st : List Ob} {K : V → List Ob → Prop} (hv : Rd Try.prog st 5 v (bs xs) xs.length) (hx : Rd Try.prog st 5 x (bs ys) ys.length) (hl : xs.length + ys.length < 140737488340000) (hm : 12 < m)
    (h : ∀ w s, Buf Try.prog 5 st s w (bs (xs ++ (uvb ys.length ++ ys))) (xs ++ (uvb ys.length ++ ys)).length → K w s) : acallF Try.prog pl (n + 3) m 54 [v, x] st K := by
  rw [acallF_eq Try.func54 rfl]
  have lx := alen_rd hx Try.underlying22
  have e0 : IntKind.u64.wrap (ys.length : Int) = (ys.length : Int) := IntWalk.u64_in _ (by omega)
  simp only [lx, e0, ↓evp,evq,evr,fxa0,fxa1,fxa2,fxa3,fxu,fxn,fxl,↓fxp,lgc,absL,fitL,flatL,aput,ares,ares1,ofVal,unSc,aload,afill,splice,abound,asI,elems,IntKind.bits,sortT,eqNil,closedL,allByte,patch,pendOK,numA,Value.cells,Value.oneCell',ibin,List.replicate,Option.elim,Nat.reduceAdd,Nat.reduceSub,Nat.reduceMul,Nat.reduceLT,Nat.reduceEqDiff,Nat.reduceLeDiff,Nat.reduceBEq,Int.reduceLE,Int.reduceLT,Int.reduceToNat,Int.reduceBNe,Int.reduceBEq,Int.reduceNeg,Int.reduceEq,Int.reduceNe,Nat.reduceBNe,Int.reduceAdd,Int.reduceSub,Int.reduceMul,Int.reducePow,Nat.reducePow,Int.reduceGT,Int.reduceGE,if_true,if_false,ite_true,ite_false,beq_self_eq_true,BEq.rfl,reduceCtorEq,eq_self,ne_eq,Function.comp_def,beq_iff_eq]
  refine f21 hv (by omega) (by omega) hm fun w s hb => ?_
  obtain ⟨w', s', ha, hb', _⟩ := app_rd hb (hx.grw hb.1) (by
    have := uvb_len ys.length (by omega)
    rw [List.length_append]; omega)
  simp only [ha, ↓evp,evq,evr,fxa0,fxa1,fxa2,fxa3,fxu,fxn,fxl,↓fxp,lgc,absL,fitL,flatL,aput,ares,ares1,ofVal,unSc,aload,afill,splice,abound,asI,elems,IntKind.bits,sortT,eqNil,closedL,allByte,patch,pendOK,numA,Value.cells,Value.oneCell',ibin,List.replicate,Option.elim,Nat.reduceAdd,Nat.reduceSub,Nat.reduceMul,Nat.reduceLT,Nat.reduceEqDiff,Nat.reduceLeDiff,Nat.reduceBEq,Int.reduceLE,Int.reduceLT,Int.reduceToNat,Int.reduceBNe,Int.reduceBEq,Int.reduceNeg,Int.reduceEq,Int.reduceNe,Nat.reduceBNe,Int.reduceAdd,Int.reduceSub,Int.reduceMul,Int.reducePow,Nat.reducePow,Int.reduceGT,Int.reduceGE,if_true,if_false,ite_true,ite_false,beq_self_eq_true,BEq.rfl,reduceCtorEq,eq_self,ne_eq,Function.comp_def,beq_iff_eq]
  rw [List.append_assoc] at hb'
  exact h _ _ hb'
theorem r_Bytes {n m : Nat} {x : V} {ys : List Int} {st : List Ob} {K : V → List Ob → Prop} (hx : Rd Try.prog st 5 x (bs ys) ys.length) (hl : ys.length < 140737488340000) (hm : 12 < m)
    (h : ∀ w s, Buf Try.prog 5 st s w (bs (uvb ys.length ++ ys)) (uvb ys.length ++ ys).length → K w s) : acallF Try.prog pl (n + 2) m 55 [x] st K := by
  rw [acallF_eq Try.func55 rfl]
  have lx := alen_rd hx Try.underlying22
  have e0 : IntKind.u64.wrap (ys.length : Int) = (ys.length : Int) := IntWalk.u64_in _ (by omega)
  simp only [lx, e0, ↓evp,evq,evr,fxa0,fxa1,fxa2,fxa3,fxu,fxn,fxl,↓fxp,lgc,absL,fitL,flatL,aput,ares,ares1,ofVal,unSc,aload,afill,splice,abound,asI,elems,IntKind.bits,sortT,eqNil,closedL,allByte,patch,pendOK,numA,Value.cells,Value.oneCell',ibin,List.replicate,Option.elim,Nat.reduceAdd,Nat.reduceSub,Nat.reduceMul,Nat.reduceLT,Nat.reduceEqDiff,Nat.reduceLeDiff,Nat.reduceBEq,Int.reduceLE,Int.reduceLT,Int.reduceToNat,Int.reduceBNe,Int.reduceBEq,Int.reduceNeg,Int.reduceEq,Int.reduceNe,Nat.reduceBNe,Int.reduceAdd,Int.reduceSub,Int.reduceMul,Int.reducePow,Nat.reducePow,Int.reduceGT,Int.reduceGE,if_true,if_false,ite_true,ite_false,beq_self_eq_true,BEq.rfl,reduceCtorEq,eq_self,ne_eq,Function.comp_def,beq_iff_eq]
  refine r_Uvarint (by omega) hm fun w s hb => ?_
  obtain ⟨w', s', ha, hb', _⟩ := app_rd hb (hx.grw hb.1) (by
    have := uvb_len ys.length (by omega)
    omega)
  simp only [ha, ↓evp,evq,evr,fxa0,fxa1,fxa2,fxa3,fxu,fxn,fxl,↓fxp,lgc,absL,fitL,flatL,aput,ares,ares1,ofVal,unSc,aload,afill,splice,abound,asI,elems,IntKind.bits,sortT,eqNil,closedL,allByte,patch,pendOK,numA,Value.cells,Value.oneCell',ibin,List.replicate,Option.elim,Nat.reduceAdd,Nat.reduceSub,Nat.reduceMul,Nat.reduceLT,Nat.reduceEqDiff,Nat.reduceLeDiff,Nat.reduceBEq,Int.reduceLE,Int.reduceLT,Int.reduceToNat,Int.reduceBNe,Int.reduceBEq,Int.reduceNeg,Int.reduceEq,Int.reduceNe,Nat.reduceBNe,Int.reduceAdd,Int.reduceSub,Int.reduceMul,Int.reducePow,Nat.reducePow,Int.reduceGT,Int.reduceGE,if_true,if_false,ite_true,ite_false,beq_self_eq_true,BEq.rfl,reduceCtorEq,eq_self,ne_eq,Function.comp_def,beq_iff_eq]
  exact h _ _ hb'
theorem l02_same {n m : Nat} {x y : V} {xs ys : List Int} {st : List Ob} {K : V → List Ob → Prop} (hx : Rd Try.prog st 5 x (bs xs) xs.length) (hy : Rd Try.prog st 5 y (bs ys) ys.length)
    (h : K (.sc (.bool (xs.map (fun n => UInt8.ofNat n.toNat) == ys.map fun n => UInt8.ofNat n.toNat))) st) : acallF Try.prog pl (n + 1) m 15 [x, y] st K := by
  rw [acallF_eq Try.func15 rfl]
  have cx := aconv_b (e' := 0) hx Try.underlying22 Try.underlying5 Try.underlying9 sz5
  have cy := aconv_b (e' := 0) hy Try.underlying22 Try.underlying5 Try.underlying9 sz5
  simp only [cx, cy, ↓evp,evq,evr,fxa0,fxa1,fxa2,fxa3,fxu,fxn,fxl,↓fxp,lgc,absL,fitL,flatL,aput,ares,ares1,ofVal,unSc,aload,afill,splice,abound,asI,elems,IntKind.bits,sortT,eqNil,closedL,allByte,patch,pendOK,numA,Value.cells,Value.oneCell',ibin,List.replicate,Option.elim,Nat.reduceAdd,Nat.reduceSub,Nat.reduceMul,Nat.reduceLT,Nat.reduceEqDiff,Nat.reduceLeDiff,Nat.reduceBEq,Int.reduceLE,Int.reduceLT,Int.reduceToNat,Int.reduceBNe,Int.reduceBEq,Int.reduceNeg,Int.reduceEq,Int.reduceNe,Nat.reduceBNe,Int.reduceAdd,Int.reduceSub,Int.reduceMul,Int.reducePow,Nat.reducePow,Int.reduceGT,Int.reduceGE,if_true,if_false,ite_true,ite_false,beq_self_eq_true,BEq.rfl,reduceCtorEq,eq_self,ne_eq,Function.comp_def,beq_iff_eq]
  simp only [ByteArray.toList_eq] at *
  exact h
end Go.Proofs.Ytfndpnmdjblokaa
