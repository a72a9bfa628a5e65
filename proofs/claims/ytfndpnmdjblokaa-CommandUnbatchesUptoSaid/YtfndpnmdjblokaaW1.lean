/- The functions that write bytes. -/
import Derived.Test.YtfndpnmdjblokaaKit
import Derived.IntWalk
set_option linter.unusedVariables false
set_option linter.unusedSimpArgs false
set_option maxRecDepth 10000
namespace Go.Proofs.Ytfndpnmdjblokaa
open Go Go.M Go.RowKit
attribute [local congr] acallF_cong aloop_cong bcase_cong resK_cong valK_cong wantK_cong callK_cong xputK_cong qputK_cong

theorem f60 {n m : Nat} {v : V} {xs : List V} {k : Nat} {st : List Ob} {K : V → List Ob → Prop} (hv : Rd Try.prog st 5 v xs k)
    (h : ∀ v', Rd Try.prog st 5 v' xs k → fullV v' = true → K v' st) : acallF Try.prog pl (n + 1) m 60 [v] st K := by
  rw [acallF_eq Try.func60 rfl]
  have lv := alen_rd hv Try.underlying22
  obtain ⟨v', ho, h1, h2⟩ := own_rd hv Try.underlying22 sz5 .i64 .i64
  simp only [lv, ho, ↓evp,evq,evr,fxa0,fxa1,fxa2,fxa3,fxu,fxn,fxl,↓fxp,lgc,absL,fitL,flatL,aput,ares,ares1,ofVal,unSc,aload,afill,splice,abound,asI,elems,IntKind.bits,sortT,eqNil,closedL,allByte,patch,pendOK,numA,Value.cells,Value.oneCell',ibin,List.replicate,Option.elim,Nat.reduceAdd,Nat.reduceSub,Nat.reduceMul,Nat.reduceLT,Nat.reduceEqDiff,Nat.reduceLeDiff,Nat.reduceBEq,Int.reduceLE,Int.reduceLT,Int.reduceToNat,Int.reduceBNe,Int.reduceBEq,Int.reduceNeg,Int.reduceEq,Int.reduceNe,Nat.reduceBNe,Int.reduceAdd,Int.reduceSub,Int.reduceMul,Int.reducePow,Nat.reducePow,Int.reduceGT,Int.reduceGE,if_true,if_false,ite_true,ite_false,beq_self_eq_true,BEq.rfl,reduceCtorEq,eq_self,ne_eq,Function.comp_def,beq_iff_eq]
  exact h v' h1 h2

/-- A number's bytes. -/
def uvb (n : Nat) : List Int := if h : n < 128 then [(n : Int)] else ((n % 128 + 128 : Nat) : Int) :: uvb (n / 128)
termination_by n
theorem uvb_lt {n : Nat} (h : n < 128) : uvb n = [(n : Int)] := by rw [uvb, dif_pos h]
theorem uvb_ge {n : Nat} (h : ¬ n < 128) : uvb n = ((n % 128 + 128 : Nat) : Int) :: uvb (n / 128) := by rw [uvb, dif_neg h]

theorem or128 (x : Nat) : bits .or .u8 (IntKind.u8.wrap (x : Int)) 128 = ((x % 128 + 128 : Nat) : Int) := by
  have h : IntKind.u8.wrap (x : Int) = ((x % 256 : Nat) : Int) := by
    rw [IntKind.wrap_u8]; omega
  rw [h]
  have key : ∀ a : Fin 256, bits .or .u8 ((a.val : Nat) : Int) 128 = ((a.val % 128 + 128 : Nat) : Int) := by decide
  have := key ⟨x % 256, by omega⟩
  simp only at this
  rw [this]
  omega

/-- A byte more. -/
theorem app_byte {s0 s : List Ob} {w : V} {l : List Int} {k : Nat} (h : Buf Try.prog 5 s0 s w (bs l) k) (b : Int) (hk : k < 140737488355328) :
    ∃ w' s', aappend Try.prog (s ++ [.row 5 [.sc (.int .u8 b)] 1 0 false]) 22 w (.sl s.length 0 1 false) = some (w', s') ∧ Buf Try.prog 5 s0 s' w' (bs (l ++ [b])) (k + 1) := by
  obtain ⟨w', s', h1, h2⟩ := h.applit Try.underlying22 sz5 by5 ze5 (by omega) rfl (cs := [.sc (.int .u8 b)]) (k := 1) rfl rfl (by omega) (by omega)
  exact ⟨w', s', h1, by rw [bs_append]; exact h2⟩

theorem f21 {n m : Nat} {v : V} {xs : List Int} {x : Nat} {st : List Ob} {K : V → List Ob → Prop} (hv : Rd Try.prog st 5 v (bs xs) xs.length) (hx : x < 18446744073709551616) (hl : xs.length < 140737488350000) (hm : 12 < m)
    (h : ∀ w s, Buf Try.prog 5 st s w (bs (xs ++ uvb x)) (xs ++ uvb x).length → K w s) : acallF Try.prog pl (n + 2) m 21 [v, .sc (.int .u64 x)] st K := by
  rw [acallF_eq Try.func21 rfl]
  simp only [↓evp,evq,evr,fxa0,fxa1,fxa2,fxa3,fxu,fxn,fxl,↓fxp,lgc,absL,fitL,flatL,aput,ares,ares1,ofVal,unSc,aload,afill,splice,abound,asI,elems,IntKind.bits,sortT,eqNil,closedL,allByte,patch,pendOK,numA,Value.cells,Value.oneCell',ibin,List.replicate,Option.elim,Nat.reduceAdd,Nat.reduceSub,Nat.reduceMul,Nat.reduceLT,Nat.reduceEqDiff,Nat.reduceLeDiff,Nat.reduceBEq,Int.reduceLE,Int.reduceLT,Int.reduceToNat,Int.reduceBNe,Int.reduceBEq,Int.reduceNeg,Int.reduceEq,Int.reduceNe,Nat.reduceBNe,Int.reduceAdd,Int.reduceSub,Int.reduceMul,Int.reducePow,Nat.reducePow,Int.reduceGT,Int.reduceGE,if_true,if_false,ite_true,ite_false,beq_self_eq_true,BEq.rfl,reduceCtorEq,eq_self,ne_eq,Function.comp_def,beq_iff_eq]
  refine f60 hv fun v' h1 h2 => ?_
  simp only [↓evp,evq,evr,fxa0,fxa1,fxa2,fxa3,fxu,fxn,fxl,↓fxp,lgc,absL,fitL,flatL,aput,ares,ares1,ofVal,unSc,aload,afill,splice,abound,asI,elems,IntKind.bits,sortT,eqNil,closedL,allByte,patch,pendOK,numA,Value.cells,Value.oneCell',ibin,List.replicate,Option.elim,Nat.reduceAdd,Nat.reduceSub,Nat.reduceMul,Nat.reduceLT,Nat.reduceEqDiff,Nat.reduceLeDiff,Nat.reduceBEq,Int.reduceLE,Int.reduceLT,Int.reduceToNat,Int.reduceBNe,Int.reduceBEq,Int.reduceNeg,Int.reduceEq,Int.reduceNe,Nat.reduceBNe,Int.reduceAdd,Int.reduceSub,Int.reduceMul,Int.reducePow,Nat.reducePow,Int.reduceGT,Int.reduceGE,if_true,if_false,ite_true,ite_false,beq_self_eq_true,BEq.rfl,reduceCtorEq,eq_self,ne_eq,Function.comp_def,beq_iff_eq]
  refine aloop_inv (fun k t s => ∃ (pre : List Int) (y : Nat) (w : V), k + pre.length = m ∧ (pre = [] ∨ 0 < y) ∧ uvb x = pre ++ uvb y ∧ y * 128 ^ pre.length ≤ x ∧ Buf Try.prog 5 st s w (bs (xs ++ pre)) (xs.length + pre.length) ∧
    ∃ hh7 hh8 hh9 hh10 hh11 hh12 hh13 hh14 hh15 hh16 hh17 hh18 hh19 hh20 hh21, t = [w, .sc (.int .u64 y), .sc undef, .sc undef, .tsl [] 0 true true, v, v', hh7, hh8, hh9, hh10, hh11, hh12, hh13, hh14, hh15, hh16, hh17, hh18, hh19, hh20, hh21]) ?_ m _ _ ⟨[], x, v', by simp, .inl rfl, rfl, by simp, by simpa using Buf.start h1 h2, _, _, _, _, _, _, _, _, _, _, _, _, _, _, _, rfl⟩
  rintro k t s ⟨pre, y, w, hk, h0, hp, hle, hb, hh7, hh8, hh9, hh10, hh11, hh12, hh13, hh14, hh15, hh16, hh17, hh18, hh19, hh20, hh21, rfl⟩
  have hpl : ∀ q, 0 < q → q * 128 ^ pre.length ≤ x → pre.length ≤ 9 := fun q hq h => by
    rcases Nat.lt_or_ge 9 pre.length with h9 | h9
    · have h10 : 128 ^ 10 ≤ 128 ^ pre.length := Nat.pow_le_pow_right (by omega) h9
      have h11 : 1 * 128 ^ pre.length ≤ q * 128 ^ pre.length := Nat.mul_le_mul_right _ hq
      omega
    · exact h9
  have hpre : pre.length ≤ 9 := by
    rcases h0 with rfl | h0
    · simp
    · exact hpl y h0 hle
  refine ⟨k - 1, by omega, ?_⟩
  by_cases hy : y < 128
  · have d1 : decide ((y : Int) ≥ 128) = false := decide_eq_false (by omega)
    have hwr : IntKind.u8.wrap (y : Int) = (y : Int) := IntWalk.u8_in _ (by omega)
    obtain ⟨w', s', ha, hb'⟩ := app_byte hb (y : Int) (by omega)
    simp only [d1, hwr, ha, ↓evp,evq,evr,fxa0,fxa1,fxa2,fxa3,fxu,fxn,fxl,↓fxp,lgc,absL,fitL,flatL,aput,ares,ares1,ofVal,unSc,aload,afill,splice,abound,asI,elems,IntKind.bits,sortT,eqNil,closedL,allByte,patch,pendOK,numA,Value.cells,Value.oneCell',ibin,List.replicate,Option.elim,Nat.reduceAdd,Nat.reduceSub,Nat.reduceMul,Nat.reduceLT,Nat.reduceEqDiff,Nat.reduceLeDiff,Nat.reduceBEq,Int.reduceLE,Int.reduceLT,Int.reduceToNat,Int.reduceBNe,Int.reduceBEq,Int.reduceNeg,Int.reduceEq,Int.reduceNe,Nat.reduceBNe,Int.reduceAdd,Int.reduceSub,Int.reduceMul,Int.reducePow,Nat.reducePow,Int.reduceGT,Int.reduceGE,if_true,if_false,ite_true,ite_false,beq_self_eq_true,BEq.rfl,reduceCtorEq,eq_self,ne_eq,Function.comp_def,beq_iff_eq]
    refine h w' s' ?_
    rw [hp, uvb_lt hy, ← List.append_assoc]
    have e : (xs ++ pre ++ [(y : Int)]).length = xs.length + pre.length + 1 := by simp [Nat.add_assoc]
    rw [e]
    exact hb'
  · have d1 : decide ((y : Int) ≥ 128) = true := decide_eq_true (by omega)
    obtain ⟨w', s', ha, hb'⟩ := app_byte hb ((y % 128 + 128 : Nat) : Int) (by omega)
    simp only [d1, or128, ha, ↓evp,evq,evr,fxa0,fxa1,fxa2,fxa3,fxu,fxn,fxl,↓fxp,lgc,absL,fitL,flatL,aput,ares,ares1,ofVal,unSc,aload,afill,splice,abound,asI,elems,IntKind.bits,sortT,eqNil,closedL,allByte,patch,pendOK,numA,Value.cells,Value.oneCell',ibin,List.replicate,Option.elim,Nat.reduceAdd,Nat.reduceSub,Nat.reduceMul,Nat.reduceLT,Nat.reduceEqDiff,Nat.reduceLeDiff,Nat.reduceBEq,Int.reduceLE,Int.reduceLT,Int.reduceToNat,Int.reduceBNe,Int.reduceBEq,Int.reduceNeg,Int.reduceEq,Int.reduceNe,Nat.reduceBNe,Int.reduceAdd,Int.reduceSub,Int.reduceMul,Int.reducePow,Nat.reducePow,Int.reduceGT,Int.reduceGE,if_true,if_false,ite_true,ite_false,beq_self_eq_true,BEq.rfl,reduceCtorEq,eq_self,ne_eq,Function.comp_def,beq_iff_eq]
    have hsh : (y : Int).fdiv (2 ^ min 7 64) = ((y / 128 : Nat) : Int) := by
      show (y : Int).fdiv 128 = _
      rw [Int.fdiv_eq_ediv_of_nonneg _ (by omega)]
      omega
    have hy2 : y / 128 * 128 ^ (pre.length + 1) ≤ x := by
      have : y / 128 * 128 ≤ y := Nat.div_mul_le_self _ _
      have := Nat.mul_le_mul_right (128 ^ pre.length) this
      rw [Nat.pow_succ, Nat.mul_comm (128 ^ pre.length) 128, ← Nat.mul_assoc]
      omega
    refine ⟨pre ++ [((y % 128 + 128 : Nat) : Int)], y / 128, w', by simp; omega, .inr (by omega), ?_, by simpa using hy2, ?_, _, _, _, _, _, _, _, _, _, _, _, _, _, _, _, by rw [hsh]⟩
    · rw [hp, uvb_ge hy]; simp
    · have e : xs.length + (pre ++ [((y % 128 + 128 : Nat) : Int)]).length = xs.length + pre.length + 1 := by simp [Nat.add_assoc]
      rw [e, ← List.append_assoc]
      exact hb'
end Go.Proofs.Ytfndpnmdjblokaa
