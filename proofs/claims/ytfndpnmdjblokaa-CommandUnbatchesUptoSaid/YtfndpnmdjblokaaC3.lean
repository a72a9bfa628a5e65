/- Chapter 24: a command's parts, the check. -/
import Derived.Test.YtfndpnmdjblokaaC2
import Derived.Test.YtfndpnmdjblokaaKitF
set_option linter.unusedVariables false
set_option linter.unusedSimpArgs false
set_option maxRecDepth 10000
namespace Go.Proofs.Ytfndpnmdjblokaa
open Go Go.M Go.RowKit
attribute [local congr] acallF_cong aloop_cong bcase_cong resK_cong valK_cong wantK_cong callK_cong xputK_cong qputK_cong
attribute [local irreducible] seqK blockK loopK nextK bcase resK valK wantK funK putK dputK xputK qputK callK aops aop acode adraw aloop acallF acall invK
theorem cmp_Cell (x y : Operand) (a b c d : Int) : pureRun Try.prog (do eqGuard .eql 55 x y (.agg #[.int .i64 a, .int .i64 b]) (.agg #[.int .i64 c, .int .i64 d]); binOp .eql 55 (.agg #[.int .i64 a, .int .i64 b]) (.agg #[.int .i64 c, .int .i64 d])) = some (.bool (a == c && b == d)) :=
  pr_eqlStruct x y (by kernel_rfl) (pr_eq2 Try.underlying55 (by kernel_rfl) (by decide) (by decide) rfl rfl Try.underlying3 Try.underlying3 a b c d)
theorem cmp_Shape (x y : Operand) (a b c d : Int) : pureRun Try.prog (do eqGuard .eql 57 x y (.agg #[.int .i64 a, .int .i64 b]) (.agg #[.int .i64 c, .int .i64 d]); binOp .eql 57 (.agg #[.int .i64 a, .int .i64 b]) (.agg #[.int .i64 c, .int .i64 d])) = some (.bool (a == c && b == d)) :=
  pr_eqlStruct x y (by kernel_rfl) (pr_eq2 Try.underlying57 (by kernel_rfl) (by decide) (by decide) rfl rfl Try.underlying3 Try.underlying3 a b c d)
/-- A command. -/
structure Cmd where
  tick : Int
  player : Int
  seq : Int
  kind : Int
  uv : V
  units : List Int
  x : Int
  y : Int
  w : Int
  h : Int
  id : Int
  cls : Int
  sz : Int
def Cmd.v (c : Cmd) : List V := [.sc (.int .i64 c.tick), .sc (.int .i64 c.player), .sc (.int .i64 c.seq), .sc (.int .i64 c.kind), c.uv, .sc (.int .i64 c.x), .sc (.int .i64 c.y), .sc (.int .i64 c.w), .sc (.int .i64 c.h), .sc (.int .i64 c.id), .sc (.int .i64 c.cls), .sc (.int .i64 c.sz)]
/-- Its list of units lies so. -/
structure Cmd.at_ (c : Cmd) (st : List Ob) : Prop where
  rd : Rd Try.prog st 3 c.uv (is c.units) c.units.length
  one : one c.uv = true
  cv : cellsV c.uv = [c.uv]
  len : c.units.length < 4611686018427387904
theorem Cmd.at_.grw {c : Cmd} {st s : List Ob} (h : c.at_ st) (k : Grw st s) : c.at_ s := ⟨h.rd.grw k, h.one, h.cv, h.len⟩
def partsB (c : Cmd) (u a z i s : Bool) : Bool :=
  (if u then unitsB c.units else (c.units.length : Int) == 0) && (if a then hasB 0 0 128 128 c.x c.y else c.x == 0 && c.y == 0) &&
  (if z then withinB c.w 1 8 && withinB c.h 1 8 else c.w == 0 && c.h == 0) && (if i then withinB c.id 1 2147483647 else c.id == 0) && (if s then shapeB c.cls c.sz else c.cls == 0 && c.sz == 0)
/-- The first loop of a code. -/
def fl : Code → Option Code
  | .loop b => some b
  | .seq a b => match fl a with
    | some c => some c
    | none => fl b
  | .block _ b => fl b
  | .cond _ a b => match fl a with
    | some c => some c
    | none => fl b
  | _ => none
def okB (h n m : Bool) : Bool := if h then m else n
set_option maxHeartbeats 2000000 in
theorem parts_loop {n m : Nat} {b : Code} (hb : fl (Try.f72.body.getD .skip) = some b) {h0 n0 m0 h1 n1 m1 h2 n2 m2 h3 n3 m3 h4 n4 m4 : Bool} {st : List Ob} {K : ExK} {f : Nat → V} (hm : 6 < m)
    (q0 : f 68 = .agg [bb h0, bb n0, bb m0, bb h1, bb n1, bb m1, bb h2, bb n2, bb m2, bb h3, bb n3, bb m3, bb h4, bb n4, bb m4]) (q1 : f 69 = .sc (.int .i64 0))
    (hx : (okB h0 n0 m0 && okB h1 n1 m1 && okB h2 n2 m2 && okB h3 n3 m3 && okB h4 n4 m4) = true → ∀ f s, Grw st s → K (.exit 0) (ofF 90 f) s)
    (hr : (okB h0 n0 m0 && okB h1 n1 m1 && okB h2 n2 m2 && okB h3 n3 m3 && okB h4 n4 m4) = false → ∀ f s, f 4 = .sc (.bool false) → Grw st s → K .ret (ofF 90 f) s) :
    aloop (acode Try.prog (acallF Try.prog pl n m) m (pl 72) b) m K (ofF 90 f) st := by
  simp only [Try.f72, Option.getD_some, fl, Option.some.injEq] at hb
  subst hb
  refine aloop_forF (fun k f s => ∃ i : Nat, k + i = m ∧ i ≤ 5 ∧ Grw st s ∧ (0 < i → okB h0 n0 m0 = true) ∧ (1 < i → okB h1 n1 m1 = true) ∧ (2 < i → okB h2 n2 m2 = true) ∧ (3 < i → okB h3 n3 m3 = true) ∧ (4 < i → okB h4 n4 m4 = true) ∧
    f 68 = .agg [bb h0, bb n0, bb m0, bb h1, bb n1, bb m1, bb h2, bb n2, bb m2, bb h3, bb n3, bb m3, bb h4, bb n4, bb m4] ∧ f 69 = .sc (.int .i64 i)) ⟨0, by omega, by omega, .refl _, by omega, by omega, by omega, by omega, by omega, q0, q1⟩ ?_
  clear q0 q1 f
  rintro I' hI' k f s ⟨i, hk, hi, hg, c0, c1, c2, c3, c4, q0, q1⟩
  refine ⟨k - 1, by omega, ?_⟩
  have hi5 : i = 0 ∨ i = 1 ∨ i = 2 ∨ i = 3 ∨ i = 4 ∨ i = 5 := by omega
  simp only [bb] at q0
  rcases hi5 with rfl | rfl | rfl | rfl | rfl | rfl <;> simp only [Int.cast_ofNat_Int, Int.natCast_zero, Int.natCast_one] at q1
  · cases h0
    · cases n0 <;> simp only [q0, q1, evf,↓evp,evq,evr,fxa0,fxa1,fxa2,fxa3,fxu,fxn,fxl,↓fxp,lgc,absL,fitL,flatL,ares,ares1,ofVal,unSc,aload,afill,splice,abound,asI,elems,IntKind.bits,sortT,eqNil,closedL,allByte,patch,pendOK,numA,Value.cells,Value.oneCell',ibin,List.replicate,Option.elim,Nat.reduceAdd,Nat.reduceSub,Nat.reduceMul,Nat.reduceLT,Nat.reduceEqDiff,Nat.reduceLeDiff,Nat.reduceBEq,Int.reduceLE,Int.reduceLT,Int.reduceToNat,Int.reduceBNe,Int.reduceBEq,Int.reduceNeg,Int.reduceEq,Int.reduceNe,Nat.reduceBNe,Int.reduceAdd,Int.reduceSub,Int.reduceMul,Int.reducePow,Nat.reducePow,Int.reduceGT,Int.reduceGE,if_true,if_false,ite_true,ite_false,beq_self_eq_true,BEq.rfl,reduceCtorEq,eq_self,ne_eq,Function.comp_def,beq_iff_eq]
      · exact hr (by simp [okB]) _ _ (by simp only [evf, ne_eq, Nat.reduceEqDiff, Nat.reduceLT, not_false_eq_true]) (hg.push' _)
      · exact hI' _ _ _ ⟨1, by omega, by omega, hg.push' _, fun _ => rfl, by omega, by omega, by omega, by omega, by simp only [q0, bb, evf, ne_eq, Nat.reduceEqDiff, Nat.reduceLT, not_false_eq_true], by simp only [evf, ne_eq, Nat.reduceEqDiff, Nat.reduceLT, not_false_eq_true]; rfl⟩
    · cases m0 <;> simp only [q0, q1, evf,↓evp,evq,evr,fxa0,fxa1,fxa2,fxa3,fxu,fxn,fxl,↓fxp,lgc,absL,fitL,flatL,ares,ares1,ofVal,unSc,aload,afill,splice,abound,asI,elems,IntKind.bits,sortT,eqNil,closedL,allByte,patch,pendOK,numA,Value.cells,Value.oneCell',ibin,List.replicate,Option.elim,Nat.reduceAdd,Nat.reduceSub,Nat.reduceMul,Nat.reduceLT,Nat.reduceEqDiff,Nat.reduceLeDiff,Nat.reduceBEq,Int.reduceLE,Int.reduceLT,Int.reduceToNat,Int.reduceBNe,Int.reduceBEq,Int.reduceNeg,Int.reduceEq,Int.reduceNe,Nat.reduceBNe,Int.reduceAdd,Int.reduceSub,Int.reduceMul,Int.reducePow,Nat.reducePow,Int.reduceGT,Int.reduceGE,if_true,if_false,ite_true,ite_false,beq_self_eq_true,BEq.rfl,reduceCtorEq,eq_self,ne_eq,Function.comp_def,beq_iff_eq]
      · exact hr (by simp [okB]) _ _ (by simp only [evf, ne_eq, Nat.reduceEqDiff, Nat.reduceLT, not_false_eq_true]) (hg.push' _)
      · exact hI' _ _ _ ⟨1, by omega, by omega, hg.push' _, fun _ => rfl, by omega, by omega, by omega, by omega, by simp only [q0, bb, evf, ne_eq, Nat.reduceEqDiff, Nat.reduceLT, not_false_eq_true], by simp only [evf, ne_eq, Nat.reduceEqDiff, Nat.reduceLT, not_false_eq_true]; rfl⟩
  · have k0 := c0 (by omega)
    cases h1
    · cases n1 <;> simp only [q0, q1, evf,↓evp,evq,evr,fxa0,fxa1,fxa2,fxa3,fxu,fxn,fxl,↓fxp,lgc,absL,fitL,flatL,ares,ares1,ofVal,unSc,aload,afill,splice,abound,asI,elems,IntKind.bits,sortT,eqNil,closedL,allByte,patch,pendOK,numA,Value.cells,Value.oneCell',ibin,List.replicate,Option.elim,Nat.reduceAdd,Nat.reduceSub,Nat.reduceMul,Nat.reduceLT,Nat.reduceEqDiff,Nat.reduceLeDiff,Nat.reduceBEq,Int.reduceLE,Int.reduceLT,Int.reduceToNat,Int.reduceBNe,Int.reduceBEq,Int.reduceNeg,Int.reduceEq,Int.reduceNe,Nat.reduceBNe,Int.reduceAdd,Int.reduceSub,Int.reduceMul,Int.reducePow,Nat.reducePow,Int.reduceGT,Int.reduceGE,if_true,if_false,ite_true,ite_false,beq_self_eq_true,BEq.rfl,reduceCtorEq,eq_self,ne_eq,Function.comp_def,beq_iff_eq]
      · exact hr (by simp [okB]) _ _ (by simp only [evf, ne_eq, Nat.reduceEqDiff, Nat.reduceLT, not_false_eq_true]) (hg.push' _)
      · exact hI' _ _ _ ⟨2, by omega, by omega, hg.push' _, fun _ => k0, fun _ => rfl, by omega, by omega, by omega, by simp only [q0, bb, evf, ne_eq, Nat.reduceEqDiff, Nat.reduceLT, not_false_eq_true], by simp only [evf, ne_eq, Nat.reduceEqDiff, Nat.reduceLT, not_false_eq_true]; rfl⟩
    · cases m1 <;> simp only [q0, q1, evf,↓evp,evq,evr,fxa0,fxa1,fxa2,fxa3,fxu,fxn,fxl,↓fxp,lgc,absL,fitL,flatL,ares,ares1,ofVal,unSc,aload,afill,splice,abound,asI,elems,IntKind.bits,sortT,eqNil,closedL,allByte,patch,pendOK,numA,Value.cells,Value.oneCell',ibin,List.replicate,Option.elim,Nat.reduceAdd,Nat.reduceSub,Nat.reduceMul,Nat.reduceLT,Nat.reduceEqDiff,Nat.reduceLeDiff,Nat.reduceBEq,Int.reduceLE,Int.reduceLT,Int.reduceToNat,Int.reduceBNe,Int.reduceBEq,Int.reduceNeg,Int.reduceEq,Int.reduceNe,Nat.reduceBNe,Int.reduceAdd,Int.reduceSub,Int.reduceMul,Int.reducePow,Nat.reducePow,Int.reduceGT,Int.reduceGE,if_true,if_false,ite_true,ite_false,beq_self_eq_true,BEq.rfl,reduceCtorEq,eq_self,ne_eq,Function.comp_def,beq_iff_eq]
      · exact hr (by simp [okB]) _ _ (by simp only [evf, ne_eq, Nat.reduceEqDiff, Nat.reduceLT, not_false_eq_true]) (hg.push' _)
      · exact hI' _ _ _ ⟨2, by omega, by omega, hg.push' _, fun _ => k0, fun _ => rfl, by omega, by omega, by omega, by simp only [q0, bb, evf, ne_eq, Nat.reduceEqDiff, Nat.reduceLT, not_false_eq_true], by simp only [evf, ne_eq, Nat.reduceEqDiff, Nat.reduceLT, not_false_eq_true]; rfl⟩
  · have k0 := c0 (by omega)
    have k1 := c1 (by omega)
    cases h2
    · cases n2 <;> simp only [q0, q1, evf,↓evp,evq,evr,fxa0,fxa1,fxa2,fxa3,fxu,fxn,fxl,↓fxp,lgc,absL,fitL,flatL,ares,ares1,ofVal,unSc,aload,afill,splice,abound,asI,elems,IntKind.bits,sortT,eqNil,closedL,allByte,patch,pendOK,numA,Value.cells,Value.oneCell',ibin,List.replicate,Option.elim,Nat.reduceAdd,Nat.reduceSub,Nat.reduceMul,Nat.reduceLT,Nat.reduceEqDiff,Nat.reduceLeDiff,Nat.reduceBEq,Int.reduceLE,Int.reduceLT,Int.reduceToNat,Int.reduceBNe,Int.reduceBEq,Int.reduceNeg,Int.reduceEq,Int.reduceNe,Nat.reduceBNe,Int.reduceAdd,Int.reduceSub,Int.reduceMul,Int.reducePow,Nat.reducePow,Int.reduceGT,Int.reduceGE,if_true,if_false,ite_true,ite_false,beq_self_eq_true,BEq.rfl,reduceCtorEq,eq_self,ne_eq,Function.comp_def,beq_iff_eq]
      · exact hr (by simp [okB]) _ _ (by simp only [evf, ne_eq, Nat.reduceEqDiff, Nat.reduceLT, not_false_eq_true]) (hg.push' _)
      · exact hI' _ _ _ ⟨3, by omega, by omega, hg.push' _, fun _ => k0, fun _ => k1, fun _ => rfl, by omega, by omega, by simp only [q0, bb, evf, ne_eq, Nat.reduceEqDiff, Nat.reduceLT, not_false_eq_true], by simp only [evf, ne_eq, Nat.reduceEqDiff, Nat.reduceLT, not_false_eq_true]; rfl⟩
    · cases m2 <;> simp only [q0, q1, evf,↓evp,evq,evr,fxa0,fxa1,fxa2,fxa3,fxu,fxn,fxl,↓fxp,lgc,absL,fitL,flatL,ares,ares1,ofVal,unSc,aload,afill,splice,abound,asI,elems,IntKind.bits,sortT,eqNil,closedL,allByte,patch,pendOK,numA,Value.cells,Value.oneCell',ibin,List.replicate,Option.elim,Nat.reduceAdd,Nat.reduceSub,Nat.reduceMul,Nat.reduceLT,Nat.reduceEqDiff,Nat.reduceLeDiff,Nat.reduceBEq,Int.reduceLE,Int.reduceLT,Int.reduceToNat,Int.reduceBNe,Int.reduceBEq,Int.reduceNeg,Int.reduceEq,Int.reduceNe,Nat.reduceBNe,Int.reduceAdd,Int.reduceSub,Int.reduceMul,Int.reducePow,Nat.reducePow,Int.reduceGT,Int.reduceGE,if_true,if_false,ite_true,ite_false,beq_self_eq_true,BEq.rfl,reduceCtorEq,eq_self,ne_eq,Function.comp_def,beq_iff_eq]
      · exact hr (by simp [okB]) _ _ (by simp only [evf, ne_eq, Nat.reduceEqDiff, Nat.reduceLT, not_false_eq_true]) (hg.push' _)
      · exact hI' _ _ _ ⟨3, by omega, by omega, hg.push' _, fun _ => k0, fun _ => k1, fun _ => rfl, by omega, by omega, by simp only [q0, bb, evf, ne_eq, Nat.reduceEqDiff, Nat.reduceLT, not_false_eq_true], by simp only [evf, ne_eq, Nat.reduceEqDiff, Nat.reduceLT, not_false_eq_true]; rfl⟩
  · have k0 := c0 (by omega)
    have k1 := c1 (by omega)
    have k2 := c2 (by omega)
    cases h3
    · cases n3 <;> simp only [q0, q1, evf,↓evp,evq,evr,fxa0,fxa1,fxa2,fxa3,fxu,fxn,fxl,↓fxp,lgc,absL,fitL,flatL,ares,ares1,ofVal,unSc,aload,afill,splice,abound,asI,elems,IntKind.bits,sortT,eqNil,closedL,allByte,patch,pendOK,numA,Value.cells,Value.oneCell',ibin,List.replicate,Option.elim,Nat.reduceAdd,Nat.reduceSub,Nat.reduceMul,Nat.reduceLT,Nat.reduceEqDiff,Nat.reduceLeDiff,Nat.reduceBEq,Int.reduceLE,Int.reduceLT,Int.reduceToNat,Int.reduceBNe,Int.reduceBEq,Int.reduceNeg,Int.reduceEq,Int.reduceNe,Nat.reduceBNe,Int.reduceAdd,Int.reduceSub,Int.reduceMul,Int.reducePow,Nat.reducePow,Int.reduceGT,Int.reduceGE,if_true,if_false,ite_true,ite_false,beq_self_eq_true,BEq.rfl,reduceCtorEq,eq_self,ne_eq,Function.comp_def,beq_iff_eq]
      · exact hr (by simp [okB]) _ _ (by simp only [evf, ne_eq, Nat.reduceEqDiff, Nat.reduceLT, not_false_eq_true]) (hg.push' _)
      · exact hI' _ _ _ ⟨4, by omega, by omega, hg.push' _, fun _ => k0, fun _ => k1, fun _ => k2, fun _ => rfl, by omega, by simp only [q0, bb, evf, ne_eq, Nat.reduceEqDiff, Nat.reduceLT, not_false_eq_true], by simp only [evf, ne_eq, Nat.reduceEqDiff, Nat.reduceLT, not_false_eq_true]; rfl⟩
    · cases m3 <;> simp only [q0, q1, evf,↓evp,evq,evr,fxa0,fxa1,fxa2,fxa3,fxu,fxn,fxl,↓fxp,lgc,absL,fitL,flatL,ares,ares1,ofVal,unSc,aload,afill,splice,abound,asI,elems,IntKind.bits,sortT,eqNil,closedL,allByte,patch,pendOK,numA,Value.cells,Value.oneCell',ibin,List.replicate,Option.elim,Nat.reduceAdd,Nat.reduceSub,Nat.reduceMul,Nat.reduceLT,Nat.reduceEqDiff,Nat.reduceLeDiff,Nat.reduceBEq,Int.reduceLE,Int.reduceLT,Int.reduceToNat,Int.reduceBNe,Int.reduceBEq,Int.reduceNeg,Int.reduceEq,Int.reduceNe,Nat.reduceBNe,Int.reduceAdd,Int.reduceSub,Int.reduceMul,Int.reducePow,Nat.reducePow,Int.reduceGT,Int.reduceGE,if_true,if_false,ite_true,ite_false,beq_self_eq_true,BEq.rfl,reduceCtorEq,eq_self,ne_eq,Function.comp_def,beq_iff_eq]
      · exact hr (by simp [okB]) _ _ (by simp only [evf, ne_eq, Nat.reduceEqDiff, Nat.reduceLT, not_false_eq_true]) (hg.push' _)
      · exact hI' _ _ _ ⟨4, by omega, by omega, hg.push' _, fun _ => k0, fun _ => k1, fun _ => k2, fun _ => rfl, by omega, by simp only [q0, bb, evf, ne_eq, Nat.reduceEqDiff, Nat.reduceLT, not_false_eq_true], by simp only [evf, ne_eq, Nat.reduceEqDiff, Nat.reduceLT, not_false_eq_true]; rfl⟩
  · have k0 := c0 (by omega)
    have k1 := c1 (by omega)
    have k2 := c2 (by omega)
    have k3 := c3 (by omega)
    cases h4
    · cases n4 <;> simp only [q0, q1, evf,↓evp,evq,evr,fxa0,fxa1,fxa2,fxa3,fxu,fxn,fxl,↓fxp,lgc,absL,fitL,flatL,ares,ares1,ofVal,unSc,aload,afill,splice,abound,asI,elems,IntKind.bits,sortT,eqNil,closedL,allByte,patch,pendOK,numA,Value.cells,Value.oneCell',ibin,List.replicate,Option.elim,Nat.reduceAdd,Nat.reduceSub,Nat.reduceMul,Nat.reduceLT,Nat.reduceEqDiff,Nat.reduceLeDiff,Nat.reduceBEq,Int.reduceLE,Int.reduceLT,Int.reduceToNat,Int.reduceBNe,Int.reduceBEq,Int.reduceNeg,Int.reduceEq,Int.reduceNe,Nat.reduceBNe,Int.reduceAdd,Int.reduceSub,Int.reduceMul,Int.reducePow,Nat.reducePow,Int.reduceGT,Int.reduceGE,if_true,if_false,ite_true,ite_false,beq_self_eq_true,BEq.rfl,reduceCtorEq,eq_self,ne_eq,Function.comp_def,beq_iff_eq]
      · exact hr (by simp [okB]) _ _ (by simp only [evf, ne_eq, Nat.reduceEqDiff, Nat.reduceLT, not_false_eq_true]) (hg.push' _)
      · exact hI' _ _ _ ⟨5, by omega, by omega, hg.push' _, fun _ => k0, fun _ => k1, fun _ => k2, fun _ => k3, fun _ => rfl, by simp only [q0, bb, evf, ne_eq, Nat.reduceEqDiff, Nat.reduceLT, not_false_eq_true], by simp only [evf, ne_eq, Nat.reduceEqDiff, Nat.reduceLT, not_false_eq_true]; rfl⟩
    · cases m4 <;> simp only [q0, q1, evf,↓evp,evq,evr,fxa0,fxa1,fxa2,fxa3,fxu,fxn,fxl,↓fxp,lgc,absL,fitL,flatL,ares,ares1,ofVal,unSc,aload,afill,splice,abound,asI,elems,IntKind.bits,sortT,eqNil,closedL,allByte,patch,pendOK,numA,Value.cells,Value.oneCell',ibin,List.replicate,Option.elim,Nat.reduceAdd,Nat.reduceSub,Nat.reduceMul,Nat.reduceLT,Nat.reduceEqDiff,Nat.reduceLeDiff,Nat.reduceBEq,Int.reduceLE,Int.reduceLT,Int.reduceToNat,Int.reduceBNe,Int.reduceBEq,Int.reduceNeg,Int.reduceEq,Int.reduceNe,Nat.reduceBNe,Int.reduceAdd,Int.reduceSub,Int.reduceMul,Int.reducePow,Nat.reducePow,Int.reduceGT,Int.reduceGE,if_true,if_false,ite_true,ite_false,beq_self_eq_true,BEq.rfl,reduceCtorEq,eq_self,ne_eq,Function.comp_def,beq_iff_eq]
      · exact hr (by simp [okB]) _ _ (by simp only [evf, ne_eq, Nat.reduceEqDiff, Nat.reduceLT, not_false_eq_true]) (hg.push' _)
      · exact hI' _ _ _ ⟨5, by omega, by omega, hg.push' _, fun _ => k0, fun _ => k1, fun _ => k2, fun _ => k3, fun _ => rfl, by simp only [q0, bb, evf, ne_eq, Nat.reduceEqDiff, Nat.reduceLT, not_false_eq_true], by simp only [evf, ne_eq, Nat.reduceEqDiff, Nat.reduceLT, not_false_eq_true]; rfl⟩
  · simp only [q0, q1, evf,↓evp,evq,evr,fxa0,fxa1,fxa2,fxa3,fxu,fxn,fxl,↓fxp,lgc,absL,fitL,flatL,ares,ares1,ofVal,unSc,aload,afill,splice,abound,asI,elems,IntKind.bits,sortT,eqNil,closedL,allByte,patch,pendOK,numA,Value.cells,Value.oneCell',ibin,List.replicate,Option.elim,Nat.reduceAdd,Nat.reduceSub,Nat.reduceMul,Nat.reduceLT,Nat.reduceEqDiff,Nat.reduceLeDiff,Nat.reduceBEq,Int.reduceLE,Int.reduceLT,Int.reduceToNat,Int.reduceBNe,Int.reduceBEq,Int.reduceNeg,Int.reduceEq,Int.reduceNe,Nat.reduceBNe,Int.reduceAdd,Int.reduceSub,Int.reduceMul,Int.reducePow,Nat.reducePow,Int.reduceGT,Int.reduceGE,if_true,if_false,ite_true,ite_false,beq_self_eq_true,BEq.rfl,reduceCtorEq,eq_self,ne_eq,Function.comp_def,beq_iff_eq]
    exact hx (by simp only [c0 (by omega), c1 (by omega), c2 (by omega), c3 (by omega), c4 (by omega)]; rfl) _ _ hg
end Go.Proofs.Ytfndpnmdjblokaa
