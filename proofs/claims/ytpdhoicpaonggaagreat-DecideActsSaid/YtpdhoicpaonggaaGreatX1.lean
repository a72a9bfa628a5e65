/- Chapter 3: tests of cells and rectangles, a rectangle's cells; maps with numbers and cells for keys. Lists of entries: looked into, turned, made shorter. Chapter 3's reference: near, May, Last, Meet. Chapter 3: has a rectangle a cell, lies it within another; may a building be. Chapter 4: a world that is none; may a building be. Chapter 4: a world, where it lies; why a building may not be placed. Chapter 4: why a building may not be placed: whole. Chapter 4: lists of one's own that grow; a building is placed. Chapter 4: a building is placed: whole. Chapter 4: a world is asked. -/
import Derived.Test.YtpdhoicpaonggaaGreatKitE
set_option linter.unusedVariables false
set_option linter.unusedSimpArgs false
set_option maxRecDepth 10000
namespace Go.Proofs.YtpdhoicpaonggaaGreat
open Go Go.M Go.RowKit
attribute [local congr] acallF_cong aloop_cong bcase_cong resK_cong valK_cong wantK_cong callK_cong xputK_cong qputK_cong resM_cong rfK_cong
attribute [local irreducible] seqK blockK loopK nextK bcase resK valK wantK funK putK dputK xputK qputK callK aops aop acode adraw aloop acallF acall invK resM rfK rfEnd rdEnd rdMid around
section
variable {n m : Nat} {st : List Ob} {K : V → List Ob → Prop} {x y w h : Int}
def nearB (x : Int) : Bool := decide (x ≥ -1048576) && decide (x ≤ 1048576)
def sideB (x : Int) : Bool := decide (x ≥ 1) && decide (x ≤ 1048576)
theorem c_near (hK : K (.sc (.bool (nearB x))) st) : acallF Tryz.prog pl (n + 1) m 121 [.sc (.int .i64 x)] st K := by
  refine acallF_inF Tryz.func121 rfl rfl Tryz.ntmps121 (by simp) ?_
  unfold nearB at hK
  cases e1 : decide (x ≥ -1048576) <;> simp only [e1, Bool.false_and, Bool.true_and] at hK <;> simp only [e1, ↓zP,zV,Nat.reduceAdd,Nat.reduceMul,Nat.reduceLT,Nat.reduceEqDiff,Nat.reduceLeDiff,Int.reduceLE,Int.reduceLT,Int.reduceBNe,Int.reduceBEq,Int.reduceNeg,Int.reduceEq,Int.reduceAdd,Int.reduceGT,Int.reduceGE,reduceCtorEq] <;> exact hK
theorem c_side (hK : K (.sc (.bool (sideB x))) st) : acallF Tryz.prog pl (n + 1) m 94 [.sc (.int .i64 x)] st K := by
  refine acallF_inF Tryz.func94 rfl rfl Tryz.ntmps94 (by simp) ?_
  unfold sideB at hK
  cases e1 : decide (x ≥ 1) <;> simp only [e1, Bool.false_and, Bool.true_and] at hK <;> simp only [e1, ↓zP,zV,Nat.reduceAdd,Nat.reduceMul,Nat.reduceLT,Nat.reduceEqDiff,Nat.reduceLeDiff,Int.reduceLE,Int.reduceLT,Int.reduceBNe,Int.reduceBEq,Int.reduceNeg,Int.reduceEq,Int.reduceAdd,Int.reduceGT,Int.reduceGE,reduceCtorEq] <;> exact hK
def cl (x y : Int) : List V := [.sc (.int .i64 x), .sc (.int .i64 y)]
def rc (x y w h : Int) : List V := [.sc (.int .i64 x), .sc (.int .i64 y), .sc (.int .i64 w), .sc (.int .i64 h)]
theorem c_Near (hK : ∀ s, Grw st s → K (.sc (.bool (nearB x && nearB y))) s) : acallF Tryz.prog pl (n + 2) m 93 [.agg (cl x y)] st K := by
  refine acallF_inF Tryz.func93 rfl rfl Tryz.ntmps93 (by simp) ?_
  have g0 := Grw.push st [.cells (cl x y)]
  have x0 : (st ++ [Ob.cells (cl x y)])[st.length]? = some (.cells (cl x y)) := get_new0 _ _
  simp only [cl] at g0 x0
  simp only [cl, x0, ↓zP,zV,Nat.reduceAdd,Nat.reduceMul,Nat.reduceLT,Nat.reduceEqDiff,Nat.reduceLeDiff,Int.reduceLE,Int.reduceLT,Int.reduceBNe,Int.reduceBEq,Int.reduceNeg,Int.reduceEq,Int.reduceAdd,Int.reduceGT,Int.reduceGE,reduceCtorEq]
  refine c_near ?_
  cases e1 : nearB x
  · rw [e1] at hK
    simp only [x0, e1, ↓zP,zV,Nat.reduceAdd,Nat.reduceMul,Nat.reduceLT,Nat.reduceEqDiff,Nat.reduceLeDiff,Int.reduceLE,Int.reduceLT,Int.reduceBNe,Int.reduceBEq,Int.reduceNeg,Int.reduceEq,Int.reduceAdd,Int.reduceGT,Int.reduceGE,reduceCtorEq]
    exact hK _ g0
  · rw [e1] at hK
    simp only [x0, e1, ↓zP,zV,Nat.reduceAdd,Nat.reduceMul,Nat.reduceLT,Nat.reduceEqDiff,Nat.reduceLeDiff,Int.reduceLE,Int.reduceLT,Int.reduceBNe,Int.reduceBEq,Int.reduceNeg,Int.reduceEq,Int.reduceAdd,Int.reduceGT,Int.reduceGE,reduceCtorEq]
    refine c_near ?_
    simp only [Bool.true_and] at hK
    simp only [↓zP,zV,Nat.reduceAdd,Nat.reduceMul,Nat.reduceLT,Nat.reduceEqDiff,Nat.reduceLeDiff,Int.reduceLE,Int.reduceLT,Int.reduceBNe,Int.reduceBEq,Int.reduceNeg,Int.reduceEq,Int.reduceAdd,Int.reduceGT,Int.reduceGE,reduceCtorEq]
    exact hK _ g0
theorem c_last (h1 : nearB x = true) (h2 : nearB y = true) (h3 : sideB w = true) (h4 : sideB h = true) (hK : ∀ s, Grw st s → K (.agg (cl (x + w - 1) (y + h - 1))) s) : acallF Tryz.prog pl (n + 1) m 95 [.agg (rc x y w h)] st K := by
  refine acallF_inF Tryz.func95 rfl rfl Tryz.ntmps95 (by simp) ?_
  simp only [nearB, sideB, Bool.and_eq_true, decide_eq_true_eq] at h1 h2 h3 h4
  have e1 : IntKind.i64.wrap (x + w) = x + w := wi64 (by omega) (by omega)
  have e2 : IntKind.i64.wrap (y + h) = y + h := wi64 (by omega) (by omega)
  have e3 : IntKind.i64.wrap (x + w - 1) = x + w - 1 := wi64 (by omega) (by omega)
  have e4 : IntKind.i64.wrap (y + h - 1) = y + h - 1 := wi64 (by omega) (by omega)
  have g0 := Grw.push st [.cells (rc x y w h), .cells (cl (x + w - 1) (y + h - 1))]
  simp only [rc, cl] at g0
  simp only [rc, cl, e1, e2, e3, e4, ↓zP,zV,Nat.reduceAdd,Nat.reduceMul,Nat.reduceLT,Nat.reduceEqDiff,Nat.reduceLeDiff,Int.reduceLE,Int.reduceLT,Int.reduceBNe,Int.reduceBEq,Int.reduceNeg,Int.reduceEq,Int.reduceAdd,Int.reduceGT,Int.reduceGE,reduceCtorEq]
  exact hK _ g0
def mayB (x y w h : Int) : Bool := nearB x && nearB y && sideB w && sideB h && (nearB (x + w - 1) && nearB (y + h - 1))
theorem c_May (hK : ∀ s, Grw st s → K (.sc (.bool (mayB x y w h))) s) : acallF Tryz.prog pl (n + 3) m 49 [.agg (rc x y w h)] st K := by
  refine acallF_inF Tryz.func49 rfl rfl Tryz.ntmps49 (by simp) ?_
  have g0 := Grw.push st [.cells (rc x y w h)]
  have x0 : (st ++ [Ob.cells (rc x y w h)])[st.length]? = some (.cells (rc x y w h)) := get_new0 _ _
  unfold mayB at hK
  simp only [rc] at g0 x0
  simp only [rc, x0, ↓zP,zV,Nat.reduceAdd,Nat.reduceMul,Nat.reduceLT,Nat.reduceEqDiff,Nat.reduceLeDiff,Int.reduceLE,Int.reduceLT,Int.reduceBNe,Int.reduceBEq,Int.reduceNeg,Int.reduceEq,Int.reduceAdd,Int.reduceGT,Int.reduceGE,reduceCtorEq]
  refine c_Near fun s1 j1 => ?_
  have x1 := j1 _ _ x0
  have g1 := g0.trans j1
  cases e1 : nearB x && nearB y
  · simp only [e1, Bool.false_and] at hK
    simp only [x1, e1, ↓zP,zV,Nat.reduceAdd,Nat.reduceMul,Nat.reduceLT,Nat.reduceEqDiff,Nat.reduceLeDiff,Int.reduceLE,Int.reduceLT,Int.reduceBNe,Int.reduceBEq,Int.reduceNeg,Int.reduceEq,Int.reduceAdd,Int.reduceGT,Int.reduceGE,reduceCtorEq]
    exact hK _ g1
  simp only [x1, e1, ↓zP,zV,Nat.reduceAdd,Nat.reduceMul,Nat.reduceLT,Nat.reduceEqDiff,Nat.reduceLeDiff,Int.reduceLE,Int.reduceLT,Int.reduceBNe,Int.reduceBEq,Int.reduceNeg,Int.reduceEq,Int.reduceAdd,Int.reduceGT,Int.reduceGE,reduceCtorEq]
  refine c_side ?_
  cases e2 : sideB w
  · simp only [e1, e2, Bool.false_and, Bool.and_false] at hK
    simp only [x1, e2, ↓zP,zV,Nat.reduceAdd,Nat.reduceMul,Nat.reduceLT,Nat.reduceEqDiff,Nat.reduceLeDiff,Int.reduceLE,Int.reduceLT,Int.reduceBNe,Int.reduceBEq,Int.reduceNeg,Int.reduceEq,Int.reduceAdd,Int.reduceGT,Int.reduceGE,reduceCtorEq]
    exact hK _ g1
  simp only [x1, e2, ↓zP,zV,Nat.reduceAdd,Nat.reduceMul,Nat.reduceLT,Nat.reduceEqDiff,Nat.reduceLeDiff,Int.reduceLE,Int.reduceLT,Int.reduceBNe,Int.reduceBEq,Int.reduceNeg,Int.reduceEq,Int.reduceAdd,Int.reduceGT,Int.reduceGE,reduceCtorEq]
  refine c_side ?_
  cases e3 : sideB h
  · simp only [e1, e2, e3, Bool.false_and, Bool.and_false] at hK
    simp only [x1, e3, ↓zP,zV,Nat.reduceAdd,Nat.reduceMul,Nat.reduceLT,Nat.reduceEqDiff,Nat.reduceLeDiff,Int.reduceLE,Int.reduceLT,Int.reduceBNe,Int.reduceBEq,Int.reduceNeg,Int.reduceEq,Int.reduceAdd,Int.reduceGT,Int.reduceGE,reduceCtorEq]
    exact hK _ g1
  simp only [x1, e3, ↓zP,zV,Nat.reduceAdd,Nat.reduceMul,Nat.reduceLT,Nat.reduceEqDiff,Nat.reduceLeDiff,Int.reduceLE,Int.reduceLT,Int.reduceBNe,Int.reduceBEq,Int.reduceNeg,Int.reduceEq,Int.reduceAdd,Int.reduceGT,Int.reduceGE,reduceCtorEq]
  simp only [Bool.and_eq_true] at e1
  refine c_last e1.1 e1.2 e2 e3 fun s2 j2 => ?_
  have x2 := j2 _ _ x1
  simp only [x2, ↓zP,zV,Nat.reduceAdd,Nat.reduceMul,Nat.reduceLT,Nat.reduceEqDiff,Nat.reduceLeDiff,Int.reduceLE,Int.reduceLT,Int.reduceBNe,Int.reduceBEq,Int.reduceNeg,Int.reduceEq,Int.reduceAdd,Int.reduceGT,Int.reduceGE,reduceCtorEq]
  refine c_Near fun s3 j3 => ?_
  simp only [e1.1, e1.2, e2, e3, Bool.true_and] at hK
  simp only [↓zP,zV,Nat.reduceAdd,Nat.reduceMul,Nat.reduceLT,Nat.reduceEqDiff,Nat.reduceLeDiff,Int.reduceLE,Int.reduceLT,Int.reduceBNe,Int.reduceBEq,Int.reduceNeg,Int.reduceEq,Int.reduceAdd,Int.reduceGT,Int.reduceGE,reduceCtorEq]
  exact hK _ ((g1.trans j2).trans j3)
end
theorem set_new {st : List Ob} {o o' : Ob} : (st ++ [o]).set st.length o' = st ++ [o'] := by
  rw [List.set_append_right _ _ (Nat.le_refl _)]
  simp
theorem yl_fsz {n m N : Nat} {a : List V} {s : List Ob} {K : V → List Ob → Prop} (h : Tryz.prog.funcs.size = N) (q : acallF Tryz.prog pl n m Tryz.prog.funcs.size a s K) : acallF Tryz.prog pl n m N a s K := h ▸ q
theorem may_facts {x y w h : Int} (hm : mayB x y w h = true) : (-1048576 ≤ x ∧ x ≤ 1048576) ∧ (-1048576 ≤ y ∧ y ≤ 1048576) ∧ (1 ≤ w ∧ w ≤ 1048576) ∧ (1 ≤ h ∧ h ≤ 1048576) ∧ (x + w - 1 ≤ 1048576) ∧ (y + h - 1 ≤ 1048576) := by
  simp only [mayB, nearB, sideB, Bool.and_eq_true, decide_eq_true_eq] at hm
  omega
section
variable {n m : Nat} {st : List Ob} {K : V → List Ob → Prop} {x y : Int}
theorem c_Cells {w h : Int} (hK : K (.fn (.func 57) [.ref st.length 0]) (st ++ [.cells (rc x y w h)])) : acallF Tryz.prog pl (n + 1) m 23 [.agg (rc x y w h)] st K := by
  refine acallF_inF Tryz.func23 rfl rfl Tryz.ntmps23 (by simp) ?_
  simp only [rc] at hK
  simp only [rc, ↓zP,zV,Nat.reduceAdd,Nat.reduceMul,Nat.reduceLT,Nat.reduceEqDiff,Nat.reduceLeDiff,Int.reduceLE,Int.reduceLT,Int.reduceBNe,Int.reduceBEq,Int.reduceNeg,Int.reduceEq,Int.reduceAdd,Int.reduceGT,Int.reduceGE,reduceCtorEq]
  exact hK
set_option maxHeartbeats 2000000 in
theorem c_Cells1 {l rb W H : Nat} {I : Nat → List Ob → Prop} {J : List Ob → Prop} (hmay : mayB x y W H = true) (hm : W < m) (hm2 : H < m)
    (keep : ∀ k s, I k s → s[rb]? = some (.cells (rc x y W H))) (grow : ∀ k s s', I k s → Grw s s' → I k s') (h0 : I 0 st)
    (step : ∀ (j i : Nat) (s : List Ob) (K' : V → List Ob → Prop), j < H → i < W → I (j * W + i) s → (∀ s', I (j * W + i + 1) s' → K' (.sc (.bool true)) s') → (∀ s', J s' → K' (.sc (.bool false)) s') → acallF Tryz.prog pl (n + 3) m Tryz.prog.funcs.size [.yl l, .agg (cl (x + i) (y + j))] s K')
    (hend : ∀ s, I (H * W) s → K (.tup []) s) (hstop : ∀ s, J s → K (.tup []) s) : acallF Tryz.prog pl (n + 4) m 57 [.yl l, .ref rb 0] st K := by
  refine acallF_inF Tryz.func57 rfl rfl Tryz.ntmps57 (by simp) ?_
  have c0 := keep _ _ h0
  obtain ⟨fx, fy, fw, fh, fx2, fy2⟩ := may_facts hmay
  simp only [rc] at c0
  simp only [c0, ↓zP,zV,Nat.reduceAdd,Nat.reduceMul,Nat.reduceLT,Nat.reduceEqDiff,Nat.reduceLeDiff,Int.reduceLE,Int.reduceLT,Int.reduceBNe,Int.reduceBEq,Int.reduceNeg,Int.reduceEq,Int.reduceAdd,Int.reduceGT,Int.reduceGE,reduceCtorEq]
  refine c_May (n := n) fun s1 g1 => ?_
  have i1 := grow _ _ _ h0 g1
  have c1 := g1 _ _ c0
  simp only [hmay, c1, ↓zP,zV,Nat.reduceAdd,Nat.reduceMul,Nat.reduceLT,Nat.reduceEqDiff,Nat.reduceLeDiff,Int.reduceLE,Int.reduceLT,Int.reduceBNe,Int.reduceBEq,Int.reduceNeg,Int.reduceEq,Int.reduceAdd,Int.reduceGT,Int.reduceGE,reduceCtorEq]
  refine aloop_forF (fun k f s => ∃ j : Nat, k + j = m ∧ j ≤ H ∧ I (j * W) s ∧ f 0 = .yl l ∧ f 1 = .ref rb 0 ∧ f 9 = .sc (.int .i64 H) ∧ f 10 = .sc (.int .i64 j)) ⟨0, by omega, by omega, by simpa using i1, by simp only [zF,Nat.reduceEqDiff,Nat.reduceLT], by simp only [zF,Nat.reduceEqDiff,Nat.reduceLT], by simp only [zF,Nat.reduceEqDiff,Nat.reduceLT], by simp only [zF,Nat.reduceEqDiff,Nat.reduceLT]; rfl⟩ ?_
  rintro I' hI' k f s ⟨j, hk, hj, hI, f0, f1, f9, f10⟩
  refine ⟨k - 1, by omega, ?_⟩
  by_cases hjl : j < H
  · have d : decide ((j : Int) < H) = true := decide_eq_true (by omega)
    have c2 := keep _ _ hI
    simp only [rc] at c2
    simp only [f0, f1, f9, f10, c2, d, ↓zP,zV,Nat.reduceAdd,Nat.reduceMul,Nat.reduceLT,Nat.reduceEqDiff,Nat.reduceLeDiff,Int.reduceLE,Int.reduceLT,Int.reduceBNe,Int.reduceBEq,Int.reduceNeg,Int.reduceEq,Int.reduceAdd,Int.reduceGT,Int.reduceGE,reduceCtorEq]
    refine aloop_forF (fun k f s => ∃ i : Nat, k + i = m ∧ i ≤ W ∧ I (j * W + i) s ∧ f 0 = .yl l ∧ f 1 = .ref rb 0 ∧ f 3 = .sc (.int .i64 j) ∧ f 9 = .sc (.int .i64 H) ∧ f 10 = .sc (.int .i64 j) ∧ f 14 = .sc (.int .i64 W) ∧ f 15 = .sc (.int .i64 i)) ⟨0, by omega, by omega, by simpa using hI, by simp only [f0, zF,Nat.reduceEqDiff,Nat.reduceLT], by simp only [f1, zF,Nat.reduceEqDiff,Nat.reduceLT], by simp only [zF,Nat.reduceEqDiff,Nat.reduceLT], by simp only [f9, zF,Nat.reduceEqDiff,Nat.reduceLT], by simp only [f10, zF,Nat.reduceEqDiff,Nat.reduceLT], by simp only [zF,Nat.reduceEqDiff,Nat.reduceLT], by simp only [zF,Nat.reduceEqDiff,Nat.reduceLT]; rfl⟩ ?_
    rintro I2 hI2 k2 f s ⟨i, hk2, hi, hIi, f0, f1, f3, f9, f10, f14, f15⟩
    refine ⟨k2 - 1, by omega, ?_⟩
    by_cases hil : i < W
    · have d2 : decide ((i : Int) < W) = true := decide_eq_true (by omega)
      have c3 := keep _ _ hIi
      simp only [rc] at c3
      have e1 : IntKind.i64.wrap (x + i) = x + i := wi64 (by omega) (by omega)
      have e2 : IntKind.i64.wrap (y + j) = y + j := wi64 (by omega) (by omega)
      have e3 : IntKind.i64.wrap ((i : Int) + 1) = ((i + 1 : Nat) : Int) := by rw [IntWalk.i64_in _ (by omega)]; rfl
      simp only [f0, f1, f3, f9, f10, f14, f15, c3, d2, e1, e2, ↓zP,zV,Nat.reduceAdd,Nat.reduceMul,Nat.reduceLT,Nat.reduceEqDiff,Nat.reduceLeDiff,Int.reduceLE,Int.reduceLT,Int.reduceBNe,Int.reduceBEq,Int.reduceNeg,Int.reduceEq,Int.reduceAdd,Int.reduceGT,Int.reduceGE,reduceCtorEq]
      refine yl_fsz fsz (step j i s _ hjl hil hIi (fun s' h' => ?_) fun s' h' => ?_)
      · simp only [f0, f1, f3, f9, f10, f14, f15, e3, ↓zP,zV,Nat.reduceAdd,Nat.reduceMul,Nat.reduceLT,Nat.reduceEqDiff,Nat.reduceLeDiff,Int.reduceLE,Int.reduceLT,Int.reduceBNe,Int.reduceBEq,Int.reduceNeg,Int.reduceEq,Int.reduceAdd,Int.reduceGT,Int.reduceGE,reduceCtorEq]
        exact hI2 _ _ _ ⟨i + 1, by omega, hil, h', by simp only [f0, zF,Nat.reduceEqDiff,Nat.reduceLT], by simp only [f1, zF,Nat.reduceEqDiff,Nat.reduceLT], by simp only [f3, zF,Nat.reduceEqDiff,Nat.reduceLT], by simp only [f9, zF,Nat.reduceEqDiff,Nat.reduceLT], by simp only [f10, zF,Nat.reduceEqDiff,Nat.reduceLT], by simp only [f14, zF,Nat.reduceEqDiff,Nat.reduceLT], by simp only [zF,Nat.reduceEqDiff,Nat.reduceLT]⟩
      · simp only [↓zP,zV,Nat.reduceAdd,Nat.reduceMul,Nat.reduceLT,Nat.reduceEqDiff,Nat.reduceLeDiff,Int.reduceLE,Int.reduceLT,Int.reduceBNe,Int.reduceBEq,Int.reduceNeg,Int.reduceEq,Int.reduceAdd,Int.reduceGT,Int.reduceGE,reduceCtorEq]
        exact hstop _ h'
    · have d2 : decide ((i : Int) < W) = false := decide_eq_false (by omega)
      obtain rfl : i = W := by omega
      have e3 : IntKind.i64.wrap ((j : Int) + 1) = ((j + 1 : Nat) : Int) := by rw [IntWalk.i64_in _ (by omega)]; rfl
      simp only [f0, f1, f3, f9, f10, f14, f15, d2, e3, ↓zP,zV,Nat.reduceAdd,Nat.reduceMul,Nat.reduceLT,Nat.reduceEqDiff,Nat.reduceLeDiff,Int.reduceLE,Int.reduceLT,Int.reduceBNe,Int.reduceBEq,Int.reduceNeg,Int.reduceEq,Int.reduceAdd,Int.reduceGT,Int.reduceGE,reduceCtorEq]
      exact hI' _ _ _ ⟨j + 1, by omega, hjl, by rw [Nat.succ_mul]; exact hIi, by simp only [f0, zF,Nat.reduceEqDiff,Nat.reduceLT], by simp only [f1, zF,Nat.reduceEqDiff,Nat.reduceLT], by simp only [f9, zF,Nat.reduceEqDiff,Nat.reduceLT], by simp only [zF,Nat.reduceEqDiff,Nat.reduceLT]⟩
  · have d : decide ((j : Int) < H) = false := decide_eq_false (by omega)
    obtain rfl : j = H := by omega
    simp only [f0, f1, f9, f10, d, ↓zP,zV,Nat.reduceAdd,Nat.reduceMul,Nat.reduceLT,Nat.reduceEqDiff,Nat.reduceLeDiff,Int.reduceLE,Int.reduceLT,Int.reduceBNe,Int.reduceBEq,Int.reduceNeg,Int.reduceEq,Int.reduceAdd,Int.reduceGT,Int.reduceGE,reduceCtorEq]
    exact hend _ hI
end
section
variable {P : Program} {kt e : TypeId}
def atI {α : Type} (i : Int) : List (Int × α) → Option Nat
  | [] => none
  | x :: l => if i == x.1 then some 0 else (atI i l).map (· + 1)
theorem findNow_int (i : Int) : ∀ (l : List (Int × V)) (j : Nat), Instr.findNow (.int .i64) (.int .i64 i) (keysOf (l.map fun x => (Value.int .i64 x.1, x.2))) j = some ((atI i l).map fun q => (q + j, .bool false))
  | [], j => rfl
  | x :: l, j => by
    simp only [List.map_cons, keysOf, Instr.findNow, Instr.sameNow, atI, if_true]
    have ih := findNow_int i l (j + 1)
    simp only [keysOf] at ih
    cases h : (i == x.1)
    · simp only [Bool.false_eq_true, if_false]
      rw [ih]
      cases atI i l with
      | none => rfl
      | some q => simp only [Option.map_some]; congr 3; omega
    · simp
theorem afind_int (hk : P.underlying kt = some (.int .i64)) (i : Int) (l : List (Int × V)) : afind P kt (.int .i64 i) (l.map fun x => (Value.int .i64 x.1, x.2)) = some (atI i l) := by
  unfold afind Instr.findKey
  rw [pr_bd, pureRun_underlying hk, Option.bind_some, findNow_int]
  cases h : atI i l with
  | none => rfl
  | some q => rfl
theorem akey_int (hk : P.underlying kt = some (.int .i64)) (b : Bool) (i : Int) : akey P b kt (.int .i64 i) = some () := by
  unfold akey
  show pureRun P (Instr.checkKey b (9999 + 1) kt (.int .i64 i)) = _
  rw [Instr.checkKey, pr_bd, pureRun_underlying hk, Option.bind_some]
  rfl
end
def atC {α : Type} (c : Int × Int) : List ((Int × Int) × α) → Option Nat
  | [] => none
  | x :: l => if c.1 == x.1.1 && c.2 == x.1.2 then some 0 else (atC c l).map (· + 1)
def kc (c : Int × Int) : Value := .agg #[.int .i64 c.1, .int .i64 c.2]
theorem findAsking_cell (c : Int × Int) : ∀ (l : List ((Int × Int) × V)) (j : Nat), pureRun Tryz.prog (Instr.findAsking 31 (kc c) (keysOf (l.map fun x => (kc x.1, x.2))) j) = some ((atC c l).map fun q => (q + j, .bool false))
  | [], j => rfl
  | x :: l, j => by
    simp only [List.map_cons, keysOf, Instr.findAsking, atC]
    rw [pr_bd]
    have e : pureRun Tryz.prog (Op.equal 31 (kc c) (kc x.1)) = some (c.1 == x.1.1 && c.2 == x.1.2) := pr_eq2 Tryz.underlying31 (by kernel_rfl) (by decide) (by decide) rfl rfl Tryz.underlying3 Tryz.underlying3 c.1 c.2 x.1.1 x.1.2
    rw [e, Option.bind_some]
    have ih := findAsking_cell c l (j + 1)
    simp only [keysOf] at ih
    cases h : (c.1 == x.1.1 && c.2 == x.1.2)
    · simp only [Bool.false_eq_true, if_false]
      rw [ih]
      cases atC c l with
      | none => rfl
      | some q => simp only [Option.map_some]; congr 3; omega
    · simp [pureRun_pure]
theorem findNow_cell {fs : Array Field} (c : Int × Int) : ∀ (l : List MapEntry) (j : Nat), l ≠ [] → Instr.findNow (.struct fs) (kc c) l j = none := by
  intro l j hl
  cases l with
  | nil => exact absurd rfl hl
  | cons a l => rfl
theorem afind_cell (c : Int × Int) (l : List ((Int × Int) × V)) : afind Tryz.prog 31 (kc c) (l.map fun x => (kc x.1, x.2)) = some (atC c l) := by
  unfold afind Instr.findKey
  rw [pr_bd, pureRun_underlying Tryz.underlying31, Option.bind_some]
  cases l with
  | nil => rfl
  | cons x l =>
    rw [findNow_cell c (keysOf ((x :: l).map fun x => (kc x.1, x.2))) 0 (by simp [keysOf])]
    simp only
    rw [findAsking_cell c (x :: l) 0]
    cases atC c (x :: l) <;> rfl
theorem akey_cell (b : Bool) (c : Int × Int) : akey Tryz.prog b 31 (kc c) = some () := by kernel_rfl
def esI (l : List (Int × V)) : List (Value × V) := l.map fun x => (Value.int .i64 x.1, x.2)
def esC (l : List ((Int × Int) × V)) : List (Value × V) := l.map fun x => (kc x.1, x.2)
def getI (i : Int) (l : List (Int × V)) : Option V := (atI i l).bind fun q => (l[q]?).map (·.2)
def getC (c : Int × Int) (l : List ((Int × Int) × V)) : Option V := (atC c l).bind fun q => (l[q]?).map (·.2)
def putI (i : Int) (v : V) (l : List (Int × V)) : List (Int × V) := match atI i l with
  | some q => l.set q (i, v)
  | none => l ++ [(i, v)]
def putC (c : Int × Int) (v : V) (l : List ((Int × Int) × V)) : List ((Int × Int) × V) := match atC c l with
  | some q => l.set q (c, v)
  | none => l ++ [(c, v)]
theorem atI_spec {α : Type} {i : Int} : ∀ {l : List (Int × α)} {q : Nat}, atI i l = some q → ∃ x, l[q]? = some (i, x)
  | [], q, h => by simp [atI] at h
  | x :: l, q, h => by
    unfold atI at h
    split at h
    · rename_i hx
      simp only [Option.some.injEq] at h
      subst h
      have hx : i = x.1 := by simpa using hx
      exact ⟨x.2, by rw [hx]; rfl⟩
    · obtain ⟨r, hr, rfl⟩ := Option.map_eq_some_iff.1 h
      obtain ⟨y, hy⟩ := atI_spec hr
      exact ⟨y, by simpa using hy⟩
theorem atC_spec {α : Type} {c : Int × Int} : ∀ {l : List ((Int × Int) × α)} {q : Nat}, atC c l = some q → ∃ x, l[q]? = some (c, x)
  | [], q, h => by simp [atC] at h
  | x :: l, q, h => by
    unfold atC at h
    split at h
    · rename_i hx
      simp only [Option.some.injEq] at h
      subst h
      have hx : c = x.1 := by
        simp only [Bool.and_eq_true, beq_iff_eq] at hx
        exact Prod.ext hx.1 hx.2
      exact ⟨x.2, by rw [hx]; rfl⟩
    · obtain ⟨r, hr, rfl⟩ := Option.map_eq_some_iff.1 h
      obtain ⟨y, hy⟩ := atC_spec hr
      exact ⟨y, by simpa using hy⟩
theorem same_int (i : Int) : Instr.sameBits 10000 (.int .i64 i) (.int .i64 i) = true := by
  show Instr.sameBits (9999 + 1) _ _ = true
  simp [Instr.sameBits]
theorem same_cell (c : Int × Int) : Instr.sameBits 10000 (kc c) (kc c) = true := by
  show Instr.sameBits (9998 + 1 + 1) _ _ = true
  simp [Instr.sameBits, kc]
section
variable {st : List Ob} {a : Nat} {t e : TypeId}
theorem lk_int {l : List (Int × V)} {z : V} (ht : Tryz.prog.underlying t = some (.map 3 e)) (hz : azero Tryz.prog e = some z) (h : st[a]? = some (.map (esI l))) (i : Int) :
    alookup Tryz.prog st t (.map a) (.sc (.int .i64 i)) true = some (match getI i l with | some v => .tup [v, .sc (.bool true)] | none => .tup [z, .sc (.bool false)]) := by
  unfold alookup
  simp only [ht, toVal, h, akey_int Tryz.underlying3, esI, afind_int Tryz.underlying3]
  unfold getI
  cases hq : atI i l with
  | none => simp [hz]
  | some q =>
    obtain ⟨x, hx⟩ := atI_spec hq
    simp [hx]
theorem lk_cell {l : List ((Int × Int) × V)} {z : V} (ht : Tryz.prog.underlying t = some (.map 31 e)) (hz : azero Tryz.prog e = some z) (h : st[a]? = some (.map (esC l))) (x y : Int) :
    alookup Tryz.prog st t (.map a) (.agg [.sc (.int .i64 x), .sc (.int .i64 y)]) true = some (match getC (x, y) l with | some v => .tup [v, .sc (.bool true)] | none => .tup [z, .sc (.bool false)]) := by
  unfold alookup
  have hk : toVal (.agg [.sc (.int .i64 x), .sc (.int .i64 y)]) = some (kc (x, y)) := rfl
  simp only [ht, hk, h, akey_cell, esC, afind_cell]
  unfold getC
  cases hq : atC (x, y) l with
  | none => simp [hz]
  | some q =>
    obtain ⟨x, hx⟩ := atC_spec hq
    simp [hx]
theorem up_int {l : List (Int × V)} {v : V} (ht : Tryz.prog.underlying t = some (.map 3 e)) (hv : held v = true) (h : st[a]? = some (.map (esI l))) (i : Int) :
    aupdate Tryz.prog st t (.map a) (.sc (.int .i64 i)) v = some (st.set a (.map (esI (putI i v l)))) := by
  unfold aupdate
  simp only [ht, toVal, h, hv, if_true, akey_int Tryz.underlying3, esI, afind_int Tryz.underlying3]
  unfold putI
  cases hq : atI i l with
  | none => simp
  | some q =>
    obtain ⟨x, hx⟩ := atI_spec hq
    simp [hx, same_int, List.map_set]
theorem up_cell {l : List ((Int × Int) × V)} {v : V} (ht : Tryz.prog.underlying t = some (.map 31 e)) (hv : held v = true) (h : st[a]? = some (.map (esC l))) (x y : Int) :
    aupdate Tryz.prog st t (.map a) (.agg [.sc (.int .i64 x), .sc (.int .i64 y)]) v = some (st.set a (.map (esC (putC (x, y) v l)))) := by
  unfold aupdate
  have hk : toVal (.agg [.sc (.int .i64 x), .sc (.int .i64 y)]) = some (kc (x, y)) := rfl
  simp only [ht, hk, h, hv, if_true, akey_cell, esC, afind_cell]
  unfold putC
  cases hq : atC (x, y) l with
  | none => simp
  | some q =>
    obtain ⟨x, hx⟩ := atC_spec hq
    simp [hx, same_cell, List.map_set]
end
def frf : Code → Option (Array Tmp × Code × Code)
  | .rangeFunc _ ps a b => some (ps, a, b)
  | .seq a b => match frf a with
    | some c => some c
    | none => frf b
  | .cond _ a b => match frf a with
    | some c => some c
    | none => frf b
  | .block _ b => frf b
  | .loop b => frf b
  | _ => none
theorem aputs_one {n p : Nat} {f : Nat → V} {v : V} (h : p < n) : aputs (ofF n f) [p] [v] = ofF n (fu f p v) := by
  show aput (ofF n f) (some p) v = _
  exact aput_ofF h
def fillC (v : V) (x y : Int) (W : Nat) (os : List ((Int × Int) × V)) : Nat → List ((Int × Int) × V)
  | 0 => os
  | k + 1 => putC (x + (k % W : Nat), y + (k / W : Nat)) v (fillC v x y W os k)
def Kp (a b : Nat) (s s' : List Ob) : Prop := ∀ j o, j ≠ a → j ≠ b → s[j]? = some o → s'[j]? = some o
theorem atI_cons {α : Type} (i : Int) (k : Int) (u : α) (l : List (Int × α)) : atI i ((k, u) :: l) = if i == k then some 0 else (atI i l).map (· + 1) := rfl
theorem getI_nil (i : Int) : getI i [] = none := rfl
theorem getI_cons (i k : Int) (u : V) (l : List (Int × V)) : getI i ((k, u) :: l) = if i == k then some u else getI i l := by
  unfold getI
  rw [atI_cons]
  by_cases h : (i == k) = true
  · rw [if_pos h, if_pos h]; rfl
  · rw [if_neg h, if_neg h]; cases atI i l <;> rfl
theorem putI_nil (i : Int) (v : V) : putI i v [] = [(i, v)] := rfl
theorem putI_cons (i k : Int) (v u : V) (l : List (Int × V)) : putI i v ((k, u) :: l) = if i == k then (i, v) :: l else (k, u) :: putI i v l := by
  unfold putI
  rw [atI_cons]
  by_cases h : (i == k) = true
  · rw [if_pos h, if_pos h]; rfl
  · rw [if_neg h, if_neg h]; cases atI i l <;> rfl
def delI (i : Int) (l : List (Int × V)) : List (Int × V) := match atI i l with
  | some q => l.eraseIdx q
  | none => l
theorem delI_nil (i : Int) : delI i [] = [] := rfl
theorem delI_cons (i k : Int) (u : V) (l : List (Int × V)) : delI i ((k, u) :: l) = if i == k then l else (k, u) :: delI i l := by
  unfold delI
  rw [atI_cons]
  by_cases h : (i == k) = true
  · rw [if_pos h, if_pos h]; rfl
  · rw [if_neg h, if_neg h]; cases atI i l <;> rfl
theorem tstI (i k : Int) : (i == k) = true ↔ i = k := by simp
theorem getI_putI (j i : Int) (v : V) : ∀ l : List (Int × V), getI j (putI i v l) = if j == i then some v else getI j l
  | [] => by rw [putI_nil, getI_cons, getI_nil]
  | (k, u) :: l => by
    rw [putI_cons, getI_cons]
    by_cases h : (i == k) = true
    · rw [if_pos h, getI_cons]
      have := (tstI i k).1 h
      subst this
      split <;> rfl
    · rw [if_neg h, getI_cons, getI_putI j i v l]
      by_cases h1 : (j == k) = true
      · rw [if_pos h1, if_pos h1]
        have := (tstI j k).1 h1
        subst this
        rw [if_neg (fun hh => h ((tstI _ _).2 ((tstI _ _).1 hh).symm))]
      · rw [if_neg h1, if_neg h1]
theorem putI_len (i : Int) (v : V) : ∀ l : List (Int × V), (putI i v l).length = if (getI i l).isSome = true then l.length else l.length + 1
  | [] => rfl
  | (k, u) :: l => by
    rw [putI_cons, getI_cons]
    by_cases h : (i == k) = true
    · simp only [h, if_true, Option.isSome_some, List.length_cons]
    · simp only [h, if_false, Bool.false_eq_true, List.length_cons, putI_len i v l]
      split <;> rfl
def ndI (l : List (Int × V)) : Prop := (l.map (·.1)).Nodup
theorem getI_none {i : Int} : ∀ {l : List (Int × V)}, getI i l = none ↔ i ∉ l.map (·.1)
  | [] => by simp [getI_nil]
  | (k, u) :: l => by
    rw [getI_cons]
    by_cases h : (i == k) = true
    · have := (tstI i k).1 h
      subst this
      simp [h]
    · rw [if_neg h, getI_none (l := l)]
      have : i ≠ k := fun hh => h ((tstI _ _).2 hh)
      simp [this]
theorem ndI_putI (i : Int) (v : V) : ∀ {l : List (Int × V)}, ndI l → ndI (putI i v l)
  | [], _ => by simp [ndI, putI_nil]
  | (k, u) :: l, h => by
    rw [putI_cons]
    unfold ndI at h
    rw [List.map_cons, List.nodup_cons] at h
    by_cases hh : (i == k) = true
    · rw [if_pos hh]
      have := (tstI i k).1 hh
      subst this
      unfold ndI
      rw [List.map_cons, List.nodup_cons]
      exact h
    · rw [if_neg hh]
      unfold ndI
      rw [List.map_cons, List.nodup_cons]
      refine ⟨?_, ndI_putI i v h.2⟩
      rw [← getI_none (i := k), getI_putI, if_neg (fun h2 => hh ((tstI _ _).2 ((tstI _ _).1 h2).symm))]
      exact getI_none.2 h.1
theorem getI_delI (j i : Int) : ∀ {l : List (Int × V)}, ndI l → getI j (delI i l) = if j == i then none else getI j l
  | [], _ => by rw [delI_nil, getI_nil]; split <;> rfl
  | (k, u) :: l, h => by
    rw [delI_cons, getI_cons]
    unfold ndI at h
    rw [List.map_cons, List.nodup_cons] at h
    by_cases hh : (i == k) = true
    · have := (tstI i k).1 hh
      subst this
      rw [if_pos hh]
      split
      · rename_i h2
        have := (tstI _ _).1 h2
        subst this
        exact getI_none.2 h.1
      · rfl
    · rw [if_neg hh, getI_cons, getI_delI j i h.2]
      by_cases h1 : (j == k) = true
      · rw [if_pos h1, if_pos h1]
        have := (tstI j k).1 h1
        subst this
        rw [if_neg (fun h2 => hh ((tstI _ _).2 ((tstI _ _).1 h2).symm))]
      · rw [if_neg h1, if_neg h1]
theorem ndI_delI (i : Int) : ∀ {l : List (Int × V)}, ndI l → ndI (delI i l)
  | [], h => h
  | (k, u) :: l, h => by
    rw [delI_cons]
    have h0 := h
    unfold ndI at h
    rw [List.map_cons, List.nodup_cons] at h
    by_cases hh : (i == k) = true
    · rw [if_pos hh]; exact h.2
    · rw [if_neg hh]
      unfold ndI
      rw [List.map_cons, List.nodup_cons]
      refine ⟨?_, ndI_delI i h.2⟩
      rw [← getI_none (i := k), getI_delI _ _ h.2]
      split
      · rfl
      · exact getI_none.2 h.1
theorem delI_len (i : Int) : ∀ {l : List (Int × V)}, (getI i l).isSome = true → (delI i l).length + 1 = l.length
  | [], h => by simp [getI_nil] at h
  | (k, u) :: l, h => by
    rw [delI_cons]
    rw [getI_cons] at h
    by_cases hh : (i == k) = true
    · simp only [hh, if_true, List.length_cons]
    · simp only [hh, if_false, Bool.false_eq_true] at h ⊢
      rw [List.length_cons, List.length_cons, delI_len i h]
theorem atC_cons {α : Type} (i : (Int × Int)) (k : (Int × Int)) (u : α) (l : List ((Int × Int) × α)) : atC i ((k, u) :: l) = if i.1 == k.1 && i.2 == k.2 then some 0 else (atC i l).map (· + 1) := rfl
theorem getC_nil (i : (Int × Int)) : getC i [] = none := rfl
theorem getC_cons (i k : (Int × Int)) (u : V) (l : List ((Int × Int) × V)) : getC i ((k, u) :: l) = if i.1 == k.1 && i.2 == k.2 then some u else getC i l := by
  unfold getC
  rw [atC_cons]
  by_cases h : (i.1 == k.1 && i.2 == k.2) = true
  · rw [if_pos h, if_pos h]; rfl
  · rw [if_neg h, if_neg h]; cases atC i l <;> rfl
theorem putC_nil (i : (Int × Int)) (v : V) : putC i v [] = [(i, v)] := rfl
theorem putC_cons (i k : (Int × Int)) (v u : V) (l : List ((Int × Int) × V)) : putC i v ((k, u) :: l) = if i.1 == k.1 && i.2 == k.2 then (i, v) :: l else (k, u) :: putC i v l := by
  unfold putC
  rw [atC_cons]
  by_cases h : (i.1 == k.1 && i.2 == k.2) = true
  · rw [if_pos h, if_pos h]; rfl
  · rw [if_neg h, if_neg h]; cases atC i l <;> rfl
def delC (i : (Int × Int)) (l : List ((Int × Int) × V)) : List ((Int × Int) × V) := match atC i l with
  | some q => l.eraseIdx q
  | none => l
theorem delC_nil (i : (Int × Int)) : delC i [] = [] := rfl
theorem delC_cons (i k : (Int × Int)) (u : V) (l : List ((Int × Int) × V)) : delC i ((k, u) :: l) = if i.1 == k.1 && i.2 == k.2 then l else (k, u) :: delC i l := by
  unfold delC
  rw [atC_cons]
  by_cases h : (i.1 == k.1 && i.2 == k.2) = true
  · rw [if_pos h, if_pos h]; rfl
  · rw [if_neg h, if_neg h]; cases atC i l <;> rfl
theorem tstC (i k : (Int × Int)) : (i.1 == k.1 && i.2 == k.2) = true ↔ i = k := by simp only [Bool.and_eq_true, beq_iff_eq]; exact ⟨fun h => Prod.ext h.1 h.2, fun h => by rw [h]; exact ⟨rfl, rfl⟩⟩
theorem getC_putC (j i : (Int × Int)) (v : V) : ∀ l : List ((Int × Int) × V), getC j (putC i v l) = if j.1 == i.1 && j.2 == i.2 then some v else getC j l
  | [] => by rw [putC_nil, getC_cons, getC_nil]
  | (k, u) :: l => by
    rw [putC_cons, getC_cons]
    by_cases h : (i.1 == k.1 && i.2 == k.2) = true
    · rw [if_pos h, getC_cons]
      have := (tstC i k).1 h
      subst this
      split <;> rfl
    · rw [if_neg h, getC_cons, getC_putC j i v l]
      by_cases h1 : (j.1 == k.1 && j.2 == k.2) = true
      · rw [if_pos h1, if_pos h1]
        have := (tstC j k).1 h1
        subst this
        rw [if_neg (fun hh => h ((tstC _ _).2 ((tstC _ _).1 hh).symm))]
      · rw [if_neg h1, if_neg h1]
def ndC (l : List ((Int × Int) × V)) : Prop := (l.map (·.1)).Nodup
theorem getC_none {i : (Int × Int)} : ∀ {l : List ((Int × Int) × V)}, getC i l = none ↔ i ∉ l.map (·.1)
  | [] => by simp [getC_nil]
  | (k, u) :: l => by
    rw [getC_cons]
    by_cases h : (i.1 == k.1 && i.2 == k.2) = true
    · have := (tstC i k).1 h
      subst this
      simp [h]
    · rw [if_neg h, getC_none (l := l)]
      have : i ≠ k := fun hh => h ((tstC _ _).2 hh)
      simp [this]
theorem ndC_putC (i : (Int × Int)) (v : V) : ∀ {l : List ((Int × Int) × V)}, ndC l → ndC (putC i v l)
  | [], _ => by simp [ndC, putC_nil]
  | (k, u) :: l, h => by
    rw [putC_cons]
    unfold ndC at h
    rw [List.map_cons, List.nodup_cons] at h
    by_cases hh : (i.1 == k.1 && i.2 == k.2) = true
    · rw [if_pos hh]
      have := (tstC i k).1 hh
      subst this
      unfold ndC
      rw [List.map_cons, List.nodup_cons]
      exact h
    · rw [if_neg hh]
      unfold ndC
      rw [List.map_cons, List.nodup_cons]
      refine ⟨?_, ndC_putC i v h.2⟩
      rw [← getC_none (i := k), getC_putC, if_neg (fun h2 => hh ((tstC _ _).2 ((tstC _ _).1 h2).symm))]
      exact getC_none.2 h.1
theorem getC_delC (j i : (Int × Int)) : ∀ {l : List ((Int × Int) × V)}, ndC l → getC j (delC i l) = if j.1 == i.1 && j.2 == i.2 then none else getC j l
  | [], _ => by rw [delC_nil, getC_nil]; split <;> rfl
  | (k, u) :: l, h => by
    rw [delC_cons, getC_cons]
    unfold ndC at h
    rw [List.map_cons, List.nodup_cons] at h
    by_cases hh : (i.1 == k.1 && i.2 == k.2) = true
    · have := (tstC i k).1 hh
      subst this
      rw [if_pos hh]
      split
      · rename_i h2
        have := (tstC _ _).1 h2
        subst this
        exact getC_none.2 h.1
      · rfl
    · rw [if_neg hh, getC_cons, getC_delC j i h.2]
      by_cases h1 : (j.1 == k.1 && j.2 == k.2) = true
      · rw [if_pos h1, if_pos h1]
        have := (tstC j k).1 h1
        subst this
        rw [if_neg (fun h2 => hh ((tstC _ _).2 ((tstC _ _).1 h2).symm))]
      · rw [if_neg h1, if_neg h1]
theorem ndC_delC (i : (Int × Int)) : ∀ {l : List ((Int × Int) × V)}, ndC l → ndC (delC i l)
  | [], h => h
  | (k, u) :: l, h => by
    rw [delC_cons]
    have h0 := h
    unfold ndC at h
    rw [List.map_cons, List.nodup_cons] at h
    by_cases hh : (i.1 == k.1 && i.2 == k.2) = true
    · rw [if_pos hh]; exact h.2
    · rw [if_neg hh]
      unfold ndC
      rw [List.map_cons, List.nodup_cons]
      refine ⟨?_, ndC_delC i h.2⟩
      rw [← getC_none (i := k), getC_delC _ _ h.2]
      split
      · rfl
      · exact getC_none.2 h.1
section
variable {n m : Nat} {st : List Ob} {K : V → List Ob → Prop} {x y w h x2 y2 w2 h2 : Int}
theorem r_near (hK : K (.sc (.bool (nearB x))) st) : acallF Tryz.prog pl (n + 1) m 123 [.sc (.int .i64 x)] st K := by
  refine acallF_inF Tryz.func123 rfl rfl Tryz.ntmps123 (by simp) ?_
  unfold nearB at hK
  cases e1 : decide (x ≥ -1048576) <;> simp only [e1, Bool.false_and, Bool.true_and] at hK <;> simp only [e1, ↓zP,zV,Nat.reduceAdd,Nat.reduceMul,Nat.reduceLT,Nat.reduceEqDiff,Nat.reduceLeDiff,Int.reduceLE,Int.reduceLT,Int.reduceBNe,Int.reduceBEq,Int.reduceNeg,Int.reduceEq,Int.reduceAdd,Int.reduceGT,Int.reduceGE,reduceCtorEq] <;> exact hK
theorem r_Near (hK : ∀ s, Grw st s → K (.sc (.bool (nearB x && nearB y))) s) : acallF Tryz.prog pl (n + 2) m 97 [.agg (cl x y)] st K := by
  refine acallF_inF Tryz.func97 rfl rfl Tryz.ntmps97 (by simp) ?_
  have g0 := Grw.push st [.cells (cl x y)]
  have x0 : (st ++ [Ob.cells (cl x y)])[st.length]? = some (.cells (cl x y)) := get_new0 _ _
  simp only [cl] at g0 x0
  simp only [cl, x0, ↓zP,zV,Nat.reduceAdd,Nat.reduceMul,Nat.reduceLT,Nat.reduceEqDiff,Nat.reduceLeDiff,Int.reduceLE,Int.reduceLT,Int.reduceBNe,Int.reduceBEq,Int.reduceNeg,Int.reduceEq,Int.reduceAdd,Int.reduceGT,Int.reduceGE,reduceCtorEq]
  refine r_near ?_
  cases e1 : nearB x
  · rw [e1] at hK
    simp only [x0, e1, ↓zP,zV,Nat.reduceAdd,Nat.reduceMul,Nat.reduceLT,Nat.reduceEqDiff,Nat.reduceLeDiff,Int.reduceLE,Int.reduceLT,Int.reduceBNe,Int.reduceBEq,Int.reduceNeg,Int.reduceEq,Int.reduceAdd,Int.reduceGT,Int.reduceGE,reduceCtorEq]
    exact hK _ g0
  · rw [e1] at hK
    simp only [x0, e1, ↓zP,zV,Nat.reduceAdd,Nat.reduceMul,Nat.reduceLT,Nat.reduceEqDiff,Nat.reduceLeDiff,Int.reduceLE,Int.reduceLT,Int.reduceBNe,Int.reduceBEq,Int.reduceNeg,Int.reduceEq,Int.reduceAdd,Int.reduceGT,Int.reduceGE,reduceCtorEq]
    refine r_near ?_
    simp only [x0, e1, ↓zP,zV,Nat.reduceAdd,Nat.reduceMul,Nat.reduceLT,Nat.reduceEqDiff,Nat.reduceLeDiff,Int.reduceLE,Int.reduceLT,Int.reduceBNe,Int.reduceBEq,Int.reduceNeg,Int.reduceEq,Int.reduceAdd,Int.reduceGT,Int.reduceGE,reduceCtorEq]
    simp only [Bool.true_and] at hK
    exact hK _ g0
theorem r_Last (h1 : nearB x = true) (h2 : nearB y = true) (h3 : sideB w = true) (h4 : sideB h = true) (hK : ∀ s, Grw st s → K (.agg (cl (x + w - 1) (y + h - 1))) s) : acallF Tryz.prog pl (n + 1) m 98 [.agg (rc x y w h)] st K := by
  refine acallF_inF Tryz.func98 rfl rfl Tryz.ntmps98 (by simp) ?_
  simp only [nearB, sideB, Bool.and_eq_true, decide_eq_true_eq] at h1 h2 h3 h4
  have e1 : IntKind.i64.wrap (x + w) = x + w := wi64 (by omega) (by omega)
  have e2 : IntKind.i64.wrap (y + h) = y + h := wi64 (by omega) (by omega)
  have e3 : IntKind.i64.wrap (x + w - 1) = x + w - 1 := wi64 (by omega) (by omega)
  have e4 : IntKind.i64.wrap (y + h - 1) = y + h - 1 := wi64 (by omega) (by omega)
  have g0 := Grw.push st [.cells (rc x y w h), .cells (cl (x + w - 1) (y + h - 1))]
  simp only [rc, cl] at g0
  simp only [rc, cl, e1, e2, e3, e4, ↓zP,zV,Nat.reduceAdd,Nat.reduceMul,Nat.reduceLT,Nat.reduceEqDiff,Nat.reduceLeDiff,Int.reduceLE,Int.reduceLT,Int.reduceBNe,Int.reduceBEq,Int.reduceNeg,Int.reduceEq,Int.reduceAdd,Int.reduceGT,Int.reduceGE,reduceCtorEq]
  exact hK _ g0
theorem r_May (hK : ∀ s, Grw st s → K (.sc (.bool (mayB x y w h))) s) : acallF Tryz.prog pl (n + 3) m 53 [.agg (rc x y w h)] st K := by
  refine acallF_inF Tryz.func53 rfl rfl Tryz.ntmps53 (by simp) ?_
  have g0 := Grw.push st [.cells (rc x y w h)]
  have x0 : (st ++ [Ob.cells (rc x y w h)])[st.length]? = some (.cells (rc x y w h)) := get_new0 _ _
  unfold mayB at hK
  simp only [rc] at g0 x0
  simp only [rc, x0, ↓zP,zV,Nat.reduceAdd,Nat.reduceMul,Nat.reduceLT,Nat.reduceEqDiff,Nat.reduceLeDiff,Int.reduceLE,Int.reduceLT,Int.reduceBNe,Int.reduceBEq,Int.reduceNeg,Int.reduceEq,Int.reduceAdd,Int.reduceGT,Int.reduceGE,reduceCtorEq]
  refine r_Near fun s1 j1 => ?_
  have x1 := j1 _ _ x0
  have g1 := g0.trans j1
  cases e1 : nearB x && nearB y
  · simp only [e1, Bool.false_and] at hK
    simp only [x1, e1, ↓zP,zV,Nat.reduceAdd,Nat.reduceMul,Nat.reduceLT,Nat.reduceEqDiff,Nat.reduceLeDiff,Int.reduceLE,Int.reduceLT,Int.reduceBNe,Int.reduceBEq,Int.reduceNeg,Int.reduceEq,Int.reduceAdd,Int.reduceGT,Int.reduceGE,reduceCtorEq]
    exact hK _ g1
  cases e2 : decide (w ≥ 1)
  · simp only [sideB, e1, e2, Bool.false_and, Bool.and_false] at hK
    simp only [x1, e1, e2, ↓zP,zV,Nat.reduceAdd,Nat.reduceMul,Nat.reduceLT,Nat.reduceEqDiff,Nat.reduceLeDiff,Int.reduceLE,Int.reduceLT,Int.reduceBNe,Int.reduceBEq,Int.reduceNeg,Int.reduceEq,Int.reduceAdd,Int.reduceGT,Int.reduceGE,reduceCtorEq]
    exact hK _ g1
  cases e3 : decide (w ≤ 1048576)
  · simp only [sideB, e1, e2, e3, Bool.false_and, Bool.and_false] at hK
    simp only [x1, e1, e2, e3, ↓zP,zV,Nat.reduceAdd,Nat.reduceMul,Nat.reduceLT,Nat.reduceEqDiff,Nat.reduceLeDiff,Int.reduceLE,Int.reduceLT,Int.reduceBNe,Int.reduceBEq,Int.reduceNeg,Int.reduceEq,Int.reduceAdd,Int.reduceGT,Int.reduceGE,reduceCtorEq]
    exact hK _ g1
  cases e4 : decide (h ≥ 1)
  · simp only [sideB, e1, e2, e3, e4, Bool.false_and, Bool.and_false] at hK
    simp only [x1, e1, e2, e3, e4, ↓zP,zV,Nat.reduceAdd,Nat.reduceMul,Nat.reduceLT,Nat.reduceEqDiff,Nat.reduceLeDiff,Int.reduceLE,Int.reduceLT,Int.reduceBNe,Int.reduceBEq,Int.reduceNeg,Int.reduceEq,Int.reduceAdd,Int.reduceGT,Int.reduceGE,reduceCtorEq]
    exact hK _ g1
  cases e5 : decide (h ≤ 1048576)
  · simp only [sideB, e1, e2, e3, e4, e5, Bool.false_and, Bool.and_false] at hK
    simp only [x1, e1, e2, e3, e4, e5, ↓zP,zV,Nat.reduceAdd,Nat.reduceMul,Nat.reduceLT,Nat.reduceEqDiff,Nat.reduceLeDiff,Int.reduceLE,Int.reduceLT,Int.reduceBNe,Int.reduceBEq,Int.reduceNeg,Int.reduceEq,Int.reduceAdd,Int.reduceGT,Int.reduceGE,reduceCtorEq]
    exact hK _ g1
  simp only [x1, e1, e2, e3, e4, e5, ↓zP,zV,Nat.reduceAdd,Nat.reduceMul,Nat.reduceLT,Nat.reduceEqDiff,Nat.reduceLeDiff,Int.reduceLE,Int.reduceLT,Int.reduceBNe,Int.reduceBEq,Int.reduceNeg,Int.reduceEq,Int.reduceAdd,Int.reduceGT,Int.reduceGE,reduceCtorEq]
  simp only [Bool.and_eq_true] at e1
  refine r_Last e1.1 e1.2 (by simp only [sideB, e2, e3, Bool.true_and]) (by simp only [sideB, e4, e5, Bool.true_and]) fun s2 j2 => ?_
  have x2 := j2 _ _ x1
  simp only [x2, ↓zP,zV,Nat.reduceAdd,Nat.reduceMul,Nat.reduceLT,Nat.reduceEqDiff,Nat.reduceLeDiff,Int.reduceLE,Int.reduceLT,Int.reduceBNe,Int.reduceBEq,Int.reduceNeg,Int.reduceEq,Int.reduceAdd,Int.reduceGT,Int.reduceGE,reduceCtorEq]
  refine r_Near fun s3 j3 => ?_
  simp only [sideB, e1.1, e1.2, e2, e3, e4, e5, Bool.true_and] at hK
  simp only [↓zP,zV,Nat.reduceAdd,Nat.reduceMul,Nat.reduceLT,Nat.reduceEqDiff,Nat.reduceLeDiff,Int.reduceLE,Int.reduceLT,Int.reduceBNe,Int.reduceBEq,Int.reduceNeg,Int.reduceEq,Int.reduceAdd,Int.reduceGT,Int.reduceGE,reduceCtorEq]
  exact hK _ ((g1.trans j2).trans j3)
def mx (a b : Int) : Int := if b > a then b else a
def mn (a b : Int) : Int := if b < a then b else a
def lapB (x y w h x2 y2 w2 h2 : Int) : Bool := !(decide (mn (x + w - 1) (x2 + w2 - 1) < mx x x2) || decide (mn (y + h - 1) (y2 + h2 - 1) < mx y y2))
def meetB (x y w h x2 y2 w2 h2 : Int) : Bool := mayB x y w h && mayB x2 y2 w2 h2 && lapB x y w h x2 y2 w2 h2
set_option maxHeartbeats 4000000 in
theorem r_Meet (hK : ∀ a b c d s, Grw st s → K (.tup [.agg (rc a b c d), .sc (.bool (meetB x y w h x2 y2 w2 h2))]) s) : acallF Tryz.prog pl (n + 4) m 60 [.agg (rc x y w h), .agg (rc x2 y2 w2 h2)] st K := by
  refine acallF_inF Tryz.func60 rfl rfl Tryz.ntmps60 (by simp) ?_
  have g0 := Grw.push st [.cells (rc x y w h), .cells (rc x2 y2 w2 h2), .cells (rc 0 0 0 0)]
  have x0 : (st ++ [Ob.cells (rc x y w h), .cells (rc x2 y2 w2 h2), .cells (rc 0 0 0 0)])[st.length]? = some (.cells (rc x y w h)) := get_new _ _ 0
  have x0' : (st ++ [Ob.cells (rc x y w h), .cells (rc x2 y2 w2 h2), .cells (rc 0 0 0 0)])[st.length + 1]? = some (.cells (rc x2 y2 w2 h2)) := get_new _ _ 1
  have x0'' : (st ++ [Ob.cells (rc x y w h), .cells (rc x2 y2 w2 h2), .cells (rc 0 0 0 0)])[st.length + 2]? = some (.cells (rc 0 0 0 0)) := get_new _ _ 2
  unfold meetB at hK
  simp only [rc] at g0 x0 x0' x0''
  simp only [rc, x0, x0', ↓zP,zV,Nat.reduceAdd,Nat.reduceMul,Nat.reduceLT,Nat.reduceEqDiff,Nat.reduceLeDiff,Int.reduceLE,Int.reduceLT,Int.reduceBNe,Int.reduceBEq,Int.reduceNeg,Int.reduceEq,Int.reduceAdd,Int.reduceGT,Int.reduceGE,reduceCtorEq]
  refine r_May (n := n) fun s1 j1 => ?_
  have x1 := j1 _ _ x0
  have x1' := j1 _ _ x0'
  have x1'' := j1 _ _ x0''
  have g1 := g0.trans j1
  have stn : ∀ (s : List Ob) (o : Ob), Grw st s → Grw st (s.set (st.length + 2) o) := fun s o h => h.set (by omega) o
  cases e1 : mayB x y w h
  · have y1 : ∀ o, (s1.set (st.length + 2) o)[st.length + 2]? = some o := fun o => get_set x1'' o
    simp only [e1, Bool.false_and] at hK
    simp only [x1, x1', x1'', y1, e1, ↓zP,zV,Nat.reduceAdd,Nat.reduceMul,Nat.reduceLT,Nat.reduceEqDiff,Nat.reduceLeDiff,Int.reduceLE,Int.reduceLT,Int.reduceBNe,Int.reduceBEq,Int.reduceNeg,Int.reduceEq,Int.reduceAdd,Int.reduceGT,Int.reduceGE,reduceCtorEq]
    exact hK 0 0 0 0 _ (stn _ _ g1)
  simp only [x1, x1', x1'', e1, ↓zP,zV,Nat.reduceAdd,Nat.reduceMul,Nat.reduceLT,Nat.reduceEqDiff,Nat.reduceLeDiff,Int.reduceLE,Int.reduceLT,Int.reduceBNe,Int.reduceBEq,Int.reduceNeg,Int.reduceEq,Int.reduceAdd,Int.reduceGT,Int.reduceGE,reduceCtorEq]
  refine r_May (n := n) fun s2 j2 => ?_
  have z2 := j2 _ _ x1
  have z2' := j2 _ _ x1'
  have z2'' := j2 _ _ x1''
  have g2 := g1.trans j2
  have y2'' : ∀ o, (s2.set (st.length + 2) o)[st.length + 2]? = some o := fun o => get_set z2'' o
  cases e2 : mayB x2 y2 w2 h2
  · simp only [e1, e2, Bool.false_and, Bool.and_false] at hK
    simp only [z2, z2', z2'', y2'', e1, e2, ↓zP,zV,Nat.reduceAdd,Nat.reduceMul,Nat.reduceLT,Nat.reduceEqDiff,Nat.reduceLeDiff,Int.reduceLE,Int.reduceLT,Int.reduceBNe,Int.reduceBEq,Int.reduceNeg,Int.reduceEq,Int.reduceAdd,Int.reduceGT,Int.reduceGE,reduceCtorEq]
    exact hK 0 0 0 0 _ (stn _ _ g2)
  obtain ⟨fx, fy, fw, fh, fx2, fy2⟩ := may_facts e1
  obtain ⟨ex, ey, ew, eh, ex2, ey2⟩ := may_facts e2
  have m1 := e1
  have m2 := e2
  simp only [mayB, Bool.and_eq_true] at m1 m2
  simp only [e1, e2, Bool.true_and, lapB] at hK
  have q0 := Grw.push s2 [Ob.gone, Ob.gone]
  have v2 := q0 _ _ z2
  have v2' := q0 _ _ z2'
  have v2'' := q0 _ _ z2''
  cases d1 : decide (x2 > x)
  all_goals cases d2 : decide (y2 > y)
  all_goals
    simp only [z2, z2', z2'', v2, v2', v2'', e2, d1, d2, ↓zP,zV,Nat.reduceAdd,Nat.reduceMul,Nat.reduceLT,Nat.reduceEqDiff,Nat.reduceLeDiff,Int.reduceLE,Int.reduceLT,Int.reduceBNe,Int.reduceBEq,Int.reduceNeg,Int.reduceEq,Int.reduceAdd,Int.reduceGT,Int.reduceGE,reduceCtorEq]
    refine r_Last m1.1.1.1.1 m1.1.1.1.2 m1.1.1.2 m1.1.2 fun s3 j3 => ?_
    have w3 := j3 _ _ v2
    have w3' := j3 _ _ v2'
    have w3'' := j3 _ _ v2''
    simp only [z2, z2', z2'', v2, v2', v2'', w3, w3', w3'', ↓zP,zV,Nat.reduceAdd,Nat.reduceMul,Nat.reduceLT,Nat.reduceEqDiff,Nat.reduceLeDiff,Int.reduceLE,Int.reduceLT,Int.reduceBNe,Int.reduceBEq,Int.reduceNeg,Int.reduceEq,Int.reduceAdd,Int.reduceGT,Int.reduceGE,reduceCtorEq]
    refine r_Last m2.1.1.1.1 m2.1.1.1.2 m2.1.1.2 m2.1.2 fun s4 j4 => ?_
    have w4 := j4 _ _ w3
    have w4' := j4 _ _ w3'
    have w4'' := j4 _ _ w3''
    have gg : Grw (s2 ++ [Ob.gone, Ob.gone]) s4 := j3.trans j4
    have p0 : s4[s2.length]? = some Ob.gone := gg _ _ (get_new0 _ _)
    have p1 : s4[s2.length + 1]? = some Ob.gone := gg _ _ (get_new _ _ 1)
    have ha : s2.length < s4.length := (List.getElem?_eq_some_iff.1 p0).1
    have hb : s2.length + 1 < s4.length := (List.getElem?_eq_some_iff.1 p1).1
    have hs : st.length + 2 < s2.length := (List.getElem?_eq_some_iff.1 z2'').1
    have n1 : (s2.length = s2.length + 1) = False := eq_false (by omega)
    have n2 : (s2.length + 1 = s2.length) = False := eq_false (by omega)
    have n3 : (s2.length = st.length) = False := eq_false (by omega)
    have n4 : (s2.length = st.length + 1) = False := eq_false (by omega)
    have n5 : (s2.length = st.length + 2) = False := eq_false (by omega)
    have n6 : (s2.length + 1 = st.length) = False := eq_false (by omega)
    have n7 : (s2.length + 1 = st.length + 1) = False := eq_false (by omega)
    have n8 : (s2.length + 1 = st.length + 2) = False := eq_false (by omega)
    have n9 : (st.length + 2 = st.length + 2) = True := eq_true rfl
    have hc : st.length + 2 < s4.length := (List.getElem?_eq_some_iff.1 w4'').1
    have hg : Grw st s4 := (g2.trans q0).trans gg
    cases d3 : decide (x2 + w2 - 1 < x + w - 1)
    all_goals cases d4 : decide (y2 + h2 - 1 < y + h - 1)
    all_goals cases d5 : decide (mn (x + w - 1) (x2 + w2 - 1) < mx x x2)
    all_goals cases d6 : decide (mn (y + h - 1) (y2 + h2 - 1) < mx y y2)
    all_goals
      have d1' := d1
      have d2' := d2
      have d3' := d3
      have d4' := d4
      simp only [decide_eq_true_eq, decide_eq_false_iff_not] at d1' d2' d3' d4'
      simp only [d5, d6, rc] at hK
      simp only [mx, mn, d1', d2', d3', d4', if_true, if_false] at d5 d6
      simp only [cl, List.getElem?_set, List.length_set, if_true, if_false, n1, n2, n3, n4, n5, n6, n7, n8, n9, ha, hb, hc, p0, p1, z2, z2', z2'', v2, v2', v2'', w3, w3', w3'', w4, w4', w4'', d3, d4, d5, d6, ↓zP,zV,Nat.reduceAdd,Nat.reduceMul,Nat.reduceLT,Nat.reduceEqDiff,Nat.reduceLeDiff,Int.reduceLE,Int.reduceLT,Int.reduceBNe,Int.reduceBEq,Int.reduceNeg,Int.reduceEq,Int.reduceAdd,Int.reduceGT,Int.reduceGE,reduceCtorEq]
      refine hK _ _ _ _ _ ?_
      repeat' (first | exact hg | refine Grw.set ?_ (by omega) _)
end
section
variable {n m : Nat} {st : List Ob} {K : V → List Ob → Prop} {x y w h a b x2 y2 w2 h2 id : Int}
def inB (x y w h a b : Int) : Bool := decide (a ≥ x) && decide (a ≤ x + w - 1) && decide (b ≥ y) && decide (b ≤ y + h - 1)
def hasB (x y w h a b : Int) : Bool := mayB x y w h && inB x y w h a b
set_option maxHeartbeats 1000000 in
theorem c_Has (hK : ∀ s, Grw st s → K (.sc (.bool (hasB x y w h a b))) s) : acallF Tryz.prog pl (n + 4) m 112 [.agg (rc x y w h), .agg (cl a b)] st K := by
  refine acallF_inF Tryz.func112 rfl rfl Tryz.ntmps112 (by simp) ?_
  have g0 := Grw.push st [.cells (rc x y w h), .cells (cl a b)]
  have x0 : (st ++ [Ob.cells (rc x y w h), .cells (cl a b)])[st.length]? = some (.cells (rc x y w h)) := get_new _ _ 0
  have x0' : (st ++ [Ob.cells (rc x y w h), .cells (cl a b)])[st.length + 1]? = some (.cells (cl a b)) := get_new _ _ 1
  simp only [rc, cl] at g0 x0 x0'
  simp only [rc, cl, x0, ↓zP,zV,Nat.reduceAdd,Nat.reduceMul,Nat.reduceLT,Nat.reduceEqDiff,Nat.reduceLeDiff,Int.reduceLE,Int.reduceLT,Int.reduceBNe,Int.reduceBEq,Int.reduceNeg,Int.reduceEq,Int.reduceAdd,Int.reduceGT,Int.reduceGE,reduceCtorEq]
  refine c_May (n := n) fun s1 j1 => ?_
  have x1 := j1 _ _ x0
  have x1' := j1 _ _ x0'
  have g1 := g0.trans j1
  unfold hasB at hK
  cases e1 : mayB x y w h
  · simp only [e1, Bool.false_and] at hK
    simp only [x1, ↓zP,zV,Nat.reduceAdd,Nat.reduceMul,Nat.reduceLT,Nat.reduceEqDiff,Nat.reduceLeDiff,Int.reduceLE,Int.reduceLT,Int.reduceBNe,Int.reduceBEq,Int.reduceNeg,Int.reduceEq,Int.reduceAdd,Int.reduceGT,Int.reduceGE,reduceCtorEq]
    exact hK _ g1
  have m1 := e1
  simp only [mayB, Bool.and_eq_true] at m1
  simp only [e1, Bool.true_and, inB] at hK
  simp only [x1, ↓zP,zV,Nat.reduceAdd,Nat.reduceMul,Nat.reduceLT,Nat.reduceEqDiff,Nat.reduceLeDiff,Int.reduceLE,Int.reduceLT,Int.reduceBNe,Int.reduceBEq,Int.reduceNeg,Int.reduceEq,Int.reduceAdd,Int.reduceGT,Int.reduceGE,reduceCtorEq]
  refine c_last m1.1.1.1.1 m1.1.1.1.2 m1.1.1.2 m1.1.2 fun s2 j2 => ?_
  have x2 := j2 _ _ x1
  have x2' := j2 _ _ x1'
  have g2 := g1.trans j2
  have g3 := fun X => g2.trans (Grw.push s2 X)
  have x3 := fun X => Grw.push s2 X _ _ x2
  have x3' := fun X => Grw.push s2 X _ _ x2'
  simp only [x2, x2', cl, ↓zP,zV,Nat.reduceAdd,Nat.reduceMul,Nat.reduceLT,Nat.reduceEqDiff,Nat.reduceLeDiff,Int.reduceLE,Int.reduceLT,Int.reduceBNe,Int.reduceBEq,Int.reduceNeg,Int.reduceEq,Int.reduceAdd,Int.reduceGT,Int.reduceGE,reduceCtorEq]
  cases d1 : decide (a ≥ x)
  · simp only [d1, Bool.false_and] at hK
    simp only [x3, x3', d1, ↓zP,zV,Nat.reduceAdd,Nat.reduceMul,Nat.reduceLT,Nat.reduceEqDiff,Nat.reduceLeDiff,Int.reduceLE,Int.reduceLT,Int.reduceBNe,Int.reduceBEq,Int.reduceNeg,Int.reduceEq,Int.reduceAdd,Int.reduceGT,Int.reduceGE,reduceCtorEq]
    exact hK _ (g3 _)
  cases d2 : decide (a ≤ x + w - 1)
  · simp only [d1, d2, Bool.false_and, Bool.and_false] at hK
    simp only [x3, x3', d1, d2, ↓zP,zV,Nat.reduceAdd,Nat.reduceMul,Nat.reduceLT,Nat.reduceEqDiff,Nat.reduceLeDiff,Int.reduceLE,Int.reduceLT,Int.reduceBNe,Int.reduceBEq,Int.reduceNeg,Int.reduceEq,Int.reduceAdd,Int.reduceGT,Int.reduceGE,reduceCtorEq]
    exact hK _ (g3 _)
  cases d3 : decide (b ≥ y)
  · simp only [d1, d2, d3, Bool.false_and, Bool.and_false] at hK
    simp only [x3, x3', d1, d2, d3, ↓zP,zV,Nat.reduceAdd,Nat.reduceMul,Nat.reduceLT,Nat.reduceEqDiff,Nat.reduceLeDiff,Int.reduceLE,Int.reduceLT,Int.reduceBNe,Int.reduceBEq,Int.reduceNeg,Int.reduceEq,Int.reduceAdd,Int.reduceGT,Int.reduceGE,reduceCtorEq]
    exact hK _ (g3 _)
  simp only [d1, d2, d3, Bool.true_and] at hK
  simp only [x3, x3', d1, d2, d3, ↓zP,zV,Nat.reduceAdd,Nat.reduceMul,Nat.reduceLT,Nat.reduceEqDiff,Nat.reduceLeDiff,Int.reduceLE,Int.reduceLT,Int.reduceBNe,Int.reduceBEq,Int.reduceNeg,Int.reduceEq,Int.reduceAdd,Int.reduceGT,Int.reduceGE,reduceCtorEq]
  exact hK _ (g3 _)
def withinB (x y w h x2 y2 w2 h2 : Int) : Bool := mayB x y w h && hasB x2 y2 w2 h2 x y && hasB x2 y2 w2 h2 (x + w - 1) (y + h - 1)
set_option maxHeartbeats 1000000 in
theorem c_Within (hK : ∀ s, Grw st s → K (.sc (.bool (withinB x y w h x2 y2 w2 h2))) s) : acallF Tryz.prog pl (n + 5) m 116 [.agg (rc x y w h), .agg (rc x2 y2 w2 h2)] st K := by
  refine acallF_inF Tryz.func116 rfl rfl Tryz.ntmps116 (by simp) ?_
  have g0 := Grw.push st [.cells (rc x y w h), .cells (rc x2 y2 w2 h2)]
  have c0 : (st ++ [Ob.cells (rc x y w h), .cells (rc x2 y2 w2 h2)])[st.length]? = some (.cells (rc x y w h)) := get_new _ _ 0
  have c0' : (st ++ [Ob.cells (rc x y w h), .cells (rc x2 y2 w2 h2)])[st.length + 1]? = some (.cells (rc x2 y2 w2 h2)) := get_new _ _ 1
  simp only [rc] at g0 c0 c0'
  simp only [rc, c0, ↓zP,zV,Nat.reduceAdd,Nat.reduceMul,Nat.reduceLT,Nat.reduceEqDiff,Nat.reduceLeDiff,Int.reduceLE,Int.reduceLT,Int.reduceBNe,Int.reduceBEq,Int.reduceNeg,Int.reduceEq,Int.reduceAdd,Int.reduceGT,Int.reduceGE,reduceCtorEq]
  refine c_May (n := n + 1) fun s1 j1 => ?_
  have c1 := j1 _ _ c0
  have c1' := j1 _ _ c0'
  have g1 := g0.trans j1
  unfold withinB at hK
  cases e1 : mayB x y w h
  · simp only [e1, Bool.false_and] at hK
    simp only [c0, c0', c1, c1', j1, ↓zP,zV,Nat.reduceAdd,Nat.reduceMul,Nat.reduceLT,Nat.reduceEqDiff,Nat.reduceLeDiff,Int.reduceLE,Int.reduceLT,Int.reduceBNe,Int.reduceBEq,Int.reduceNeg,Int.reduceEq,Int.reduceAdd,Int.reduceGT,Int.reduceGE,reduceCtorEq]
    exact hK _ g1
  have m1 := e1
  simp only [mayB, Bool.and_eq_true] at m1
  simp only [e1, Bool.true_and] at hK
  simp only [c0, c0', c1, c1', j1, ↓zP,zV,Nat.reduceAdd,Nat.reduceMul,Nat.reduceLT,Nat.reduceEqDiff,Nat.reduceLeDiff,Int.reduceLE,Int.reduceLT,Int.reduceBNe,Int.reduceBEq,Int.reduceNeg,Int.reduceEq,Int.reduceAdd,Int.reduceGT,Int.reduceGE,reduceCtorEq]
  refine c_Has (n := n) fun s2 j2 => ?_
  have c2 := j2 _ _ c1
  have c2' := j2 _ _ c1'
  have g2 := g1.trans j2
  cases e2 : hasB x2 y2 w2 h2 x y
  · simp only [e2, Bool.false_and] at hK
    simp only [c0, c0', c1, c1', c2, c2', j1, j2, ↓zP,zV,Nat.reduceAdd,Nat.reduceMul,Nat.reduceLT,Nat.reduceEqDiff,Nat.reduceLeDiff,Int.reduceLE,Int.reduceLT,Int.reduceBNe,Int.reduceBEq,Int.reduceNeg,Int.reduceEq,Int.reduceAdd,Int.reduceGT,Int.reduceGE,reduceCtorEq]
    exact hK _ g2
  simp only [e2, Bool.true_and] at hK
  simp only [c0, c0', c1, c1', c2, c2', j1, j2, ↓zP,zV,Nat.reduceAdd,Nat.reduceMul,Nat.reduceLT,Nat.reduceEqDiff,Nat.reduceLeDiff,Int.reduceLE,Int.reduceLT,Int.reduceBNe,Int.reduceBEq,Int.reduceNeg,Int.reduceEq,Int.reduceAdd,Int.reduceGT,Int.reduceGE,reduceCtorEq]
  refine c_last m1.1.1.1.1 m1.1.1.1.2 m1.1.1.2 m1.1.2 fun s3 j3 => ?_
  have c3 := j3 _ _ c2
  have c3' := j3 _ _ c2'
  have g3 := g2.trans j3
  simp only [c0, c0', c1, c1', c2, c2', c3, c3', j1, j2, j3, ↓zP,zV,Nat.reduceAdd,Nat.reduceMul,Nat.reduceLT,Nat.reduceEqDiff,Nat.reduceLeDiff,Int.reduceLE,Int.reduceLT,Int.reduceBNe,Int.reduceBEq,Int.reduceNeg,Int.reduceEq,Int.reduceAdd,Int.reduceGT,Int.reduceGE,reduceCtorEq]
  refine c_Has (n := n) fun s4 j4 => ?_
  have c4 := j4 _ _ c3
  have c4' := j4 _ _ c3'
  simp only [c0, c0', c1, c1', c2, c2', c3, c3', c4, c4', j1, j2, j3, j4, ↓zP,zV,Nat.reduceAdd,Nat.reduceMul,Nat.reduceLT,Nat.reduceEqDiff,Nat.reduceLeDiff,Int.reduceLE,Int.reduceLT,Int.reduceBNe,Int.reduceBEq,Int.reduceNeg,Int.reduceEq,Int.reduceAdd,Int.reduceGT,Int.reduceGE,reduceCtorEq]
  exact hK _ (g3.trans j4)
end
def zero6 : List V := [.sc (.int .i64 0), .sc (.int .i64 0), .tsl [] 0 true true, .sc (.map none), .sc (.map none), .tsl [] 0 true true]
inductive noW (st : List Ob) : V → Prop where
  | nil : noW st (.sc (.pointer none))
  | zero {id : Nat} : st[id]? = some (.cells zero6) → noW st (.ref id 0)
theorem noW.grw {st s : List Ob} {v : V} (h : noW st v) (k : Grw st s) : noW s v := by
  cases h with
  | nil => exact .nil
  | zero h => exact .zero (k _ _ h)
theorem noW.one {st : List Ob} {v : V} (h : noW st v) : M.one v = true ∧ cellsV v = [v] := by
  cases h <;> exact ⟨rfl, rfl⟩
def bd (id x y w h : Int) : List V := .sc (.int .i64 id) :: rc x y w h
section
variable {n m : Nat} {st : List Ob} {K : V → List Ob → Prop} {v : V} {x y w h a b id : Int}
def bmayB (id x y w h W H : Int) : Bool := decide (id ≥ 1) && decide (id ≤ 2147483647) && decide (w ≤ 8) && decide (h ≤ 8) && withinB x y w h 0 0 W H
set_option maxHeartbeats 1000000 in
theorem g_may {W H : Int} (hK : ∀ s, Grw st s → K (.sc (.bool (bmayB id x y w h W H))) s) : acallF Tryz.prog pl (n + 6) m 111 [.agg (bd id x y w h), .agg (rc 0 0 W H)] st K := by
  refine acallF_inF Tryz.func111 rfl rfl Tryz.ntmps111 (by simp) ?_
  have g0 := Grw.push st [.cells (bd id x y w h), .cells (rc 0 0 W H)]
  simp only [bd, rc] at g0
  unfold bmayB at hK
  cases d1 : decide (id ≥ 1)
  · simp only [d1, Bool.false_and] at hK
    simp only [bd, rc, d1, get_new, get_new0, ↓zP,zV,Nat.reduceAdd,Nat.reduceMul,Nat.reduceLT,Nat.reduceEqDiff,Nat.reduceLeDiff,Int.reduceLE,Int.reduceLT,Int.reduceBNe,Int.reduceBEq,Int.reduceNeg,Int.reduceEq,Int.reduceAdd,Int.reduceGT,Int.reduceGE,reduceCtorEq]
    exact hK _ g0
  cases d2 : decide (id ≤ 2147483647)
  · simp only [d1, d2, Bool.false_and, Bool.and_false] at hK
    simp only [bd, rc, d1, d2, get_new, get_new0, ↓zP,zV,Nat.reduceAdd,Nat.reduceMul,Nat.reduceLT,Nat.reduceEqDiff,Nat.reduceLeDiff,Int.reduceLE,Int.reduceLT,Int.reduceBNe,Int.reduceBEq,Int.reduceNeg,Int.reduceEq,Int.reduceAdd,Int.reduceGT,Int.reduceGE,reduceCtorEq]
    exact hK _ g0
  cases d3 : decide (w ≤ 8)
  · simp only [d1, d2, d3, Bool.false_and, Bool.and_false] at hK
    simp only [bd, rc, d1, d2, d3, get_new, get_new0, ↓zP,zV,Nat.reduceAdd,Nat.reduceMul,Nat.reduceLT,Nat.reduceEqDiff,Nat.reduceLeDiff,Int.reduceLE,Int.reduceLT,Int.reduceBNe,Int.reduceBEq,Int.reduceNeg,Int.reduceEq,Int.reduceAdd,Int.reduceGT,Int.reduceGE,reduceCtorEq]
    exact hK _ g0
  cases d4 : decide (h ≤ 8)
  · simp only [d1, d2, d3, d4, Bool.false_and, Bool.and_false] at hK
    simp only [bd, rc, d1, d2, d3, d4, get_new, get_new0, ↓zP,zV,Nat.reduceAdd,Nat.reduceMul,Nat.reduceLT,Nat.reduceEqDiff,Nat.reduceLeDiff,Int.reduceLE,Int.reduceLT,Int.reduceBNe,Int.reduceBEq,Int.reduceNeg,Int.reduceEq,Int.reduceAdd,Int.reduceGT,Int.reduceGE,reduceCtorEq]
    exact hK _ g0
  simp only [d1, d2, d3, d4, Bool.true_and] at hK
  simp only [bd, rc, d1, d2, d3, d4, get_new, get_new0, ↓zP,zV,Nat.reduceAdd,Nat.reduceMul,Nat.reduceLT,Nat.reduceEqDiff,Nat.reduceLeDiff,Int.reduceLE,Int.reduceLT,Int.reduceBNe,Int.reduceBEq,Int.reduceNeg,Int.reduceEq,Int.reduceAdd,Int.reduceGT,Int.reduceGE,reduceCtorEq]
  refine c_Within (n := n) fun s1 j1 => ?_
  simp only [↓zP,zV,Nat.reduceAdd,Nat.reduceMul,Nat.reduceLT,Nat.reduceEqDiff,Nat.reduceLeDiff,Int.reduceLE,Int.reduceLT,Int.reduceBNe,Int.reduceBEq,Int.reduceNeg,Int.reduceEq,Int.reduceAdd,Int.reduceGT,Int.reduceGE,reduceCtorEq]
  exact hK _ (g0.trans j1)
end
structure Wd (s : List Ob) (wd a b : Nat) (W H : Int) (tv dv : V) (us : List (Int × V)) (os : List ((Int × Int) × V)) : Prop where
  w : s[wd]? = some (.cells [.sc (.int .i64 W), .sc (.int .i64 H), tv, .map a, .map b, dv])
  us : s[a]? = some (.map (esI us))
  os : s[b]? = some (.map (esC os))
def hitsB (os : List ((Int × Int) × V)) (x y : Int) (W k : Nat) : Bool := (List.range k).any fun q => (getC (x + (q % W : Nat), y + (q / W : Nat)) os).isSome
section
variable {n m : Nat} {st s : List Ob} {K : V → List Ob → Prop} {wd a b : Nat} {WW HH : Int} {tv dv : V} {us : List (Int × V)} {os : List ((Int × Int) × V)} {x y id : Int} {W H : Nat}
theorem Wd.grw (h : Wd st wd a b WW HH tv dv us os) (k : Grw st s) : Wd s wd a b WW HH tv dv us os := ⟨k _ _ h.w, k _ _ h.us, k _ _ h.os⟩
theorem Wd.nwa (h : Wd st wd a b WW HH tv dv us os) : wd ≠ a := fun he => by have h1 := h.w; rw [he, h.us] at h1; cases h1
theorem Wd.nwb (h : Wd st wd a b WW HH tv dv us os) : wd ≠ b := fun he => by have h1 := h.w; rw [he, h.os] at h1; cases h1
theorem w_is1 (hi : Wd st wd a b WW HH tv dv us os) (hK : K (.sc (.bool true)) st) : acallF Tryz.prog pl (n + 1) m 110 [.ref wd 0] st K := by
  refine acallF_inF Tryz.func110 rfl rfl Tryz.ntmps110 (by simp) ?_
  have h1 := hi.w
  simp only [h1, ↓zP,zV,Nat.reduceAdd,Nat.reduceMul,Nat.reduceLT,Nat.reduceEqDiff,Nat.reduceLeDiff,Int.reduceLE,Int.reduceLT,Int.reduceBNe,Int.reduceBEq,Int.reduceNeg,Int.reduceEq,Int.reduceAdd,Int.reduceGT,Int.reduceGE,reduceCtorEq]
  exact hK
theorem w_All1 (hi : Wd st wd a b WW HH tv dv us os) (hK : ∀ s, Grw st s → K (.agg (rc 0 0 WW HH)) s) : acallF Tryz.prog pl (n + 2) m 90 [.ref wd 0] st K := by
  refine acallF_inF Tryz.func90 rfl rfl Tryz.ntmps90 (by simp) ?_
  have g0 := Grw.push st [.cells (rc 0 0 0 0)]
  have h1 := fun X => ((hi.grw (Grw.push st X)).w)
  simp only [rc] at g0
  simp only [↓zP,zV,Nat.reduceAdd,Nat.reduceMul,Nat.reduceLT,Nat.reduceEqDiff,Nat.reduceLeDiff,Int.reduceLE,Int.reduceLT,Int.reduceBNe,Int.reduceBEq,Int.reduceNeg,Int.reduceEq,Int.reduceAdd,Int.reduceGT,Int.reduceGE,reduceCtorEq]
  refine w_is1 (hi.grw g0) ?_
  simp only [h1, ↓zP,zV,Nat.reduceAdd,Nat.reduceMul,Nat.reduceLT,Nat.reduceEqDiff,Nat.reduceLeDiff,Int.reduceLE,Int.reduceLT,Int.reduceBNe,Int.reduceBEq,Int.reduceNeg,Int.reduceEq,Int.reduceAdd,Int.reduceGT,Int.reduceGE,reduceCtorEq]
  exact hK _ (Grw.push _ _)
set_option maxHeartbeats 2000000 in
theorem may_yl {ps : Array Tmp} {asg body : Code} (hc : frf (Tryz.f79.body.getD .skip) = some (ps, asg, body)) {F : Nat → V} {t2 t4 lid : Nat} {p : Option Code} (q2 : F 2 = .ref t2 0) (q4 : F 4 = .ref t4 0)
    (h2 : s[t2]? = some (.cells [.ref wd 0])) (h4 : s[t4]? = some (.cells [.sc (.int .i64 0)])) (hix : s[wd]? = some (.cells [.sc (.int .i64 WW), .sc (.int .i64 HH), tv, .map a, .map b, dv])) (hb : s[b]? = some (.map (esC os)))
    (hl : s[lid]? = some (.loop .ready p (pl 79) (ofF 51 F) ps.toList asg body))
    (hK : getC (x, y) os = none → ∀ s', s'[lid]? = some (.loop .ready none (pl 79) (ofF 51 F) ps.toList asg body) → (∀ j o, j ≠ lid → s[j]? = some o → s'[j]? = some o) → K (.sc (.bool true)) s')
    (hK2 : (getC (x, y) os).isSome = true → ∀ s', s'[lid]? = some (.loop .done (some .ret) (pl 79) (ofF 51 F) ps.toList asg body) → s'[t4]? = some (.cells [.sc (.int .i64 6)]) → (∀ j o, j ≠ lid → j ≠ t4 → s[j]? = some o → s'[j]? = some o) → K (.sc (.bool false)) s') :
    acallF Tryz.prog pl (n + 1) m Tryz.prog.funcs.size [.yl lid, .agg (cl x y)] s K := by
  simp only [Tryz.f79, Option.getD_some, frf, Option.some.injEq, Prod.mk.injEq] at hc
  obtain ⟨rfl, rfl, rfl⟩ := hc
  have hbl : b ≠ lid := fun he => by subst he; rw [hb] at hl; cases hl
  refine acallF_yl hl rfl ?_
  rw [show (#[40] : Array Tmp).toList = [40] from rfl, aputs_one (by decide)]
  simp only [cl, ↓zP,zV,Nat.reduceAdd,Nat.reduceMul,Nat.reduceLT,Nat.reduceEqDiff,Nat.reduceLeDiff,Int.reduceLE,Int.reduceLT,Int.reduceBNe,Int.reduceBEq,Int.reduceNeg,Int.reduceEq,Int.reduceAdd,Int.reduceGT,Int.reduceGE,reduceCtorEq]
  have g0 := Grw.push s [.cells [.sc (.int .i64 x), .sc (.int .i64 y)]]
  have c6 : (s ++ [Ob.cells [V.sc (.int .i64 x), V.sc (.int .i64 y)]])[s.length]? = some (.cells [V.sc (.int .i64 x), V.sc (.int .i64 y)]) := get_new0 _ _
  refine rdMid_ok (g0 _ _ hl) ?_
  generalize hs1 : (s ++ [Ob.cells [V.sc (.int .i64 x), V.sc (.int .i64 y)]]) = s1 at g0 c6
  have nl : s.length ≠ lid := fun he => by subst he; rw [List.getElem?_eq_none (Nat.le_refl _)] at hl; cases hl
  have lt : lid < s1.length := (List.getElem?_eq_some_iff.1 (g0 _ _ hl)).1
  have nc : ∀ (j : Nat) (c : List V), s[j]? = some (.cells c) → j ≠ lid := fun j c hj he => by subst he; rw [hl] at hj; cases hj
  generalize hs2 : s1.set lid _ = s2
  have k : ∀ j o, j ≠ lid → s1[j]? = some o → s2[j]? = some o := fun j o hj ho => by rw [← hs2, List.getElem?_set_ne (Ne.symm hj)]; exact ho
  have d2 := k _ _ (nc _ _ h2) (g0 _ _ h2)
  have d4 := k _ _ (nc _ _ h4) (g0 _ _ h4)
  have di := k _ _ (nc _ _ hix) (g0 _ _ hix)
  have db := k _ _ hbl (g0 _ _ hb)
  have d6 := k _ _ nl c6
  have look := lk_cell (e := 3) (z := .sc (.int .i64 0)) Tryz.underlying90 (by kernel_rfl) db x y
  have dl : ∀ o, s1.set lid o = s2 → s2[lid]? = some o := fun o ho => by rw [← ho]; exact List.getElem?_set_self lt
  have dl := dl _ hs2
  have ll : lid < s2.length := (List.getElem?_eq_some_iff.1 dl).1
  have fr : ∀ j o, j ≠ lid → s[j]? = some o → s2[j]? = some o := fun j o hj ho => k _ _ hj (g0 _ _ ho)
  cases hq : getC (x, y) os with
  | none =>
    rw [hq] at look
    simp only [q2, d2, di, d6, look, ↓zP,zV,Nat.reduceAdd,Nat.reduceMul,Nat.reduceLT,Nat.reduceEqDiff,Nat.reduceLeDiff,Int.reduceLE,Int.reduceLT,Int.reduceBNe,Int.reduceBEq,Int.reduceNeg,Int.reduceEq,Int.reduceAdd,Int.reduceGT,Int.reduceGE,reduceCtorEq]
    refine rdEnd_normal dl ?_
    refine hK hq _ ?_ ?_
    · rw [List.getElem?_set_self ll]
    · intro j o hjl ho
      rw [List.getElem?_set_ne (Ne.symm hjl)]
      exact fr _ _ hjl ho
  | some v =>
    rw [hq] at look
    have l4 : t4 < s2.length := (List.getElem?_eq_some_iff.1 d4).1
    have n4 := nc _ _ h4
    simp only [q2, q4, d2, d4, di, d6, look, ↓zP,zV,Nat.reduceAdd,Nat.reduceMul,Nat.reduceLT,Nat.reduceEqDiff,Nat.reduceLeDiff,Int.reduceLE,Int.reduceLT,Int.reduceBNe,Int.reduceBEq,Int.reduceNeg,Int.reduceEq,Int.reduceAdd,Int.reduceGT,Int.reduceGE,reduceCtorEq]
    refine rdEnd_ret (by rw [List.getElem?_set_ne n4]; exact dl) ?_
    refine hK2 (by rw [hq]; rfl) _ ?_ ?_ ?_
    · rw [List.getElem?_set_self (by rw [List.length_set]; exact ll)]
    · rw [List.getElem?_set_ne (Ne.symm n4), List.getElem?_set_self l4]
    · intro j o hjl hj4 ho
      rw [List.getElem?_set_ne (Ne.symm hjl), List.getElem?_set_ne (Ne.symm hj4)]
      exact fr _ _ hjl ho
theorem hitsB_succ (k : Nat) : hitsB os x y W (k + 1) = (hitsB os x y W k || (getC (x + (k % W : Nat), y + (k / W : Nat)) os).isSome) := by
  simp only [hitsB, List.range_succ, List.any_append, List.any_cons, List.any_nil, Bool.or_false]
theorem hitsB_le {k k' : Nat} (h : k ≤ k') (ha : hitsB os x y W k = true) : hitsB os x y W k' = true := by
  simp only [hitsB, List.any_eq_true, List.mem_range] at ha ⊢
  obtain ⟨q, h1, h2⟩ := ha
  exact ⟨q, by omega, h2⟩
set_option maxHeartbeats 1000000 in
theorem may_loop {ps : Array Tmp} {asg body : Code} (hc : frf (Tryz.f79.body.getD .skip) = some (ps, asg, body)) {F : Nat → V} {t2 t4 lid rb : Nat} (q2 : F 2 = .ref t2 0) (q4 : F 4 = .ref t4 0)
    (hmay : mayB x y W H = true) (hm : W < m) (hm2 : H < m)
    (h2 : s[t2]? = some (.cells [.ref wd 0])) (h4 : s[t4]? = some (.cells [.sc (.int .i64 0)])) (hix : s[wd]? = some (.cells [.sc (.int .i64 WW), .sc (.int .i64 HH), tv, .map a, .map b, dv])) (hb : s[b]? = some (.map (esC os))) (hr : s[rb]? = some (.cells (rc x y W H)))
    (hl : s[lid]? = some (.loop .ready none (pl 79) (ofF 51 F) ps.toList asg body))
    (hK : hitsB os x y W (H * W) = false → ∀ s', s'[lid]? = some (.loop .ready none (pl 79) (ofF 51 F) ps.toList asg body) → (∀ j o, j ≠ lid → s[j]? = some o → s'[j]? = some o) → K (.tup []) s')
    (hK2 : hitsB os x y W (H * W) = true → ∀ s', s'[lid]? = some (.loop .done (some .ret) (pl 79) (ofF 51 F) ps.toList asg body) → s'[t4]? = some (.cells [.sc (.int .i64 6)]) → (∀ j o, j ≠ lid → j ≠ t4 → s[j]? = some o → s'[j]? = some o) → K (.tup []) s') :
    acallF Tryz.prog pl (n + 4) m 57 [.yl lid, .ref rb 0] s K := by
  have nl : ∀ (j : Nat) (c : List V), s[j]? = some (.cells c) → j ≠ lid := fun j c hj he => by subst he; rw [hl] at hj; cases hj
  have hbl : b ≠ lid := fun he => by subst he; rw [hb] at hl; cases hl
  refine c_Cells1 (x := x) (y := y) (W := W) (H := H) (I := fun k s' => hitsB os x y W k = false ∧ s'[lid]? = some (.loop .ready none (pl 79) (ofF 51 F) ps.toList asg body) ∧ (∀ j o, j ≠ lid → s[j]? = some o → s'[j]? = some o))
    (J := fun s' => hitsB os x y W (H * W) = true ∧ s'[lid]? = some (.loop .done (some .ret) (pl 79) (ofF 51 F) ps.toList asg body) ∧ s'[t4]? = some (.cells [.sc (.int .i64 6)]) ∧ (∀ j o, j ≠ lid → j ≠ t4 → s[j]? = some o → s'[j]? = some o))
    hmay hm hm2 (fun k s' h => h.2.2 _ _ (nl _ _ hr) hr) (fun k s1 s2 h g => ⟨h.1, g _ _ h.2.1, fun j o h1 h3 => g _ _ (h.2.2 j o h1 h3)⟩) ⟨rfl, hl, fun j o _ h => h⟩ ?_ (fun s' h => hK h.1 s' h.2.1 h.2.2) (fun s' h => hK2 h.1 s' h.2.1 h.2.2.1 h.2.2.2)
  intro j i s' K' hj hi ⟨e1, e2, e3⟩ hK1 hK3
  have hmod : (j * W + i) % W = i := by rw [Nat.mul_comm, Nat.mul_add_mod, Nat.mod_eq_of_lt hi]
  have hdiv : (j * W + i) / W = j := by rw [Nat.mul_comm, Nat.mul_add_div (by omega), Nat.div_eq_of_lt hi, Nat.add_zero]
  refine may_yl (n := n + 2) hc q2 q4 (e3 _ _ (nl _ _ h2) h2) (e3 _ _ (nl _ _ h4) h4) (e3 _ _ (nl _ _ hix) hix) (e3 _ _ hbl hb) e2 ?_ ?_
  · intro hh s2 k2 k3
    refine hK1 _ ⟨?_, k2, fun j o h2 h3 => k3 j o h2 (e3 j o h2 h3)⟩
    rw [hitsB_succ, e1, hmod, hdiv, hh]
    rfl
  · intro hh s2 k2 k4 k3
    refine hK3 _ ⟨hitsB_le (k := j * W + i + 1) ?_ (by rw [hitsB_succ, hmod, hdiv, hh, Bool.or_true]), k2, k4, fun j o h2 h4 h3 => k3 j o h2 h4 (e3 j o h2 h3)⟩
    have := Nat.mul_le_mul_right W (show j + 1 ≤ H from hj)
    rw [Nat.add_mul, Nat.one_mul] at this
    omega
end
def mayE (us : List (Int × V)) (os : List ((Int × Int) × V)) (WW HH id x y w h : Int) : Int :=
  if bmayB id x y w h WW HH = false then 1 else if (getI id us).isSome = true then 8 else if 256 ≤ us.length then 2 else if hitsB os x y w.toNat (h.toNat * w.toNat) = true then 6 else 0
theorem bmay_may {id x y w h WW HH : Int} (e : bmayB id x y w h WW HH = true) : mayB x y w h = true ∧ w ≤ 8 ∧ h ≤ 8 ∧ 1 ≤ id ∧ id ≤ 2147483647 := by
  simp only [bmayB, withinB, Bool.and_eq_true, decide_eq_true_eq] at e
  exact ⟨e.2.1.1, e.1.1.2, e.1.2, e.1.1.1.1, e.1.1.1.2⟩
section
variable {n m : Nat} {st s : List Ob} {K : V → List Ob → Prop} {wd a b : Nat} {WW HH : Int} {tv dv : V} {us : List (Int × V)} {os : List ((Int × Int) × V)} {x y w h id : Int}
theorem frame_new {st s' : List Ob} {j lid : Nat} {o : Ob} (h : s'[j]? = some o) (hj : j ≠ lid) (z : Ob) : (s'.set lid z)[j]? = some o := by
  rw [List.getElem?_set_ne (Ne.symm hj)]; exact h
set_option maxHeartbeats 2000000 in
theorem w_May1 (hi : Wd st wd a b WW HH tv dv us os) (hrc : ∀ i v, getI i us = some v → ∃ x y w h, v = .agg (rc x y w h)) (hul : us.length < 1000000) (hm : 8 < m)
    (hK : ∀ s, Grw st s → K (.sc (.int .i64 (mayE us os WW HH id x y w h))) s) : acallF Tryz.prog pl (n + 7) m 79 [.ref wd 0, .agg (bd id x y w h)] st K := by
  refine acallF_inF Tryz.func79 rfl rfl Tryz.ntmps79 (by simp) ?_
  obtain ⟨S, hS⟩ : ∃ S, S = st ++ [Ob.cells [V.ref wd 0], Ob.cells (bd id x y w h), Ob.cells [.sc (.int .i64 0)]] := ⟨_, rfl⟩
  have g0 : Grw st S := by rw [hS]; exact .push _ _
  have c0 : S[st.length]? = some (.cells [V.ref wd 0]) := by rw [hS]; exact get_new _ _ 0
  have c1 : S[st.length + 1]? = some (.cells (bd id x y w h)) := by rw [hS]; exact get_new _ _ 1
  have c2 : S[st.length + 2]? = some (.cells [.sc (.int .i64 0)]) := by rw [hS]; exact get_new _ _ 2
  have lS : S.length = st.length + 3 := by rw [hS]; simp
  simp only [bd, rc] at hS c1
  simp only [bd, rc, ↓zP,zV,Nat.reduceAdd,Nat.reduceMul,Nat.reduceLT,Nat.reduceEqDiff,Nat.reduceLeDiff,Int.reduceLE,Int.reduceLT,Int.reduceBNe,Int.reduceBEq,Int.reduceNeg,Int.reduceEq,Int.reduceAdd,Int.reduceGT,Int.reduceGE,reduceCtorEq]
  rw [← hS]
  have hi0 := hi.grw g0
  refine w_is1 (n := n + 5) hi0 ?_
  simp only [c0, c1, c2, ↓zP,zV,Nat.reduceAdd,Nat.reduceMul,Nat.reduceLT,Nat.reduceEqDiff,Nat.reduceLeDiff,Int.reduceLE,Int.reduceLT,Int.reduceBNe,Int.reduceBEq,Int.reduceNeg,Int.reduceEq,Int.reduceAdd,Int.reduceGT,Int.reduceGE,reduceCtorEq]
  refine w_All1 (n := n + 4) hi0 fun s1 j1 => ?_
  have c0_1 := j1 _ _ c0
  have c1_1 := j1 _ _ c1
  have c2_1 := j1 _ _ c2
  have hi1 := hi0.grw j1
  have g1 := g0.trans j1
  simp only [c0, c1, c2, c0_1, c1_1, c2_1, j1, ↓zP,zV,Nat.reduceAdd,Nat.reduceMul,Nat.reduceLT,Nat.reduceEqDiff,Nat.reduceLeDiff,Int.reduceLE,Int.reduceLT,Int.reduceBNe,Int.reduceBEq,Int.reduceNeg,Int.reduceEq,Int.reduceAdd,Int.reduceGT,Int.reduceGE,reduceCtorEq]
  refine g_may (n := n) fun s2 j2 => ?_
  have c0_2 := j2 _ _ c0_1
  have c1_2 := j2 _ _ c1_1
  have c2_2 := j2 _ _ c2_1
  have hi2 := hi1.grw j2
  have g2 := g1.trans j2
  have setg : ∀ (s : List Ob) (o : Ob), Grw st s → Grw st (s.set (st.length + 2) o) := fun s o h => h.set (by omega) o
  have c2s : ∀ (s : List Ob) (o o' : Ob), s[st.length + 2]? = some o → (s.set (st.length + 2) o')[st.length + 2]? = some o' := fun s o o' h => get_set h o'
  unfold mayE at hK
  cases e1 : bmayB id x y w h WW HH
  · simp only [e1, if_true] at hK
    simp only [c0, c1, c2, c0_1, c1_1, c2_1, c0_2, c1_2, c2_2, c2s _ _ _ c2_2, j1, j2, e1, ↓zP,zV,Nat.reduceAdd,Nat.reduceMul,Nat.reduceLT,Nat.reduceEqDiff,Nat.reduceLeDiff,Int.reduceLE,Int.reduceLT,Int.reduceBNe,Int.reduceBEq,Int.reduceNeg,Int.reduceEq,Int.reduceAdd,Int.reduceGT,Int.reduceGE,reduceCtorEq]
    exact hK _ (setg _ _ g2)
  simp only [e1, Bool.true_eq_false, if_false] at hK
  have w2 := hi2.w
  have look := lk_int (e := 75) (z := .agg [.sc (.int .i64 0), .sc (.int .i64 0), .sc (.int .i64 0), .sc (.int .i64 0)]) Tryz.underlying110 (by kernel_rfl) hi2.us id
  have gX := fun X => Grw.push s2 X
  have c0X := fun X => gX X _ _ c0_2
  have c1X := fun X => gX X _ _ c1_2
  have c2X := fun X => gX X _ _ c2_2
  have wX := fun X => gX X _ _ w2
  have uX := fun X => (hi2.grw (gX X)).us
  have lookX := fun X => lk_int (e := 75) (z := .agg [.sc (.int .i64 0), .sc (.int .i64 0), .sc (.int .i64 0), .sc (.int .i64 0)]) Tryz.underlying110 (by kernel_rfl) (uX X) id
  cases e2 : getI id us
  case some vv =>
    obtain ⟨x', y', w', h', rfl⟩ := hrc _ _ e2
    rw [e2] at look
    simp only [e2] at lookX
    simp only [e2, Option.isSome_some, if_true] at hK
    simp only [rc] at look lookX
    simp only [c0, c1, c2, c0_1, c1_1, c2_1, c0_2, c1_2, c2_2, j1, j2, w2, look, c0X, c1X, c2X, wX, lookX, c2s _ _ _ (c2X _), get_new, get_new0, M.set_new, M.set_new0, e1, ↓zP,zV,Nat.reduceAdd,Nat.reduceMul,Nat.reduceLT,Nat.reduceEqDiff,Nat.reduceLeDiff,Int.reduceLE,Int.reduceLT,Int.reduceBNe,Int.reduceBEq,Int.reduceNeg,Int.reduceEq,Int.reduceAdd,Int.reduceGT,Int.reduceGE,reduceCtorEq]
    exact hK _ (setg _ _ (g2.trans (gX _)))
  rw [e2] at look
  simp only [e2] at lookX
  simp only [e2, Option.isSome_none, Bool.false_eq_true, if_false] at hK
  have nX := fun X => mlen_at Tryz.underlying110 (uX X)
  simp only [esI, List.length_map] at nX
  cases e3 : decide ((us.length : Int) ≥ 256)
  case true =>
    have e3' := of_decide_eq_true e3
    rw [if_pos (by omega)] at hK
    simp only [c0, c1, c2, c0_1, c1_1, c2_1, c0_2, c1_2, c2_2, j1, j2, w2, look, c0X, c1X, c2X, wX, lookX, nX, e3, c2s _ _ _ (c2X _), get_new, get_new0, M.set_new, M.set_new0, e1, ↓zP,zV,Nat.reduceAdd,Nat.reduceMul,Nat.reduceLT,Nat.reduceEqDiff,Nat.reduceLeDiff,Int.reduceLE,Int.reduceLT,Int.reduceBNe,Int.reduceBEq,Int.reduceNeg,Int.reduceEq,Int.reduceAdd,Int.reduceGT,Int.reduceGE,reduceCtorEq]
    exact hK _ (setg _ _ (g2.trans (gX _)))
  have e3' := of_decide_eq_false e3
  rw [if_neg (by omega)] at hK
  simp only [c0, c1, c2, c0_1, c1_1, c2_1, c0_2, c1_2, c2_2, j1, j2, w2, look, c0X, c1X, c2X, wX, lookX, nX, e3, get_new, get_new0, M.set_new, M.set_new0, e1, ↓zP,zV,Nat.reduceAdd,Nat.reduceMul,Nat.reduceLT,Nat.reduceEqDiff,Nat.reduceLeDiff,Int.reduceLE,Int.reduceLT,Int.reduceBNe,Int.reduceBEq,Int.reduceNeg,Int.reduceEq,Int.reduceAdd,Int.reduceGT,Int.reduceGE,reduceCtorEq]
  refine c_Cells ?_
  obtain ⟨em, ew, eh, _, _⟩ := bmay_may e1
  obtain ⟨fx, fy, fw, fh, fx2, fy2⟩ := may_facts em
  obtain ⟨W, rfl⟩ := Int.eq_ofNat_of_zero_le (show 0 ≤ w by omega)
  obtain ⟨H, rfl⟩ := Int.eq_ofNat_of_zero_le (show 0 ≤ h by omega)
  simp only [Int.toNat_natCast] at hK
  generalize hs3 : s2 ++ [Ob.cells _] = s3
  simp only [↓zP,zV,Nat.reduceAdd,Nat.reduceMul,Nat.reduceLT,Nat.reduceEqDiff,Nat.reduceLeDiff,Int.reduceLE,Int.reduceLT,Int.reduceBNe,Int.reduceBEq,Int.reduceNeg,Int.reduceEq,Int.reduceAdd,Int.reduceGT,Int.reduceGE,reduceCtorEq]
  have g3 : Grw s2 s3 := by rw [← hs3]; exact .push _ _
  have hi3 := hi2.grw g3
  have c0_3 := g3 _ _ c0_2
  have c2_3 := g3 _ _ c2_2
  have g5 := fun X => Grw.push s3 X
  have l3 : st.length + 3 ≤ s3.length := by have := (List.getElem?_eq_some_iff.1 c2_3).1; omega
  refine may_loop (n := n + 2) rfl (t2 := st.length) (t4 := st.length + 2) (wd := wd) (a := a) (b := b) (WW := WW) (HH := HH) (tv := tv) (dv := dv) (os := os) (by simp only [zF,Nat.reduceEqDiff,Nat.reduceLT]) (by simp only [zF,Nat.reduceEqDiff,Nat.reduceLT]) em (by omega) (by omega) (g5 _ _ _ c0_3) (g5 _ _ _ c2_3) (g5 _ _ _ hi3.w) (g5 _ _ _ hi3.os) (get_new0 _ _) (get_new _ _ 1) ?_ ?_
  · intro eh s' k1 k2
    simp only [eh, Bool.false_eq_true, if_false] at hK
    refine rfEnd_normal k1 (by decide) ?_
    generalize hs6 : s'.set (s3.length + 1) _ = s6
    have c6 : s6[st.length + 2]? = some (.cells [.sc (.int .i64 0)]) := by rw [← hs6]; exact frame_new (st := st) (k2 _ _ (by omega) (g5 _ _ _ c2_3)) (by omega) _
    simp only [c6, c2s _ _ _ c6, ↓zP,zV,Nat.reduceAdd,Nat.reduceMul,Nat.reduceLT,Nat.reduceEqDiff,Nat.reduceLeDiff,Int.reduceLE,Int.reduceLT,Int.reduceBNe,Int.reduceBEq,Int.reduceNeg,Int.reduceEq,Int.reduceAdd,Int.reduceGT,Int.reduceGE,reduceCtorEq]
    refine hK _ fun j o hj => ?_
    have lj : j < st.length := (List.getElem?_eq_some_iff.1 hj).1
    rw [List.getElem?_set_ne (by omega), ← hs6]
    exact frame_new (st := st) (k2 _ _ (by omega) (g5 _ _ _ (g3 _ _ (g2 _ _ hj)))) (by omega) _
  · intro eh s' k1 k4 k2
    simp only [eh, if_true] at hK
    refine rfEnd_ret k1 (by decide) ?_
    generalize hs6 : s'.set (s3.length + 1) _ = s6
    have c6 : s6[st.length + 2]? = some (.cells [.sc (.int .i64 6)]) := by rw [← hs6]; exact frame_new (st := st) k4 (by omega) _
    simp only [c6, ↓zP,zV,Nat.reduceAdd,Nat.reduceMul,Nat.reduceLT,Nat.reduceEqDiff,Nat.reduceLeDiff,Int.reduceLE,Int.reduceLT,Int.reduceBNe,Int.reduceBEq,Int.reduceNeg,Int.reduceEq,Int.reduceAdd,Int.reduceGT,Int.reduceGE,reduceCtorEq]
    refine hK _ fun j o hj => ?_
    have lj : j < st.length := (List.getElem?_eq_some_iff.1 hj).1
    rw [← hs6]
    exact frame_new (st := st) (k2 _ _ (by omega) (by omega) (g5 _ _ _ (g3 _ _ (g2 _ _ hj)))) (by omega) _
end
def rowOf : V → Option Nat
  | .sl id _ _ _ _ => some id
  | _ => none
def Gl (s : List Ob) (e : TypeId) (v : V) (xs : List V) (n : Nat) : Prop :=
  (v = .tsl [] 0 true true ∧ xs = [] ∧ n = 0) ∨ ∃ id lo, v = .sl id 0 n false n ∧ s[id]? = some (.row e xs n lo false) ∧ lo ≤ n
theorem Gl.of {s s' : List Ob} {e : TypeId} {v : V} {xs : List V} {n : Nat} (h : Gl s e v xs n) (k : ∀ j o, rowOf v = some j → s[j]? = some o → s'[j]? = some o) : Gl s' e v xs n := by
  rcases h with h | ⟨id, lo, rfl, h1, h2⟩
  · exact .inl h
  · exact .inr ⟨id, lo, rfl, k _ _ rfl h1, h2⟩
theorem Gl.grw {s s' : List Ob} {e : TypeId} {v : V} {xs : List V} {n : Nat} (h : Gl s e v xs n) (k : Grw s s') : Gl s' e v xs n := h.of fun j o _ => k j o
theorem Gl.rd {P : Program} {s : List Ob} {e : TypeId} {v : V} {xs : List V} {n sz : Nat} (h : Gl s e v xs n) (hs : szOf P e = some sz) (hl : xs.length = n * sz) : Rd P s e v xs n := by
  rcases h with ⟨rfl, rfl, rfl⟩ | ⟨id, lo, rfl, h1, h2⟩
  · exact ⟨rfl, ⟨fun b hb => (by cases hb), fun _ => rfl⟩, fun s' hs' => by simp⟩
  · refine ⟨?_, ⟨fun b hb => (by cases hb), fun hh => by cases hh⟩, fun s' hs' => by rw [hs] at hs'; cases hs'; exact hl⟩
    simp only [elems, h1, hs]
    rw [if_pos ⟨trivial, h2, by omega⟩, Nat.zero_mul, List.drop_zero, ← hl, List.take_length]
theorem Gl.one {s : List Ob} {e : TypeId} {v : V} {xs : List V} {n : Nat} (h : Gl s e v xs n) : M.one v = true ∧ cellsV v = [v] := by
  rcases h with ⟨rfl, rfl, rfl⟩ | ⟨id, lo, rfl, h1, h2⟩ <;> exact ⟨rfl, rfl⟩
def Tr (v : V) (s s' : List Ob) : Prop := s.length ≤ s'.length ∧ ∀ j o, rowOf v ≠ some j → s[j]? = some o → s'[j]? = some o
theorem gl_app {P : Program} {s : List Ob} {e t : TypeId} {v x : V} {xs zs : List V} {n k : Nat} (h : Gl s e v xs n) (ht : P.underlying t = some (.slice e)) {sz by_ : Nat} {z : Value} (hs : szOf P e = some sz) (hb : bytesOf P e = some by_) (hz : zeroOf P e = some z) (h0 : 0 < sz) (hzs : z.cells.size = sz)
    (hl0 : xs.length = n * sz) (hx : elems P s e x = some (zs, k)) (hc : closedL zs = true) (hl : zs.length = k * sz) (h1 : (n + k) * by_ ≤ 140737488355328) (h2 : n + k ≤ 9223372036854775807) :
    ∃ v' s', aappend P s t v x = some (v', s') ∧ Gl s' e v' (xs ++ zs) (n + k) ∧ Tr v s s' ∧ (∀ j, rowOf v' = some j → rowOf v = some j ∨ s.length ≤ j) := by
  rcases h with ⟨rfl, rfl, rfl⟩ | ⟨id, lo, rfl, e1, e2⟩
  · have hr : Rd P s e (.tsl [] 0 true true) [] 0 := ⟨rfl, ⟨fun b hb => (by cases hb), fun _ => rfl⟩, fun s' hs' => by simp⟩
    by_cases hk : k = 0
    · subst hk
      have : zs = [] := by simpa using hl
      subst this
      exact ⟨_, _, append_full0 hr rfl ht hs hb hz h0 hzs hx (by omega) (by omega), .inl ⟨rfl, rfl, rfl⟩, ⟨Nat.le_refl _, fun j o _ h => h⟩, fun j h => .inl h⟩
    · refine ⟨_, _, append_full hr rfl ht hs hb hz h0 hzs hx hc hl h1 h2 (by omega), .inr ⟨_, 0, rfl, get_new0 _ _, Nat.zero_le _⟩, ⟨by simp, fun j o _ h => Grw.push s _ _ _ h⟩, fun j h => .inr ?_⟩
      simp only [rowOf, Option.some.injEq] at h
      omega
  · have hlt := (List.getElem?_eq_some_iff.1 e1).1
    refine ⟨_, _, append_own e1 e2 ht hs hb hz h0 hzs hx hc hl h1 h2, .inr ⟨id, lo, rfl, get_set e1 _, by omega⟩, ⟨by rw [List.length_set]; exact Nat.le_refl _, fun j o hj h => ?_⟩, fun j h => .inl h⟩
    rw [List.getElem?_set_ne (fun he => hj (by rw [he]; rfl))]
    exact h
section
variable {n m : Nat} {st s : List Ob} {K : V → List Ob → Prop} {wd a b : Nat} {WW HH : Int} {tv dv : V} {us : List (Int × V)} {os : List ((Int × Int) × V)} {x y id : Int} {W H : Nat}
set_option maxHeartbeats 2000000 in
theorem place_yl {ps : Array Tmp} {asg body : Code} (hc : frf (Tryz.f41.body.getD .skip) = some (ps, asg, body)) {F : Nat → V} {t2 t3 lid : Nat} {p : Option Code} {rr : List V} (q2 : F 2 = .ref t2 0) (q3 : F 3 = .ref t3 0)
    (h2 : s[t2]? = some (.cells [.ref wd 0])) (h3 : s[t3]? = some (.cells (.sc (.int .i64 id) :: rr))) (hix : s[wd]? = some (.cells [.sc (.int .i64 WW), .sc (.int .i64 HH), tv, .map a, .map b, dv])) (hb : s[b]? = some (.map (esC os)))
    (hl : s[lid]? = some (.loop .ready p (pl 41) (ofF 43 F) ps.toList asg body))
    (hK : ∀ s', s'[b]? = some (.map (esC (putC (x, y) (.sc (.int .i64 id)) os))) → s'[lid]? = some (.loop .ready none (pl 41) (ofF 43 F) ps.toList asg body) → (∀ j o, j ≠ b → j ≠ lid → s[j]? = some o → s'[j]? = some o) → K (.sc (.bool true)) s') :
    acallF Tryz.prog pl (n + 1) m Tryz.prog.funcs.size [.yl lid, .agg (cl x y)] s K := by
  simp only [Tryz.f41, Option.getD_some, frf, Option.some.injEq, Prod.mk.injEq] at hc
  obtain ⟨rfl, rfl, rfl⟩ := hc
  have hbl : b ≠ lid := fun he => by subst he; rw [hb] at hl; cases hl
  refine acallF_yl hl rfl ?_
  rw [show (#[24] : Array Tmp).toList = [24] from rfl, aputs_one (by decide)]
  simp only [cl, ↓zP,zV,Nat.reduceAdd,Nat.reduceMul,Nat.reduceLT,Nat.reduceEqDiff,Nat.reduceLeDiff,Int.reduceLE,Int.reduceLT,Int.reduceBNe,Int.reduceBEq,Int.reduceNeg,Int.reduceEq,Int.reduceAdd,Int.reduceGT,Int.reduceGE,reduceCtorEq]
  have g0 := Grw.push s [.cells [.sc (.int .i64 x), .sc (.int .i64 y)]]
  have c6 : (s ++ [Ob.cells [V.sc (.int .i64 x), V.sc (.int .i64 y)]])[s.length]? = some (.cells [V.sc (.int .i64 x), V.sc (.int .i64 y)]) := get_new0 _ _
  refine rdMid_ok (g0 _ _ hl) ?_
  generalize hs1 : (s ++ [Ob.cells [V.sc (.int .i64 x), V.sc (.int .i64 y)]]) = s1 at g0 c6
  have nl : s.length ≠ lid := fun he => by subst he; rw [List.getElem?_eq_none (Nat.le_refl _)] at hl; cases hl
  have lt : lid < s1.length := (List.getElem?_eq_some_iff.1 (g0 _ _ hl)).1
  have nc : ∀ (j : Nat) (c : List V), s[j]? = some (.cells c) → j ≠ lid := fun j c hj he => by subst he; rw [hl] at hj; cases hj
  generalize hs2 : s1.set lid _ = s2
  have k : ∀ j o, j ≠ lid → s1[j]? = some o → s2[j]? = some o := fun j o hj ho => by rw [← hs2, List.getElem?_set_ne (Ne.symm hj)]; exact ho
  have d2 := k _ _ (nc _ _ h2) (g0 _ _ h2)
  have d3 := k _ _ (nc _ _ h3) (g0 _ _ h3)
  have di := k _ _ (nc _ _ hix) (g0 _ _ hix)
  have db := k _ _ hbl (g0 _ _ hb)
  have d6 := k _ _ nl c6
  have up := up_cell (e := 3) (v := .sc (.int .i64 id)) Tryz.underlying90 rfl db x y
  simp only [q2, q3, d2, d3, di, d6, up, ↓zP,zV,Nat.reduceAdd,Nat.reduceMul,Nat.reduceLT,Nat.reduceEqDiff,Nat.reduceLeDiff,Int.reduceLE,Int.reduceLT,Int.reduceBNe,Int.reduceBEq,Int.reduceNeg,Int.reduceEq,Int.reduceAdd,Int.reduceGT,Int.reduceGE,reduceCtorEq]
  have dl : ∀ o, s1.set lid o = s2 → s2[lid]? = some o := fun o ho => by rw [← ho]; exact List.getElem?_set_self lt
  have dl := dl _ hs2
  have lb : b < s2.length := (List.getElem?_eq_some_iff.1 db).1
  refine rdEnd_normal (by rw [List.getElem?_set_ne hbl]; exact dl) ?_
  refine hK _ ?_ ?_ ?_
  · rw [List.getElem?_set_ne (Ne.symm hbl), List.getElem?_set_self lb]
  · rw [List.getElem?_set_self (by rw [List.length_set, ← hs2, List.length_set]; exact lt)]
  · intro j o hj hjl ho
    rw [List.getElem?_set_ne (Ne.symm hjl), List.getElem?_set_ne (Ne.symm hj)]
    exact k _ _ hjl (g0 _ _ ho)
set_option maxHeartbeats 1000000 in
theorem place_loop {ps : Array Tmp} {asg body : Code} (hc : frf (Tryz.f41.body.getD .skip) = some (ps, asg, body)) {F : Nat → V} {t2 t3 lid rb : Nat} {rr : List V} (q2 : F 2 = .ref t2 0) (q3 : F 3 = .ref t3 0)
    (hmay : mayB x y W H = true) (hm : W < m) (hm2 : H < m)
    (h2 : s[t2]? = some (.cells [.ref wd 0])) (h3 : s[t3]? = some (.cells (.sc (.int .i64 id) :: rr))) (hix : s[wd]? = some (.cells [.sc (.int .i64 WW), .sc (.int .i64 HH), tv, .map a, .map b, dv])) (hb : s[b]? = some (.map (esC os))) (hr : s[rb]? = some (.cells (rc x y W H)))
    (hl : s[lid]? = some (.loop .ready none (pl 41) (ofF 43 F) ps.toList asg body))
    (hK : ∀ s', s'[b]? = some (.map (esC (fillC (.sc (.int .i64 id)) x y W os (H * W)))) → s'[lid]? = some (.loop .ready none (pl 41) (ofF 43 F) ps.toList asg body) → Kp b lid s s' → K (.tup []) s') :
    acallF Tryz.prog pl (n + 4) m 57 [.yl lid, .ref rb 0] s K := by
  have hbl : b ≠ lid := fun he => by subst he; rw [hb] at hl; cases hl
  have nb : ∀ (j : Nat) (c : List V), s[j]? = some (.cells c) → j ≠ b := fun j c hj he => by subst he; rw [hb] at hj; cases hj
  have nl : ∀ (j : Nat) (c : List V), s[j]? = some (.cells c) → j ≠ lid := fun j c hj he => by subst he; rw [hl] at hj; cases hj
  refine c_Cells1 (x := x) (y := y) (W := W) (H := H) (I := fun k s' => s'[b]? = some (.map (esC (fillC (.sc (.int .i64 id)) x y W os k))) ∧ s'[lid]? = some (.loop .ready none (pl 41) (ofF 43 F) ps.toList asg body) ∧ Kp b lid s s') (J := fun _ => False)
    hmay hm hm2 (fun k s' h => h.2.2 _ _ (nb _ _ hr) (nl _ _ hr) hr) (fun k s1 s2 h g => ⟨g _ _ h.1, g _ _ h.2.1, fun j o h1 h2 h3 => g _ _ (h.2.2 j o h1 h2 h3)⟩) ⟨hb, hl, fun j o _ _ h => h⟩ ?_ (fun s' h => hK s' h.1 h.2.1 h.2.2) (fun s' h => h.elim)
  intro j i s' K' hj hi ⟨e1, e2, e3⟩ hK1 hK2
  refine place_yl (n := n + 2) hc q2 q3 (e3 _ _ (nb _ _ h2) (nl _ _ h2) h2) (e3 _ _ (nb _ _ h3) (nl _ _ h3) h3) (e3 _ _ (nb _ _ hix) (nl _ _ hix) hix) e1 e2 ?_
  intro s2 k1 k2 k3
  refine hK1 _ ⟨?_, k2, fun j o h1 h2 h3 => k3 j o h1 h2 (e3 j o h1 h2 h3)⟩
  rw [k1]
  simp only [fillC]
  rw [show (j * W + i) % W = i by rw [Nat.mul_comm, Nat.mul_add_mod, Nat.mod_eq_of_lt hi], show (j * W + i) / W = j by rw [Nat.mul_comm, Nat.mul_add_div (by omega), Nat.div_eq_of_lt hi, Nat.add_zero]]
end
structure R4 where
  x : Int
  y : Int
  w : Int
  h : Int
def R4.v (r : R4) : List V := rc r.x r.y r.w r.h
structure Wg (s : List Ob) (wd a b : Nat) (WW HH : Int) (tv dv : V) (ts : List V) (us : List (Int × V)) (os : List ((Int × Int) × V)) (ds : List R4) : Prop where
  wd : Wd s wd a b WW HH tv dv us os
  tl : Gl s 5 tv ts ts.length
  dl : Gl s 75 dv (ds.flatMap R4.v) ds.length
  ne : ∀ j, rowOf tv = some j → rowOf dv ≠ some j
  ab : a ≠ b
  rcs : ∀ i v, getI i us = some v → ∃ x y w h, v = .agg (rc x y w h)
def PK (wd a b : Nat) (dv : V) (s s' : List Ob) : Prop := s.length ≤ s'.length ∧ ∀ j o, j ≠ wd → j ≠ a → j ≠ b → rowOf dv ≠ some j → s[j]? = some o → s'[j]? = some o
theorem Gl.ncells {s : List Ob} {e : TypeId} {v : V} {xs cs : List V} {n j : Nat} (h : Gl s e v xs n) (hj : s[j]? = some (.cells cs)) : rowOf v ≠ some j := by
  rcases h with ⟨rfl, rfl, rfl⟩ | ⟨id, lo, rfl, h1, h2⟩
  · intro h; cases h
  · intro h
    simp only [rowOf, Option.some.injEq] at h
    subst h
    rw [h1] at hj; cases hj
theorem Gl.nmap {s : List Ob} {e : TypeId} {v : V} {xs : List V} {es : List (Value × V)} {n j : Nat} (h : Gl s e v xs n) (hj : s[j]? = some (.map es)) : rowOf v ≠ some j := by
  rcases h with ⟨rfl, rfl, rfl⟩ | ⟨id, lo, rfl, h1, h2⟩
  · intro h; cases h
  · intro h
    simp only [rowOf, Option.some.injEq] at h
    subst h
    rw [h1] at hj; cases hj
section
variable {n m : Nat} {st s : List Ob} {K : V → List Ob → Prop} {wd a b : Nat} {WW HH : Int} {tv dv : V} {ts : List V} {us : List (Int × V)} {os : List ((Int × Int) × V)} {ds : List R4} {x y w h id : Int}
theorem Wg.grw (h : Wg st wd a b WW HH tv dv ts us os ds) (k : Grw st s) : Wg s wd a b WW HH tv dv ts us os ds := ⟨h.wd.grw k, h.tl.grw k, h.dl.grw k, h.ne, h.ab, h.rcs⟩
theorem putI_rc {us : List (Int × V)} {id : Int} {v : V} (hv : ∃ x y w h, v = .agg (rc x y w h)) (hr : ∀ i v, getI i us = some v → ∃ x y w h, v = .agg (rc x y w h)) : ∀ i v', getI i (putI id v us) = some v' → ∃ x y w h, v' = .agg (rc x y w h) := by
  intro i v' h
  rw [getI_putI] at h
  split at h
  · cases h; exact hv
  · exact hr _ _ h
set_option maxHeartbeats 4000000000000 in
theorem w_Place1 (hi : Wg st wd a b WW HH tv dv ts us os ds) (hul : us.length < 1000000) (hdl : ds.length < 4000000000000) (hm : 8 < m)
    (hK1 : mayE us os WW HH id x y w h ≠ 0 → ∀ s, Grw st s → K (.sc (.int .i64 (mayE us os WW HH id x y w h))) s)
    (hK0 : mayE us os WW HH id x y w h = 0 → ∀ dv' s, Wg s wd a b WW HH tv dv' ts (putI id (.agg (rc x y w h)) us) (fillC (.sc (.int .i64 id)) x y w.toNat os (h.toNat * w.toNat)) (ds ++ [⟨x, y, w, h⟩]) → PK wd a b dv st s → (∀ j, rowOf dv' = some j → rowOf dv = some j ∨ st.length ≤ j) → K (.sc (.int .i64 0)) s) :
    acallF Tryz.prog pl (n + 8) m 41 [.ref wd 0, .agg (bd id x y w h)] st K := by
  refine acallF_inF Tryz.func41 rfl rfl Tryz.ntmps41 (by simp) ?_
  obtain ⟨S, hS⟩ : ∃ S, S = st ++ [Ob.cells [V.ref wd 0], Ob.cells (bd id x y w h)] := ⟨_, rfl⟩
  have g0 : Grw st S := by rw [hS]; exact .push _ _
  have c0 : S[st.length]? = some (.cells [V.ref wd 0]) := by rw [hS]; exact get_new _ _ 0
  have c1 : S[st.length + 1]? = some (.cells (bd id x y w h)) := by rw [hS]; exact get_new _ _ 1
  have lS : S.length = st.length + 2 := by rw [hS]; simp
  simp only [bd, rc] at hS
  simp only [bd, rc, ↓zP,zV,Nat.reduceAdd,Nat.reduceMul,Nat.reduceLT,Nat.reduceEqDiff,Nat.reduceLeDiff,Int.reduceLE,Int.reduceLT,Int.reduceBNe,Int.reduceBEq,Int.reduceNeg,Int.reduceEq,Int.reduceAdd,Int.reduceGT,Int.reduceGE,reduceCtorEq]
  rw [← hS]
  have hi0 := hi.grw g0
  refine w_May1 (n := n) hi0.wd hi0.rcs hul hm fun s1 j1 => ?_
  have c0_1 := j1 _ _ c0
  have c1_1 := j1 _ _ c1
  have hi1 := hi0.grw j1
  have g1 := g0.trans j1
  cases e0 : mayE us os WW HH id x y w h != 0
  case true =>
    have e0' : mayE us os WW HH id x y w h ≠ 0 := by simpa using e0
    simp only [e0, ↓zP,zV,Nat.reduceAdd,Nat.reduceMul,Nat.reduceLT,Nat.reduceEqDiff,Nat.reduceLeDiff,Int.reduceLE,Int.reduceLT,Int.reduceBNe,Int.reduceBEq,Int.reduceNeg,Int.reduceEq,Int.reduceAdd,Int.reduceGT,Int.reduceGE,reduceCtorEq]
    exact hK1 e0' _ g1
  have e0' : mayE us os WW HH id x y w h = 0 := by simpa using e0
  have hK0 := hK0 e0'
  have hbm : bmayB id x y w h WW HH = true := by
    cases hb : bmayB id x y w h WW HH
    · unfold mayE at e0'; rw [if_pos hb] at e0'; cases e0'
    · rfl
  obtain ⟨em, ew, eh, _, _⟩ := bmay_may hbm
  obtain ⟨fx, fy, fw, fh, fx2, fy2⟩ := may_facts em
  have w1 := hi1.wd.w
  simp only [bd, rc] at c1_1
  have up := up_int (e := 75) (v := .agg (rc x y w h)) Tryz.underlying110 rfl hi1.wd.us id
  simp only [rc] at up
  have la : a < s1.length := (List.getElem?_eq_some_iff.1 hi1.wd.us).1
  have ha0 : a < st.length := (List.getElem?_eq_some_iff.1 hi.wd.us).1
  have hb0 : b < st.length := (List.getElem?_eq_some_iff.1 hi.wd.os).1
  have hw0 : wd < st.length := (List.getElem?_eq_some_iff.1 hi.wd.w).1
  have c1' : ∀ o, (s1.set a o)[st.length + 1]? = s1[st.length + 1]? := fun o => List.getElem?_set_ne (by omega)
  simp only [c0_1, c1_1, w1, up, c1', e0, ↓zP,zV,Nat.reduceAdd,Nat.reduceMul,Nat.reduceLT,Nat.reduceEqDiff,Nat.reduceLeDiff,Int.reduceLE,Int.reduceLT,Int.reduceBNe,Int.reduceBEq,Int.reduceNeg,Int.reduceEq,Int.reduceAdd,Int.reduceGT,Int.reduceGE,reduceCtorEq]
  generalize hs4 : s1.set a _ = s4
  refine c_Cells ?_
  simp only [↓zP,zV,Nat.reduceAdd,Nat.reduceMul,Nat.reduceLT,Nat.reduceEqDiff,Nat.reduceLeDiff,Int.reduceLE,Int.reduceLT,Int.reduceBNe,Int.reduceBEq,Int.reduceNeg,Int.reduceEq,Int.reduceAdd,Int.reduceGT,Int.reduceGE,reduceCtorEq]
  obtain ⟨W, rfl⟩ := Int.eq_ofNat_of_zero_le (show 0 ≤ w by omega)
  obtain ⟨H, rfl⟩ := Int.eq_ofNat_of_zero_le (show 0 ≤ h by omega)
  simp only [Int.toNat_natCast] at hK0
  have k4 : ∀ j o, j ≠ a → s1[j]? = some o → s4[j]? = some o := fun j o hj ho => by rw [← hs4, List.getElem?_set_ne (Ne.symm hj)]; exact ho
  have u4 : s4[a]? = some (.map (esI (putI id (.agg (rc x y W H)) us))) := by rw [← hs4, List.getElem?_set_self la]; rfl
  have l4 : s4.length = s1.length := by rw [← hs4, List.length_set]
  have g5 := fun X => Grw.push s4 X
  have l1 : st.length + 2 ≤ s1.length := by have := (List.getElem?_eq_some_iff.1 c1_1).1; omega
  have nda : rowOf dv ≠ some a := hi.dl.nmap hi.wd.us
  have ndb : rowOf dv ≠ some b := hi.dl.nmap hi.wd.os
  have ndw : rowOf dv ≠ some wd := hi.dl.ncells hi.wd.w
  have nta : rowOf tv ≠ some a := hi.tl.nmap hi.wd.us
  have ntb : rowOf tv ≠ some b := hi.tl.nmap hi.wd.os
  have ntw : rowOf tv ≠ some wd := hi.tl.ncells hi.wd.w
  have hwa := hi.wd.nwa
  have hwb := hi.wd.nwb
  have hab := hi.ab
  refine place_loop (n := n + 3) rfl (t2 := st.length) (t3 := st.length + 1) (wd := wd) (a := a) (b := b) (WW := WW) (HH := HH) (tv := tv) (dv := dv) (os := os) (id := id) (by simp only [zF,Nat.reduceEqDiff,Nat.reduceLT]) (by simp only [zF,Nat.reduceEqDiff,Nat.reduceLT]) em (by omega) (by omega) (g5 _ _ _ (k4 _ _ (by omega) c0_1)) (g5 _ _ _ (k4 _ _ (by omega) c1_1)) (g5 _ _ _ (k4 _ _ hwa w1)) (g5 _ _ _ (k4 _ _ (Ne.symm hab) hi1.wd.os)) (get_new0 _ _) (get_new _ _ 1) ?_
  intro s5 k1 k2 k3
  refine rfEnd_normal k2 (by decide) ?_
  generalize hs6 : s5.set (s4.length + 1) _ = s6
  have k6 : ∀ j o, j ≠ a → j ≠ b → s1[j]? = some o → s6[j]? = some o := fun j o ja jb ho => by
    have lj : j < s1.length := (List.getElem?_eq_some_iff.1 ho).1
    rw [← hs6]
    exact frame_new (st := st) (k3 _ _ jb (by omega) (g5 _ _ _ (k4 _ _ ja ho))) (by omega) _
  have c0_6 := k6 _ _ (by omega) (by omega) c0_1
  have c1_6 := k6 _ _ (by omega) (by omega) c1_1
  have w6 := k6 _ _ hwa hwb w1
  have u6 : s6[a]? = some (.map (esI (putI id (.agg (rc x y W H)) us))) := by
    rw [← hs6]
    exact frame_new (st := st) (k3 _ _ hab (by omega) (g5 _ _ _ u4)) (by omega) _
  have o6 : s6[b]? = some (.map (esC (fillC (.sc (.int .i64 id)) x y W os (H * W)))) := by
    rw [← hs6]
    exact frame_new (st := st) k1 (by omega) _
  have t6 : Gl s6 5 tv ts ts.length := hi1.tl.of fun j o hj ho => k6 _ _ (fun h => nta (by rw [← h]; exact hj)) (fun h => ntb (by rw [← h]; exact hj)) ho
  have d6 : Gl s6 75 dv (ds.flatMap R4.v) ds.length := hi1.dl.of fun j o hj ho => k6 _ _ (fun h => nda (by rw [← h]; exact hj)) (fun h => ndb (by rw [← h]; exact hj)) ho
  have l6 : st.length + 2 ≤ s6.length := by have := (List.getElem?_eq_some_iff.1 c1_6).1; omega
  have g7 := fun X => Grw.push s6 X
  obtain ⟨dv', s7, ap, dl7, tr7, nw7⟩ := gl_app (P := Tryz.prog) (t := 111) (s := s6 ++ [.row 75 (rc x y W H) 1 0 false]) (x := .sl s6.length 0 1 false 1) (zs := rc x y W H) (k := 1) (d6.grw (g7 _)) Tryz.underlying111 sz75 by75 ze75 (by omega) rfl (flatMap_len (f := R4.v) (s := 4) (fun _ => rfl) _) (by simp only [elems, get_new0, List.getElem?_cons_zero, sz75]; rfl) rfl rfl (by omega) (by omega)
  have f7 : ∀ j o, rowOf dv ≠ some j → s6[j]? = some o → s7[j]? = some o := fun j o hj ho => tr7.2 _ _ hj (g7 _ _ _ ho)
  have ndc : ∀ j, st.length ≤ j → rowOf dv ≠ some j := fun j hj h => by
    rcases hi.dl with ⟨rfl, _, _⟩ | ⟨id, lo, rfl, h1, _⟩
    · cases h
    · simp only [rowOf, Option.some.injEq] at h
      have := (List.getElem?_eq_some_iff.1 h1).1
      omega
  have c0_7 := f7 _ _ (ndc _ (Nat.le_refl _)) c0_6
  have c1_7 := f7 _ _ (ndc _ (by omega)) c1_6
  have w7 := f7 _ _ ndw w6
  have c0X := fun X => g7 X _ _ c0_6
  have c1X := fun X => g7 X _ _ c1_6
  have w6X := fun X => g7 X _ _ w6
  obtain ⟨hone, hcell⟩ := dl7.one
  simp only [rc] at ap
  have r7 : s7[s6.length]? = some (.row 75 (rc x y W H) 1 0 false) := tr7.2 _ _ (ndc _ (by omega)) (get_new0 _ _)
  have r7' : ∀ o, (s7.set wd o)[s6.length]? = some (.row 75 (rc x y W H) 1 0 false) := fun o => by rw [List.getElem?_set_ne (by omega)]; exact r7
  simp only [rc] at r7'
  simp only [c0_6, c1_6, w6, c0X, c1X, w6X, c0_7, c1_7, w7, ap, hone, hcell, r7', ↓zP,zV,Nat.reduceAdd,Nat.reduceMul,Nat.reduceLT,Nat.reduceEqDiff,Nat.reduceLeDiff,Int.reduceLE,Int.reduceLT,Int.reduceBNe,Int.reduceBEq,Int.reduceNeg,Int.reduceEq,Int.reduceAdd,Int.reduceGT,Int.reduceGE,reduceCtorEq]
  have lw : wd < s7.length := (List.getElem?_eq_some_iff.1 w7).1
  have k8 : ∀ (o' : Ob) j o, j ≠ wd → s7[j]? = some o → (s7.set wd o')[j]? = some o := fun o' j o hj ho => by rw [List.getElem?_set_ne (Ne.symm hj)]; exact ho
  have ntl : ∀ j, rowOf tv = some j → j < st.length := fun j h => by
    rcases hi.tl with ⟨rfl, _, _⟩ | ⟨id, lo, rfl, h1, _⟩
    · cases h
    · simp only [rowOf, Option.some.injEq] at h
      have := (List.getElem?_eq_some_iff.1 h1).1
      omega
  have l61 : (s6 ++ [Ob.row 75 (rc x y W H) 1 0 false]).length = s6.length + 1 := by simp
  refine hK0 dv' _ ⟨⟨?_, k8 _ _ _ (Ne.symm hwa) (f7 _ _ nda u6), k8 _ _ _ (Ne.symm hwb) (f7 _ _ ndb o6)⟩, t6.of fun j o hj ho => k8 _ _ _ (fun h => ntw (by rw [← h]; exact hj)) (f7 _ _ (hi.ne j hj) ho), ?_, fun j hj h => ?_, hab, putI_rc ⟨_, _, _, _, rfl⟩ hi.rcs⟩ ⟨?_, fun j o jw ja jb jd ho => k8 _ _ _ jw (f7 _ _ jd (k6 _ _ ja jb (g1 _ _ ho)))⟩ fun j h => ?_
  · exact List.getElem?_set_self lw
  · have e : (ds ++ [(⟨x, y, (W : Int), (H : Int)⟩ : R4)]).flatMap R4.v = ds.flatMap R4.v ++ rc x y W H := by simp [List.flatMap_append, R4.v]
    have e2 : (ds ++ [(⟨x, y, (W : Int), (H : Int)⟩ : R4)]).length = ds.length + 1 := by simp
    rw [e, e2]
    refine dl7.of fun j o hj ho => k8 _ _ _ (fun h => ?_) ho
    rcases nw7 j hj with h' | h'
    · exact ndw (by rw [← h]; exact h')
    · omega
  · rcases nw7 j h with h' | h'
    · exact hi.ne j hj h'
    · have := ntl j hj
      omega
  · rw [List.length_set]
    have := (List.getElem?_eq_some_iff.1 c1_7).1
    omega
  · rcases nw7 j h with h' | h'
    · exact .inl h'
    · exact .inr (by omega)
end
section
variable {n m : Nat} {st s : List Ob} {K : V → List Ob → Prop} {wd a b : Nat} {WW HH : Int} {tv dv : V} {ts : List V} {us : List (Int × V)} {os : List ((Int × Int) × V)} {ds : List R4} {x y w h id : Int}
theorem w_At1 (hi : Wd st wd a b WW HH tv dv us os) (hK : ∀ s, Grw st s → K (match getC (x, y) os with | some v => .tup [v, .sc (.bool true)] | none => .tup [.sc (.int .i64 0), .sc (.bool false)]) s) : acallF Tryz.prog pl (n + 2) m 118 [.ref wd 0, .agg (cl x y)] st K := by
  refine acallF_inF Tryz.func118 rfl rfl Tryz.ntmps118 (by simp) ?_
  have g0 := Grw.push st [.cells (cl x y)]
  have c0 : (st ++ [Ob.cells (cl x y)])[st.length]? = some (.cells (cl x y)) := get_new0 _ _
  have hi0 := hi.grw g0
  have h1 := hi0.w
  have h2 := lk_cell (e := 3) (z := .sc (.int .i64 0)) Tryz.underlying90 (by kernel_rfl) hi0.os x y
  simp only [cl] at g0 c0 h1 h2
  simp only [cl, ↓zP,zV,Nat.reduceAdd,Nat.reduceMul,Nat.reduceLT,Nat.reduceEqDiff,Nat.reduceLeDiff,Int.reduceLE,Int.reduceLT,Int.reduceBNe,Int.reduceBEq,Int.reduceNeg,Int.reduceEq,Int.reduceAdd,Int.reduceGT,Int.reduceGE,reduceCtorEq]
  simp only [cl] at hi0
  refine w_is1 hi0 ?_
  cases hq : getC (x, y) os with
  | none =>
    rw [hq] at hK h2
    simp only [h1, h2, c0, ↓zP,zV,Nat.reduceAdd,Nat.reduceMul,Nat.reduceLT,Nat.reduceEqDiff,Nat.reduceLeDiff,Int.reduceLE,Int.reduceLT,Int.reduceBNe,Int.reduceBEq,Int.reduceNeg,Int.reduceEq,Int.reduceAdd,Int.reduceGT,Int.reduceGE,reduceCtorEq]
    exact hK _ g0
  | some v =>
    rw [hq] at hK h2
    simp only [h1, h2, c0, ↓zP,zV,Nat.reduceAdd,Nat.reduceMul,Nat.reduceLT,Nat.reduceEqDiff,Nat.reduceLeDiff,Int.reduceLE,Int.reduceLT,Int.reduceBNe,Int.reduceBEq,Int.reduceNeg,Int.reduceEq,Int.reduceAdd,Int.reduceGT,Int.reduceGE,reduceCtorEq]
    exact hK _ g0
theorem w_Terrain1 (hi : Wg st wd a b WW HH tv dv ts us os ds) (hW : 1 ≤ WW ∧ WW ≤ 128) (hH : 1 ≤ HH ∧ HH ≤ 128) (hl : (ts.length : Int) = WW * HH) (hb : ∀ v ∈ ts, ∃ k : Int, v = .sc (.int .u8 k) ∧ 0 ≤ k ∧ k < 256)
    (hK0 : hasB 0 0 WW HH x y = false → ∀ s, Grw st s → K (.tup [.sc (.int .i64 0), .sc (.bool false)]) s)
    (hK1 : hasB 0 0 WW HH x y = true → ∀ k s, ts[(y * WW + x).toNat]? = some (.sc (.int .u8 k)) → Grw st s → K (.tup [.sc (.int .i64 k), .sc (.bool true)]) s) :
    acallF Tryz.prog pl (n + 5) m 117 [.ref wd 0, .agg (cl x y)] st K := by
  refine acallF_inF Tryz.func117 rfl rfl Tryz.ntmps117 (by simp) ?_
  have g0 := Grw.push st [.cells (cl x y)]
  have c0 : (st ++ [Ob.cells (cl x y)])[st.length]? = some (.cells (cl x y)) := get_new _ _ 0
  simp only [cl] at g0 c0
  simp only [cl, ↓zP,zV,Nat.reduceAdd,Nat.reduceMul,Nat.reduceLT,Nat.reduceEqDiff,Nat.reduceLeDiff,Int.reduceLE,Int.reduceLT,Int.reduceBNe,Int.reduceBEq,Int.reduceNeg,Int.reduceEq,Int.reduceAdd,Int.reduceGT,Int.reduceGE,reduceCtorEq]
  refine w_All1 (n := n + 2) (hi.grw g0).wd fun s1 j1 => ?_
  have c1 := j1 _ _ c0
  simp only [c0, c1, j1, ↓zP,zV,Nat.reduceAdd,Nat.reduceMul,Nat.reduceLT,Nat.reduceEqDiff,Nat.reduceLeDiff,Int.reduceLE,Int.reduceLT,Int.reduceBNe,Int.reduceBEq,Int.reduceNeg,Int.reduceEq,Int.reduceAdd,Int.reduceGT,Int.reduceGE,reduceCtorEq]
  refine c_Has (n := n) fun s2 j2 => ?_
  have c2 := j2 _ _ c1
  have hi2 := ((hi.grw g0).grw j1).grw j2
  have g2 := (g0.trans j1).trans j2
  cases e : hasB 0 0 WW HH x y
  · simp only [c0, c1, j1, j2, ↓zP,zV,Nat.reduceAdd,Nat.reduceMul,Nat.reduceLT,Nat.reduceEqDiff,Nat.reduceLeDiff,Int.reduceLE,Int.reduceLT,Int.reduceBNe,Int.reduceBEq,Int.reduceNeg,Int.reduceEq,Int.reduceAdd,Int.reduceGT,Int.reduceGE,reduceCtorEq]
    exact hK0 e _ g2
  have e' := e
  simp only [hasB, inB, Bool.and_eq_true, decide_eq_true_eq] at e'
  obtain ⟨_, ⟨⟨hx0, hx1⟩, hy0⟩, hy1⟩ := e'
  have h1 := hi2.wd.w
  have hb0 : 0 ≤ y * WW := Int.mul_nonneg (by omega) (by omega)
  have hb1 : y * WW ≤ (HH - 1) * WW := Int.mul_le_mul_of_nonneg_right (by omega) (by omega)
  have hb3 : (HH - 1) * WW = WW * HH - WW := by rw [Int.sub_mul, Int.one_mul, Int.mul_comm]
  have hb2 : WW * HH ≤ 128 * 128 := Int.mul_le_mul hW.2 hH.2 (by omega) (by omega)
  have e1 : IntKind.i64.wrap (y * WW) = y * WW := wi64 (by omega) (by omega)
  have e2 : IntKind.i64.wrap (y * WW + x) = y * WW + x := wi64 (by omega) (by omega)
  obtain ⟨q, hq⟩ := Int.eq_ofNat_of_zero_le (show 0 ≤ y * WW + x by omega)
  have hql : q < ts.length := by omega
  obtain ⟨k, hk, hk0, hk1⟩ := hb ts[q] (List.getElem_mem hql)
  have rd := hi2.tl.rd sz5 (by omega)
  have p1 := aix_rd rd Tryz.underlying22 sz5 .i64 (j := (q : Int)) (by omega) (by omega)
  have p2 := ald_ix rd sz5 sz5 (by omega) hql (o := 0) (by omega)
  have p3 : aload Tryz.prog 5 (ts.drop (q * 1 + 0)) = some (.sc (.int .u8 k)) := by
    simp only [aload, ag5, Nat.mul_one, Nat.add_zero]
    rw [List.getElem?_drop, Nat.add_zero, List.getElem?_eq_getElem hql, hk]
  rw [p3] at p2
  simp only [Int.toNat_natCast] at p1
  have e3 : IntKind.i64.wrap k = k := wi64 (by omega) (by omega)
  have fin := hK1 e k s2 (by rw [hq, Int.toNat_natCast, List.getElem?_eq_getElem hql, hk]) g2
  rw [hq] at e2
  simp only [c0, c1, c2, j1, j2, h1, e1, e2, hq, p1, p2, e3, ↓zP,zV,Nat.reduceAdd,Nat.reduceMul,Nat.reduceLT,Nat.reduceEqDiff,Nat.reduceLeDiff,Int.reduceLE,Int.reduceLT,Int.reduceBNe,Int.reduceBEq,Int.reduceNeg,Int.reduceEq,Int.reduceAdd,Int.reduceGT,Int.reduceGE,reduceCtorEq]
  exact fin
end
end Go.Proofs.YtpdhoicpaonggaaGreat
