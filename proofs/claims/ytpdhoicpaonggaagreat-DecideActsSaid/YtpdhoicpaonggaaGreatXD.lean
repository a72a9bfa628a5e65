/- Chapter 21: what comes of a unit, by the program. Chapter 21: what comes of a unit, by the reference. -/
import Derived.Test.YtpdhoicpaonggaaGreatXA
set_option linter.unusedVariables false
set_option linter.unusedSimpArgs false
set_option maxRecDepth 10000
namespace Go.Proofs.YtpdhoicpaonggaaGreat
open Go Go.M Go.RowKit
attribute [local congr] acallF_cong aloop_cong bcase_cong resK_cong valK_cong wantK_cong callK_cong xputK_cong qputK_cong resM_cong rfK_cong
attribute [local irreducible] seqK blockK loopK nextK bcase resK valK wantK funK putK dputK xputK qputK callK aops aop acode adraw aloop acallF acall invK resM rfK rfEnd rdEnd rdMid around
def stopU (u : Un) : Un := {u with ph := 0, gx := 0, gy := 0, wt := 0, P := []}
def aimU (u : Un) (gx gy : Int) : Un := if (gx == u.x && gy == u.y) = true then stopU u else {stopU u with ph := 2, gx := gx, gy := gy}
def stepU (u : Un) (c : Int × Int) (Q : List (Int × Int)) : Un := if Q = [] then stopU {u with x := c.1, y := c.2} else {u with x := c.1, y := c.2, wt := 0, P := Q}
def holdU (u : Un) : Un := {u with wt := if u.wt < 15 then u.wt + 1 else u.wt}
def actU (u : Un) : Int × Int × Int → Un
  | (k, x, y) => if k = 1 then (match u.P with | c :: Q => stepU u c Q | [] => u) else if k = 3 then aimU {u with x := x, y := y} u.gx u.gy else if k = 2 then holdU u else if k = 4 then aimU u u.gx u.gy else u
def nilP : V := .tsl [] 0 true true
theorem pth_nil (s : List Ob) : Pth s nilP [] := ⟨⟨rfl, ⟨fun b hb => (by cases hb), fun _ => rfl⟩, fun _ _ => by simp⟩, ⟨rfl, rfl⟩⟩
theorem closed_path : ∀ P : List (Int × Int), closedL (P.flatMap cpV) = true
  | [] => rfl
  | c :: P => by
    rw [List.flatMap_cons]
    simp only [cpV, cl, List.cons_append, List.nil_append, closedL, closed, closed_path P, Bool.and_self]
theorem path_len (P : List (Int × Int)) : (P.flatMap cpV).length = P.length * 2 := flatMap_len (f := cpV) (s := 2) (fun _ => rfl) P
theorem gl_pth {s : List Ob} {v : V} {P : List (Int × Int)} (h : Gl s 31 v (P.flatMap cpV) P.length) : Pth s v P := ⟨h.rd sz31 (path_len P), h.one⟩
theorem Pth.set_ {s : List Ob} {pv : V} {P : List (Int × Int)} {i : Nat} {c0 : List V} (h : Pth s pv P) (h0 : s[i]? = some (.cells c0)) (c1 : List V) : Pth (s.set i (.cells c1)) pv P := ⟨h.1.trn h0 ⟨get_set h0 _, fun j o hj ho => by rw [List.getElem?_set_ne (Ne.symm hj)]; exact ho⟩, h.2⟩
section
variable {n m : Nat} {st s : List Ob} {K : V → List Ob → Prop} {pv : V} {u : Un} {x y gx gy : Int}
theorem c_cloneC {v : V} {P : List (Int × Int)} (h : Rd Tryz.prog st 31 v (P.flatMap cpV) P.length) (hl : P.length ≤ 20000) (hK : ∀ v' s, Pth s v' P → Grw st s → K v' s) : acallF Tryz.prog pl (n + 1) m 62 [v] st K := by
  refine acallF_inF Tryz.func62 rfl rfl Tryz.ntmps62 (by simp) ?_
  have e := fun x y => abin_nileq h Tryz.underlying32 x y [] 0 true
  cases hv : nilV v
  · have hx := (h.grw (Grw.push st [Ob.row 31 [] 0 0 false])).1
    have ap := append_own (st := st ++ [Ob.row 31 [] 0 0 false]) (id := st.length) (get_new0 _ _) (Nat.zero_le _) Tryz.underlying32 sz31 by31 ze31 (by omega) rfl hx (closed_path P) (h.2.2 _ sz31) (by omega) (by omega)
    rw [M.set_new0] at ap
    simp only [Nat.zero_add, List.nil_append, List.set_cons_zero] at ap
    simp only [e, hv, ap, ↓zP,zV,Nat.reduceAdd,Nat.reduceMul,Nat.reduceLT,Nat.reduceEqDiff,Nat.reduceLeDiff,Int.reduceLE,Int.reduceLT,Int.reduceBNe,Int.reduceBEq,Int.reduceNeg,Int.reduceEq,Int.reduceAdd,Int.reduceGT,Int.reduceGE,reduceCtorEq]
    exact hK _ _ (gl_pth (.inr ⟨_, 0, rfl, get_new0 _ _, Nat.zero_le _⟩)) (Grw.push _ _)
  · have hk := rd_nil h hv
    have hP : P = [] := List.length_eq_zero_iff.1 hk
    subst hP
    simp only [e, hv, ↓zP,zV,Nat.reduceAdd,Nat.reduceMul,Nat.reduceLT,Nat.reduceEqDiff,Nat.reduceLeDiff,Int.reduceLE,Int.reduceLT,Int.reduceBNe,Int.reduceBEq,Int.reduceNeg,Int.reduceEq,Int.reduceAdd,Int.reduceGT,Int.reduceGE,reduceCtorEq]
    exact hK _ _ (pth_nil _) (fun _ _ h => h)
theorem u_goes (hp : Pth st pv u.P) (hph : u.ph = 1) (hok : (headB u && movB u) = true) (hm : 20000 < m) (hK : ∀ s, Grw st s → K (.sc (.bool true)) s) : acallF Tryz.prog pl (n + 8) m 61 [.agg (unV u pv)] st K := by
  refine acallF_inF Tryz.func61 rfl rfl Tryz.ntmps61 (by simp) ?_
  obtain ⟨o1, o2⟩ := hp.2
  have e1 : (u.ph == 1) = true := beq_iff_eq.2 hph
  have g0 := Grw.push st [.cells (unV u pv)]
  simp only [unV] at g0
  simp only [unV, o1, o2, e1, get_new, get_new0, ↓zP,zV,Nat.reduceAdd,Nat.reduceMul,Nat.reduceLT,Nat.reduceEqDiff,Nat.reduceLeDiff,Int.reduceLE,Int.reduceLT,Int.reduceBNe,Int.reduceBEq,Int.reduceNeg,Int.reduceEq,Int.reduceAdd,Int.reduceGT,Int.reduceGE,reduceCtorEq]
  refine u_Check (n := n) (u := u) (pv := pv) (hp.grw g0) hph hm (fun _ s1 j1 => ?_) (fun h => by rw [hok] at h; cases h)
  simp only [↓zP,zV,Nat.reduceAdd,Nat.reduceMul,Nat.reduceLT,Nat.reduceEqDiff,Nat.reduceLeDiff,Int.reduceLE,Int.reduceLT,Int.reduceBNe,Int.reduceBEq,Int.reduceNeg,Int.reduceEq,Int.reduceAdd,Int.reduceGT,Int.reduceGE,reduceCtorEq]
  exact hK _ (g0.trans j1)
theorem u_Stop (o1 : M.one pv = true) (o2 : cellsV pv = [pv]) (hK : ∀ s, Grw st s → K (.agg (unV (stopU u) nilP)) s) : acallF Tryz.prog pl (n + 1) m 63 [.agg (unV u pv)] st K := by
  refine acallF_inF Tryz.func63 rfl rfl Tryz.ntmps63 (by simp) ?_
  simp only [unV, stopU, nilP] at hK
  simp only [unV, o1, o2, ↓zP,zV,Nat.reduceAdd,Nat.reduceMul,Nat.reduceLT,Nat.reduceEqDiff,Nat.reduceLeDiff,Int.reduceLE,Int.reduceLT,Int.reduceBNe,Int.reduceBEq,Int.reduceNeg,Int.reduceEq,Int.reduceAdd,Int.reduceGT,Int.reduceGE,reduceCtorEq]
  exact hK _ (Grw.push _ _)
theorem u_Aim (o1 : M.one pv = true) (o2 : cellsV pv = [pv]) (hK : ∀ s, Grw st s → K (.agg (unV (aimU u gx gy) nilP)) s) : acallF Tryz.prog pl (n + 2) m 64 [.agg (unV u pv), .agg (cl gx gy)] st K := by
  refine acallF_inF Tryz.func64 rfl rfl Tryz.ntmps64 (by simp) ?_
  have g0 := Grw.push st [.cells (unV u pv), .cells (cl gx gy), .cells [.sc (.int .i64 0), .sc (.int .i64 0), .sc (.int .i64 0), .sc (.int .i64 0), .sc (.int .i64 0), .sc (.int .i64 0), .sc (.int .i64 0), .sc (.int .i64 0), .sc (.int .i64 0), .tsl [] 0 true true, .sc (.int .i64 0)]]
  have c0 := get_new st [Ob.cells (unV u pv), .cells (cl gx gy), .cells [.sc (.int .i64 0), .sc (.int .i64 0), .sc (.int .i64 0), .sc (.int .i64 0), .sc (.int .i64 0), .sc (.int .i64 0), .sc (.int .i64 0), .sc (.int .i64 0), .sc (.int .i64 0), .tsl [] 0 true true, .sc (.int .i64 0)]] 0
  have c1 := get_new st [Ob.cells (unV u pv), .cells (cl gx gy), .cells [.sc (.int .i64 0), .sc (.int .i64 0), .sc (.int .i64 0), .sc (.int .i64 0), .sc (.int .i64 0), .sc (.int .i64 0), .sc (.int .i64 0), .sc (.int .i64 0), .sc (.int .i64 0), .tsl [] 0 true true, .sc (.int .i64 0)]] 1
  have c2 := get_new st [Ob.cells (unV u pv), .cells (cl gx gy), .cells [.sc (.int .i64 0), .sc (.int .i64 0), .sc (.int .i64 0), .sc (.int .i64 0), .sc (.int .i64 0), .sc (.int .i64 0), .sc (.int .i64 0), .sc (.int .i64 0), .sc (.int .i64 0), .tsl [] 0 true true, .sc (.int .i64 0)]] 2
  simp only [unV, cl, List.getElem?_cons_zero, List.getElem?_cons_succ, Nat.add_zero] at g0 c0 c1 c2
  simp only [unV, cl, o1, o2, c0, ↓zP,zV,Nat.reduceAdd,Nat.reduceMul,Nat.reduceLT,Nat.reduceEqDiff,Nat.reduceLeDiff,Int.reduceLE,Int.reduceLT,Int.reduceBNe,Int.reduceBEq,Int.reduceNeg,Int.reduceEq,Int.reduceAdd,Int.reduceGT,Int.reduceGE,reduceCtorEq]
  refine u_Stop (n := n) (u := u) (pv := pv) o1 o2 fun s1 j1 => ?_
  have a0 := j1 _ _ c0
  have a1 := j1 _ _ c1
  have a2 := j1 _ _ c2
  have g1 := g0.trans j1
  have n01 : st.length ≠ st.length + 1 := by omega
  have n02 : st.length ≠ st.length + 2 := by omega
  have q0 := fun o => get_set a0 o
  have q1 : ∀ o, (s1.set st.length o)[st.length + 1]? = _ := fun o => (List.getElem?_set_ne n01).trans a1
  have q2 : ∀ o, (s1.set st.length o)[st.length + 2]? = _ := fun o => (List.getElem?_set_ne n02).trans a2
  have q3 := fun o o' => get_set (q2 o) o'
  have q4 := fun o => get_set (q0 o)
  have stn : ∀ o o', Grw st ((s1.set st.length o).set (st.length + 2) o') := fun o o' => (g1.set (Nat.le_refl _) o).set (by omega) o'
  cases e : (gx == u.x && gy == u.y) with
  | true =>
    simp only [aimU, e, if_true, unV, stopU, nilP] at hK
    simp only [unV, stopU, nilP, a0, q0, q1, q2, q3, e, cmp_cellN, List.set_set, ↓zP,zV,Nat.reduceAdd,Nat.reduceMul,Nat.reduceLT,Nat.reduceEqDiff,Nat.reduceLeDiff,Int.reduceLE,Int.reduceLT,Int.reduceBNe,Int.reduceBEq,Int.reduceNeg,Int.reduceEq,Int.reduceAdd,Int.reduceGT,Int.reduceGE,reduceCtorEq]
    exact hK _ (stn _ _)
  | false =>
    simp only [aimU, e, Bool.false_eq_true, if_false, unV, stopU, nilP] at hK
    simp only [unV, stopU, nilP, a0, q0, q1, q2, q3, e, cmp_cellN, List.set_set, ↓zP,zV,Nat.reduceAdd,Nat.reduceMul,Nat.reduceLT,Nat.reduceEqDiff,Nat.reduceLeDiff,Int.reduceLE,Int.reduceLT,Int.reduceBNe,Int.reduceBEq,Int.reduceNeg,Int.reduceEq,Int.reduceAdd,Int.reduceGT,Int.reduceGE,reduceCtorEq]
    exact hK _ (stn _ _)
def zeroU : List V := [.sc (.int .i64 0), .sc (.int .i64 0), .sc (.int .i64 0), .sc (.int .i64 0), .sc (.int .i64 0), .sc (.int .i64 0), .sc (.int .i64 0), .sc (.int .i64 0), .sc (.int .i64 0), .tsl [] 0 true true, .sc (.int .i64 0)]
theorem ok_len (h : (headB u && movB u) = true) : u.P.length ≤ 16384 := by
  simp only [movB, Bool.and_eq_true, decide_eq_true_eq] at h
  exact h.2.1.1
theorem ok_wt (h : (headB u && movB u) = true) : 0 ≤ u.wt ∧ u.wt ≤ 15 := by
  simp only [headB, Bool.and_eq_true, Bool.not_eq_true', decide_eq_false_iff_not] at h
  omega
set_option maxHeartbeats 4000000 in
theorem u_Step (hp : Pth st pv u.P) (hcut : Cut Tryz.prog st 31 pv (u.P.flatMap cpV) u.P.length) (hph : u.ph = 1) (hok : (headB u && movB u) = true) (hm : 20000 < m) {c : Int × Int} {Q : List (Int × Int)} (hP : u.P = c :: Q)
    (hK : ∀ pv' s, Pth s pv' (stepU u c Q).P → Grw st s → K (.tup [.agg (unV (stepU u c Q) pv'), .sc (.int .i64 0)]) s) : acallF Tryz.prog pl (n + 9) m 25 [.agg (unV u pv)] st K := by
  refine acallF_inF Tryz.func25 rfl rfl Tryz.ntmps25 (by simp) ?_
  obtain ⟨o1, o2⟩ := hp.2
  have hlen := ok_len hok
  rw [hP, List.length_cons] at hlen
  obtain ⟨S, hS⟩ : ∃ S, S = st ++ [Ob.cells (unV u pv), .cells zeroU] := ⟨_, rfl⟩
  have g0 : Grw st S := by rw [hS]; exact .push _ _
  have c0 : S[st.length]? = some (.cells (unV u pv)) := by rw [hS]; exact get_new _ _ 0
  have c1 : S[st.length + 1]? = some (.cells zeroU) := by rw [hS]; exact get_new _ _ 1
  simp only [unV, zeroU] at hS c0 c1
  simp only [unV, o1, o2, get_new, get_new0, List.getElem?_cons_zero, ↓zP,zV,Nat.reduceAdd,Nat.reduceMul,Nat.reduceLT,Nat.reduceEqDiff,Nat.reduceLeDiff,Int.reduceLE,Int.reduceLT,Int.reduceBNe,Int.reduceBEq,Int.reduceNeg,Int.reduceEq,Int.reduceAdd,Int.reduceGT,Int.reduceGE,reduceCtorEq]
  rw [← hS]
  refine u_goes (n := n) (u := u) (pv := pv) (hp.grw g0) hph hok hm fun s1 j1 => ?_
  have a0 := j1 _ _ c0
  have a1 := j1 _ _ c1
  have g1 := g0.trans j1
  have i1 := fun s (g : Grw st s) => ((hp.grw g).ix (i := 0) (by rw [hP]; simp)).1
  have i2 := fun s (g : Grw st s) => ((hp.grw g).ix (i := 0) (by rw [hP]; simp)).2
  simp only [hP, List.getElem_cons_zero, Int.natCast_zero] at i1 i2
  obtain ⟨vs, ka, na⟩ := slice_end (hcut.grw g1) Tryz.underlying32 sz31 (lo := 1) (by rw [hP]; simp)
  rw [hP, List.flatMap_cons, show (cpV c ++ Q.flatMap cpV).drop (1 * 2) = Q.flatMap cpV from rfl, List.length_cons, Nat.add_sub_cancel] at na
  simp only [Int.natCast_one] at ka
  simp only [a0, i1 _ g1, i2 _ g1, ka, ↓zP,zV,Nat.reduceAdd,Nat.reduceMul,Nat.reduceLT,Nat.reduceEqDiff,Nat.reduceLeDiff,Int.reduceLE,Int.reduceLT,Int.reduceBNe,Int.reduceBEq,Int.reduceNeg,Int.reduceEq,Int.reduceAdd,Int.reduceGT,Int.reduceGE,reduceCtorEq]
  refine c_cloneC (n := n + 7) (P := Q) na.1 (by omega) fun pv' s2 hp' j2 => ?_
  obtain ⟨o3, o4⟩ := hp'.2
  have b0 := j2 _ _ a0
  have b1 := j2 _ _ a1
  have g2 := g1.trans j2
  have q0 := fun o => get_set b0 o
  have n01 : st.length ≠ st.length + 1 := by omega
  have q1 : ∀ o, (s2.set st.length o)[st.length + 1]? = _ := fun o => (List.getElem?_set_ne n01).trans b1
  have stn : ∀ o, Grw st (s2.set st.length o) := fun o => g2.set (Nat.le_refl _) o
  have hp2 : ∀ c1, Pth (s2.set st.length (.cells c1)) pv' Q := fun c1 => hp'.set_ b0 c1
  have pL := fun c1 => (hp2 c1).len
  have q3 := fun o o' => get_set (q1 o) o'
  have stn2 : ∀ o o', Grw st ((s2.set st.length o).set (st.length + 1) o') := fun o o' => (stn o).set (by omega) o'
  cases hQ : Q with
  | nil =>
    have hK := hK nilP
    simp only [stepU, hQ, if_true] at hK
    simp only [hQ, List.length_nil] at pL
    simp only [a0, b0, b1, q0, q1, i1 _ g1, i2 _ g1, i1 _ g2, i2 _ g2, ka, o.aslice_grw j2 ka, o3, o4, pL, List.set_set, ↓zP,zV,Nat.reduceAdd,Nat.reduceMul,Nat.reduceLT,Nat.reduceEqDiff,Nat.reduceLeDiff,Int.reduceLE,Int.reduceLT,Int.reduceBNe,Int.reduceBEq,Int.reduceNeg,Int.reduceEq,Int.reduceAdd,Int.reduceGT,Int.reduceGE,reduceCtorEq]
    refine u_Stop (n := n + 7) (u := {u with x := c.1, y := c.2, wt := 0}) (pv := pv') o3 o4 fun s3 j3 => ?_
    have z1 := j3 _ _ (q1 _)
    have z2 := fun o => get_set z1 o
    simp only [unV, stopU, nilP] at hK
    simp only [unV, stopU, nilP, z1, z2, ↓zP,zV,Nat.reduceAdd,Nat.reduceMul,Nat.reduceLT,Nat.reduceEqDiff,Nat.reduceLeDiff,Int.reduceLE,Int.reduceLT,Int.reduceBNe,Int.reduceBEq,Int.reduceNeg,Int.reduceEq,Int.reduceAdd,Int.reduceGT,Int.reduceGE,reduceCtorEq]
    exact hK _ (pth_nil _) (((stn _).trans j3).set (by omega) _)
  | cons d Q' =>
    have hK := hK pv'
    simp only [stepU, hQ, reduceCtorEq, if_false] at hK
    have hz : (((Q'.length + 1 : Nat) : Int) == 0) = false := beq_eq_false_iff_ne.2 (by omega)
    simp only [hQ, List.length_cons] at pL hp2
    simp only [a0, b0, b1, q0, q1, q3, i1 _ g1, i2 _ g1, i1 _ g2, i2 _ g2, ka, o.aslice_grw j2 ka, o3, o4, pL, hz, List.set_set, ↓zP,zV,Nat.reduceAdd,Nat.reduceMul,Nat.reduceLT,Nat.reduceEqDiff,Nat.reduceLeDiff,Int.reduceLE,Int.reduceLT,Int.reduceBNe,Int.reduceBEq,Int.reduceNeg,Int.reduceEq,Int.reduceAdd,Int.reduceGT,Int.reduceGE,reduceCtorEq]
    simp only [unV] at hK
    exact hK _ ((hp2 _).set_ (q1 _) _) (stn2 _ _)
set_option maxHeartbeats 4000000 in
theorem u_Hold (hp : Pth st pv u.P) (hph : u.ph = 1) (hok : (headB u && movB u) = true) (hm : 20000 < m)
    (hK : ∀ pv' s, Pth s pv' (holdU u).P → Grw st s → K (.tup [.agg (unV (holdU u) pv'), .sc (.int .i64 0)]) s) : acallF Tryz.prog pl (n + 9) m 27 [.agg (unV u pv)] st K := by
  refine acallF_inF Tryz.func27 rfl rfl Tryz.ntmps27 (by simp) ?_
  obtain ⟨o1, o2⟩ := hp.2
  have hlen := ok_len hok
  obtain ⟨hw0, hw1⟩ := ok_wt hok
  obtain ⟨S, hS⟩ : ∃ S, S = st ++ [Ob.cells (unV u pv), .cells zeroU] := ⟨_, rfl⟩
  have g0 : Grw st S := by rw [hS]; exact .push _ _
  have c0 : S[st.length]? = some (.cells (unV u pv)) := by rw [hS]; exact get_new _ _ 0
  have c1 : S[st.length + 1]? = some (.cells zeroU) := by rw [hS]; exact get_new _ _ 1
  simp only [unV, zeroU] at hS c0 c1
  simp only [unV, o1, o2, get_new, get_new0, List.getElem?_cons_zero, ↓zP,zV,Nat.reduceAdd,Nat.reduceMul,Nat.reduceLT,Nat.reduceEqDiff,Nat.reduceLeDiff,Int.reduceLE,Int.reduceLT,Int.reduceBNe,Int.reduceBEq,Int.reduceNeg,Int.reduceEq,Int.reduceAdd,Int.reduceGT,Int.reduceGE,reduceCtorEq]
  rw [← hS]
  refine u_goes (n := n) (u := u) (pv := pv) (hp.grw g0) hph hok hm fun s1 j1 => ?_
  have a0 := j1 _ _ c0
  have a1 := j1 _ _ c1
  have g1 := g0.trans j1
  simp only [a0, ↓zP,zV,Nat.reduceAdd,Nat.reduceMul,Nat.reduceLT,Nat.reduceEqDiff,Nat.reduceLeDiff,Int.reduceLE,Int.reduceLT,Int.reduceBNe,Int.reduceBEq,Int.reduceNeg,Int.reduceEq,Int.reduceAdd,Int.reduceGT,Int.reduceGE,reduceCtorEq]
  refine c_cloneC (n := n + 7) (P := u.P) (hp.grw g1).1 (by omega) fun pv' s2 hp' j2 => ?_
  obtain ⟨o3, o4⟩ := hp'.2
  have b0 := j2 _ _ a0
  have b1 := j2 _ _ a1
  have g2 := g1.trans j2
  have q0 := fun o => get_set b0 o
  have n01 : st.length ≠ st.length + 1 := by omega
  have q1 : ∀ o, (s2.set st.length o)[st.length + 1]? = _ := fun o => (List.getElem?_set_ne n01).trans b1
  have q3 := fun o o' => get_set (q1 o) o'
  have stn2 : ∀ o o', Grw st ((s2.set st.length o).set (st.length + 1) o') := fun o o' => (g2.set (Nat.le_refl _) o).set (by omega) o'
  have e1 : IntKind.i64.wrap (u.wt + 1) = u.wt + 1 := wi64 (by omega) (by omega)
  have hK := hK pv'
  simp only [holdU, unV] at hK
  have em : (if 15 < u.wt + 1 then (15 : Int) else u.wt + 1) = if u.wt < 15 then u.wt + 1 else u.wt := by
    by_cases h : u.wt < 15
    · rw [if_neg (by omega), if_pos h]
    · rw [if_pos (by omega), if_neg h]; omega
  simp only [a0, b0, b1, q0, q1, q3, e1, o3, o4, List.set_set, ↓zP,zV,Nat.reduceAdd,Nat.reduceMul,Nat.reduceLT,Nat.reduceEqDiff,Nat.reduceLeDiff,Int.reduceLE,Int.reduceLT,Int.reduceBNe,Int.reduceBEq,Int.reduceNeg,Int.reduceEq,Int.reduceAdd,Int.reduceGT,Int.reduceGE,reduceCtorEq]
  simp only [em]
  exact hK _ ((hp'.set_ b0 _).set_ (q1 _) _) (stn2 _ _)
theorem u_Lose (hp : Pth st pv u.P) (hph : u.ph = 1) (hok : (headB u && movB u) = true) (hm : 20000 < m)
    (hK : ∀ s, Grw st s → K (.tup [.agg (unV (aimU u u.gx u.gy) nilP), .sc (.int .i64 0)]) s) : acallF Tryz.prog pl (n + 9) m 28 [.agg (unV u pv)] st K := by
  refine acallF_inF Tryz.func28 rfl rfl Tryz.ntmps28 (by simp) ?_
  obtain ⟨o1, o2⟩ := hp.2
  obtain ⟨S, hS⟩ : ∃ S, S = st ++ [Ob.cells (unV u pv), .cells zeroU] := ⟨_, rfl⟩
  have g0 : Grw st S := by rw [hS]; exact .push _ _
  have c0 : S[st.length]? = some (.cells (unV u pv)) := by rw [hS]; exact get_new _ _ 0
  have c1 : S[st.length + 1]? = some (.cells zeroU) := by rw [hS]; exact get_new _ _ 1
  simp only [unV, zeroU] at hS c0 c1
  simp only [unV, o1, o2, get_new, get_new0, List.getElem?_cons_zero, ↓zP,zV,Nat.reduceAdd,Nat.reduceMul,Nat.reduceLT,Nat.reduceEqDiff,Nat.reduceLeDiff,Int.reduceLE,Int.reduceLT,Int.reduceBNe,Int.reduceBEq,Int.reduceNeg,Int.reduceEq,Int.reduceAdd,Int.reduceGT,Int.reduceGE,reduceCtorEq]
  rw [← hS]
  refine u_goes (n := n) (u := u) (pv := pv) (hp.grw g0) hph hok hm fun s1 j1 => ?_
  have a0 := j1 _ _ c0
  have a1 := j1 _ _ c1
  simp only [a0, o1, o2, ↓zP,zV,Nat.reduceAdd,Nat.reduceMul,Nat.reduceLT,Nat.reduceEqDiff,Nat.reduceLeDiff,Int.reduceLE,Int.reduceLT,Int.reduceBNe,Int.reduceBEq,Int.reduceNeg,Int.reduceEq,Int.reduceAdd,Int.reduceGT,Int.reduceGE,reduceCtorEq]
  refine u_Aim (n := n + 6) (u := u) (pv := pv) (gx := u.gx) (gy := u.gy) o1 o2 fun s2 j2 => ?_
  have b1 := j2 _ _ a1
  have q1 := fun o => get_set b1 o
  simp only [unV, nilP] at hK
  simp only [unV, nilP, b1, q1, ↓zP,zV,Nat.reduceAdd,Nat.reduceMul,Nat.reduceLT,Nat.reduceEqDiff,Nat.reduceLeDiff,Int.reduceLE,Int.reduceLT,Int.reduceBNe,Int.reduceBEq,Int.reduceNeg,Int.reduceEq,Int.reduceAdd,Int.reduceGT,Int.reduceGE,reduceCtorEq]
  exact hK _ (((g0.trans j1).trans j2).set (by omega) _)
set_option maxHeartbeats 4000000 in
theorem u_Aside (hp : Pth st pv u.P) (hph : u.ph = 1) (hok : (headB u && movB u) = true) (hm : 20000 < m) (hd : ¬ dirI u.x u.y x y < 0)
    (hK : ∀ s, Grw st s → K (.tup [.agg (unV (aimU {u with x := x, y := y} u.gx u.gy) nilP), .sc (.int .i64 0)]) s) : acallF Tryz.prog pl (n + 9) m 26 [.agg (unV u pv), .agg (cl x y)] st K := by
  refine acallF_inF Tryz.func26 rfl rfl Tryz.ntmps26 (by simp) ?_
  obtain ⟨o1, o2⟩ := hp.2
  obtain ⟨S, hS⟩ : ∃ S, S = st ++ [Ob.cells (unV u pv), .cells (cl x y), .cells zeroU] := ⟨_, rfl⟩
  have g0 : Grw st S := by rw [hS]; exact .push _ _
  have c0 : S[st.length]? = some (.cells (unV u pv)) := by rw [hS]; exact get_new _ _ 0
  have c1 : S[st.length + 1]? = some (.cells (cl x y)) := by rw [hS]; exact get_new _ _ 1
  have c2 : S[st.length + 2]? = some (.cells zeroU) := by rw [hS]; exact get_new _ _ 2
  simp only [unV, cl, zeroU] at hS c0 c1 c2
  simp only [unV, cl, o1, o2, get_new, get_new0, List.getElem?_cons_zero, ↓zP,zV,Nat.reduceAdd,Nat.reduceMul,Nat.reduceLT,Nat.reduceEqDiff,Nat.reduceLeDiff,Int.reduceLE,Int.reduceLT,Int.reduceBNe,Int.reduceBEq,Int.reduceNeg,Int.reduceEq,Int.reduceAdd,Int.reduceGT,Int.reduceGE,reduceCtorEq]
  rw [← hS]
  refine u_goes (n := n) (u := u) (pv := pv) (hp.grw g0) hph hok hm fun s1 j1 => ?_
  have a0 := j1 _ _ c0
  have a1 := j1 _ _ c1
  have a2 := j1 _ _ c2
  simp only [a0, a1, ↓zP,zV,Nat.reduceAdd,Nat.reduceMul,Nat.reduceLT,Nat.reduceEqDiff,Nat.reduceLeDiff,Int.reduceLE,Int.reduceLT,Int.reduceBNe,Int.reduceBEq,Int.reduceNeg,Int.reduceEq,Int.reduceAdd,Int.reduceGT,Int.reduceGE,reduceCtorEq]
  refine c_Dir (n := n + 4) (by omega) fun s2 j2 => ?_
  have b0 := j2 _ _ a0
  have b1 := j2 _ _ a1
  have b2 := j2 _ _ a2
  have g2 := (g0.trans j1).trans j2
  have hd' : decide (dirI u.x u.y x y < 0) = false := decide_eq_false hd
  have q0 := fun o => get_set b0 o
  have n02 : st.length ≠ st.length + 2 := by omega
  have q2 : ∀ o, (s2.set st.length o)[st.length + 2]? = _ := fun o => (List.getElem?_set_ne n02).trans b2
  simp only [b0, b1, q0, hd', o1, o2, List.set_set, ↓zP,zV,Nat.reduceAdd,Nat.reduceMul,Nat.reduceLT,Nat.reduceEqDiff,Nat.reduceLeDiff,Int.reduceLE,Int.reduceLT,Int.reduceBNe,Int.reduceBEq,Int.reduceNeg,Int.reduceEq,Int.reduceAdd,Int.reduceGT,Int.reduceGE,reduceCtorEq]
  refine u_Aim (n := n + 6) (u := {u with x := x, y := y}) (pv := pv) (gx := u.gx) (gy := u.gy) o1 o2 fun s3 j3 => ?_
  have z2 := j3 _ _ (q2 _)
  have z3 := fun o => get_set z2 o
  simp only [unV, nilP] at hK
  simp only [unV, nilP, z2, z3, ↓zP,zV,Nat.reduceAdd,Nat.reduceMul,Nat.reduceLT,Nat.reduceEqDiff,Nat.reduceLeDiff,Int.reduceLE,Int.reduceLT,Int.reduceBNe,Int.reduceBEq,Int.reduceNeg,Int.reduceEq,Int.reduceAdd,Int.reduceGT,Int.reduceGE,reduceCtorEq]
  exact hK _ (((g2.set (Nat.le_refl _) _).trans j3).set (by omega) _)
end
section
variable {n m : Nat} {st s : List Ob} {K : V → List Ob → Prop} {pv : V} {u : Un} {x y gx gy : Int}
theorem app_new {v : V} {P : List (Int × Int)} (h : Rd Tryz.prog st 31 v (P.flatMap cpV) P.length) (hl : P.length ≤ 20000) : aappend Tryz.prog (st ++ [Ob.row 31 [] 0 0 false]) 32 (.sl st.length 0 0 false 0) v = some (.sl st.length 0 P.length false P.length, st ++ [.row 31 (P.flatMap cpV) P.length 0 false]) := by
  have hx := (h.grw (Grw.push st [Ob.row 31 [] 0 0 false])).1
  have ap := append_own (st := st ++ [Ob.row 31 [] 0 0 false]) (id := st.length) (get_new0 _ _) (Nat.zero_le _) Tryz.underlying32 sz31 by31 ze31 (by omega) rfl hx (closed_path P) (h.2.2 _ sz31) (by omega) (by omega)
  rw [M.set_new0] at ap
  simp only [Nat.zero_add, List.nil_append, List.set_cons_zero] at ap
  exact ap
theorem r_Stop (o1 : M.one pv = true) (o2 : cellsV pv = [pv]) (hK : ∀ s, Grw st s → K (.agg (unV (stopU u) nilP)) s) : acallF Tryz.prog pl (n + 1) m 69 [.agg (unV u pv)] st K := by
  refine acallF_inF Tryz.func69 rfl rfl Tryz.ntmps69 (by simp) ?_
  simp only [unV, stopU, nilP] at hK
  simp only [unV, o1, o2, ↓zP,zV,Nat.reduceAdd,Nat.reduceMul,Nat.reduceLT,Nat.reduceEqDiff,Nat.reduceLeDiff,Int.reduceLE,Int.reduceLT,Int.reduceBNe,Int.reduceBEq,Int.reduceNeg,Int.reduceEq,Int.reduceAdd,Int.reduceGT,Int.reduceGE,reduceCtorEq]
  exact hK _ (Grw.push _ _)
theorem r_Aim (o1 : M.one pv = true) (o2 : cellsV pv = [pv]) (hK : ∀ s, Grw st s → K (.agg (unV (aimU u gx gy) nilP)) s) : acallF Tryz.prog pl (n + 2) m 70 [.agg (unV u pv), .agg (cl gx gy)] st K := by
  refine acallF_inF Tryz.func70 rfl rfl Tryz.ntmps70 (by simp) ?_
  obtain ⟨S, hS⟩ : ∃ S, S = st ++ [Ob.cells (unV u pv), .cells (cl gx gy), .cells zeroU] := ⟨_, rfl⟩
  have g0 : Grw st S := by rw [hS]; exact .push _ _
  have c0 : S[st.length]? = some (.cells (unV u pv)) := by rw [hS]; exact get_new _ _ 0
  have c1 : S[st.length + 1]? = some (.cells (cl gx gy)) := by rw [hS]; exact get_new _ _ 1
  have c2 : S[st.length + 2]? = some (.cells zeroU) := by rw [hS]; exact get_new _ _ 2
  simp only [unV, cl, zeroU] at hS c0 c1 c2
  simp only [unV, cl, o1, o2, get_new, get_new0, List.getElem?_cons_zero, ↓zP,zV,Nat.reduceAdd,Nat.reduceMul,Nat.reduceLT,Nat.reduceEqDiff,Nat.reduceLeDiff,Int.reduceLE,Int.reduceLT,Int.reduceBNe,Int.reduceBEq,Int.reduceNeg,Int.reduceEq,Int.reduceAdd,Int.reduceGT,Int.reduceGE,reduceCtorEq]
  rw [← hS]
  refine r_Stop (n := n) (u := u) (pv := pv) o1 o2 fun s1 j1 => ?_
  have a0 := fun X => Grw.push s1 X _ _ (j1 _ _ c0)
  have a1 := fun X => Grw.push s1 X _ _ (j1 _ _ c1)
  have a2 := fun X => Grw.push s1 X _ _ (j1 _ _ c2)
  have q2 := fun X o => get_set (a2 X) o
  have g1 := fun X => (g0.trans j1).push' X
  have stn : ∀ (s : List Ob) (o : Ob), Grw st s → Grw st (s.set (st.length + 2) o) := fun s o h => h.set (by omega) o
  cases e : (gx == u.x && gy == u.y) with
  | true =>
    simp only [aimU, e, if_true, unV, stopU, nilP] at hK
    simp only [unV, stopU, nilP, a0, a1, a2, q2, e, cmp_cellN, ↓zP,zV,Nat.reduceAdd,Nat.reduceMul,Nat.reduceLT,Nat.reduceEqDiff,Nat.reduceLeDiff,Int.reduceLE,Int.reduceLT,Int.reduceBNe,Int.reduceBEq,Int.reduceNeg,Int.reduceEq,Int.reduceAdd,Int.reduceGT,Int.reduceGE,reduceCtorEq]
    exact hK _ (stn _ _ (g1 _))
  | false =>
    simp only [aimU, e, Bool.false_eq_true, if_false, unV, stopU, nilP] at hK
    simp only [unV, stopU, nilP, a0, a1, a2, q2, e, cmp_cellN, ↓zP,zV,Nat.reduceAdd,Nat.reduceMul,Nat.reduceLT,Nat.reduceEqDiff,Nat.reduceLeDiff,Int.reduceLE,Int.reduceLT,Int.reduceBNe,Int.reduceBEq,Int.reduceNeg,Int.reduceEq,Int.reduceAdd,Int.reduceGT,Int.reduceGE,reduceCtorEq]
    exact hK _ (stn _ _ (g1 _))
theorem r_Lose (hp : Pth st pv u.P) (hph : u.ph = 1) (hok : (headB u && movB u) = true) (hne : u.P ≠ []) (hm : 20000 < m)
    (hK : ∀ s, Grw st s → K (.tup [.agg (unV (aimU u u.gx u.gy) nilP), .sc (.int .i64 0)]) s) : acallF Tryz.prog pl (n + 6) m 33 [.agg (unV u pv)] st K := by
  refine acallF_inF Tryz.func33 rfl rfl Tryz.ntmps33 (by simp) ?_
  obtain ⟨o1, o2⟩ := hp.2
  obtain ⟨S, hS⟩ : ∃ S, S = st ++ [Ob.cells (unV u pv), .cells zeroU] := ⟨_, rfl⟩
  have g0 : Grw st S := by rw [hS]; exact .push _ _
  have c0 : S[st.length]? = some (.cells (unV u pv)) := by rw [hS]; exact get_new _ _ 0
  have c1 : S[st.length + 1]? = some (.cells zeroU) := by rw [hS]; exact get_new _ _ 1
  simp only [unV, zeroU] at hS c0 c1
  simp only [unV, o1, o2, get_new, get_new0, List.getElem?_cons_zero, ↓zP,zV,Nat.reduceAdd,Nat.reduceMul,Nat.reduceLT,Nat.reduceEqDiff,Nat.reduceLeDiff,Int.reduceLE,Int.reduceLT,Int.reduceBNe,Int.reduceBEq,Int.reduceNeg,Int.reduceEq,Int.reduceAdd,Int.reduceGT,Int.reduceGE,reduceCtorEq]
  rw [← hS]
  refine r_UMay (n := n) (u := u) (pv := pv) (hp.grw g0) hm fun b s1 hb j1 => ?_
  rw [hb hph hne, hok]
  have a0 := j1 _ _ c0
  have a1 := j1 _ _ c1
  have e1 : (u.ph != 1) = false := by rw [hph]; rfl
  simp only [a0, e1, o1, o2, ↓zP,zV,Nat.reduceAdd,Nat.reduceMul,Nat.reduceLT,Nat.reduceEqDiff,Nat.reduceLeDiff,Int.reduceLE,Int.reduceLT,Int.reduceBNe,Int.reduceBEq,Int.reduceNeg,Int.reduceEq,Int.reduceAdd,Int.reduceGT,Int.reduceGE,reduceCtorEq]
  refine r_Aim (n := n + 3) (u := u) (pv := pv) (gx := u.gx) (gy := u.gy) o1 o2 fun s2 j2 => ?_
  have b1 := j2 _ _ a1
  have q1 := fun o => get_set b1 o
  simp only [unV, nilP] at hK
  simp only [unV, nilP, b1, q1, ↓zP,zV,Nat.reduceAdd,Nat.reduceMul,Nat.reduceLT,Nat.reduceEqDiff,Nat.reduceLeDiff,Int.reduceLE,Int.reduceLT,Int.reduceBNe,Int.reduceBEq,Int.reduceNeg,Int.reduceEq,Int.reduceAdd,Int.reduceGT,Int.reduceGE,reduceCtorEq]
  exact hK _ (((g0.trans j1).trans j2).set (by omega) _)
set_option maxHeartbeats 4000000 in
theorem r_Aside (hp : Pth st pv u.P) (hph : u.ph = 1) (hok : (headB u && movB u) = true) (hne : u.P ≠ []) (hm : 20000 < m) (hd : ¬ dirI u.x u.y x y < 0)
    (hK : ∀ s, Grw st s → K (.tup [.agg (unV (aimU {u with x := x, y := y} u.gx u.gy) nilP), .sc (.int .i64 0)]) s) : acallF Tryz.prog pl (n + 6) m 31 [.agg (unV u pv), .agg (cl x y)] st K := by
  refine acallF_inF Tryz.func31 rfl rfl Tryz.ntmps31 (by simp) ?_
  obtain ⟨o1, o2⟩ := hp.2
  obtain ⟨S, hS⟩ : ∃ S, S = st ++ [Ob.cells (unV u pv), .cells (cl x y), .cells zeroU] := ⟨_, rfl⟩
  have g0 : Grw st S := by rw [hS]; exact .push _ _
  have c0 : S[st.length]? = some (.cells (unV u pv)) := by rw [hS]; exact get_new _ _ 0
  have c1 : S[st.length + 1]? = some (.cells (cl x y)) := by rw [hS]; exact get_new _ _ 1
  have c2 : S[st.length + 2]? = some (.cells zeroU) := by rw [hS]; exact get_new _ _ 2
  simp only [unV, cl, zeroU] at hS c0 c1 c2
  simp only [unV, cl, o1, o2, get_new, get_new0, List.getElem?_cons_zero, ↓zP,zV,Nat.reduceAdd,Nat.reduceMul,Nat.reduceLT,Nat.reduceEqDiff,Nat.reduceLeDiff,Int.reduceLE,Int.reduceLT,Int.reduceBNe,Int.reduceBEq,Int.reduceNeg,Int.reduceEq,Int.reduceAdd,Int.reduceGT,Int.reduceGE,reduceCtorEq]
  rw [← hS]
  refine r_UMay (n := n) (u := u) (pv := pv) (hp.grw g0) hm fun b s1 hb j1 => ?_
  rw [hb hph hne, hok]
  have a0 := j1 _ _ c0
  have a1 := j1 _ _ c1
  have a2 := j1 _ _ c2
  have e1 : (u.ph != 1) = false := by rw [hph]; rfl
  simp only [a0, a1, e1, ↓zP,zV,Nat.reduceAdd,Nat.reduceMul,Nat.reduceLT,Nat.reduceEqDiff,Nat.reduceLeDiff,Int.reduceLE,Int.reduceLT,Int.reduceBNe,Int.reduceBEq,Int.reduceNeg,Int.reduceEq,Int.reduceAdd,Int.reduceGT,Int.reduceGE,reduceCtorEq]
  refine r_Dir (n := n + 1) (by omega) fun s2 j2 => ?_
  have b0 := fun X => Grw.push s2 X _ _ (j2 _ _ a0)
  have b1 := fun X => Grw.push s2 X _ _ (j2 _ _ a1)
  have b2 := fun X => Grw.push s2 X _ _ (j2 _ _ a2)
  have g2 := (g0.trans j1).trans j2
  have hd' : decide (dirI u.x u.y x y < 0) = false := decide_eq_false hd
  simp only [b0, b1, j2 _ _ a0, j2 _ _ a1, hd', o1, o2, ↓zP,zV,Nat.reduceAdd,Nat.reduceMul,Nat.reduceLT,Nat.reduceEqDiff,Nat.reduceLeDiff,Int.reduceLE,Int.reduceLT,Int.reduceBNe,Int.reduceBEq,Int.reduceNeg,Int.reduceEq,Int.reduceAdd,Int.reduceGT,Int.reduceGE,reduceCtorEq]
  refine r_Aim (n := n + 3) (u := {u with x := x, y := y}) (pv := pv) (gx := u.gx) (gy := u.gy) o1 o2 fun s3 j3 => ?_
  have z2 := j3 _ _ (b2 _)
  have z3 := fun o => get_set z2 o
  simp only [unV, nilP] at hK
  simp only [unV, nilP, z2, z3, ↓zP,zV,Nat.reduceAdd,Nat.reduceMul,Nat.reduceLT,Nat.reduceEqDiff,Nat.reduceLeDiff,Int.reduceLE,Int.reduceLT,Int.reduceBNe,Int.reduceBEq,Int.reduceNeg,Int.reduceEq,Int.reduceAdd,Int.reduceGT,Int.reduceGE,reduceCtorEq]
  exact hK _ (((g2.push' _).trans j3).set (by omega) _)
set_option maxHeartbeats 4000000 in
theorem r_Hold (hp : Pth st pv u.P) (hph : u.ph = 1) (hok : (headB u && movB u) = true) (hne : u.P ≠ []) (hm : 20000 < m)
    (hK : ∀ pv' s, Pth s pv' (holdU u).P → Grw st s → K (.tup [.agg (unV (holdU u) pv'), .sc (.int .i64 0)]) s) : acallF Tryz.prog pl (n + 6) m 32 [.agg (unV u pv)] st K := by
  refine acallF_inF Tryz.func32 rfl rfl Tryz.ntmps32 (by simp) ?_
  obtain ⟨o1, o2⟩ := hp.2
  have hlen := ok_len hok
  obtain ⟨hw0, hw1⟩ := ok_wt hok
  obtain ⟨S, hS⟩ : ∃ S, S = st ++ [Ob.cells (unV u pv), .cells zeroU] := ⟨_, rfl⟩
  have g0 : Grw st S := by rw [hS]; exact .push _ _
  have c0 : S[st.length]? = some (.cells (unV u pv)) := by rw [hS]; exact get_new _ _ 0
  have c1 : S[st.length + 1]? = some (.cells zeroU) := by rw [hS]; exact get_new _ _ 1
  simp only [unV, zeroU] at hS c0 c1
  simp only [unV, o1, o2, get_new, get_new0, List.getElem?_cons_zero, ↓zP,zV,Nat.reduceAdd,Nat.reduceMul,Nat.reduceLT,Nat.reduceEqDiff,Nat.reduceLeDiff,Int.reduceLE,Int.reduceLT,Int.reduceBNe,Int.reduceBEq,Int.reduceNeg,Int.reduceEq,Int.reduceAdd,Int.reduceGT,Int.reduceGE,reduceCtorEq]
  rw [← hS]
  refine r_UMay (n := n) (u := u) (pv := pv) (hp.grw g0) hm fun b s1 hb j1 => ?_
  rw [hb hph hne, hok]
  have a0 := fun X => Grw.push s1 X _ _ (j1 _ _ c0)
  have a1 := fun X => Grw.push s1 X _ _ (j1 _ _ c1)
  have q1 := fun X o => get_set (a1 X) o
  have g1 := g0.trans j1
  have e1 : (u.ph != 1) = false := by rw [hph]; rfl
  have ap := fun c => app_new (st := s1 ++ [Ob.cells c]) (P := u.P) (hp.grw (g1.push' _)).1 (by omega)
  simp only [List.append_assoc, List.cons_append, List.nil_append, List.length_append, List.length_cons, List.length_nil, Nat.zero_add] at ap
  have hpP : ∀ c, Pth (s1 ++ [Ob.cells c, .row 31 (u.P.flatMap cpV) u.P.length 0 false]) (.sl (s1.length + 1) 0 u.P.length false u.P.length) u.P := fun c => gl_pth (.inr ⟨_, 0, rfl, get_new s1 _ 1, Nat.zero_le _⟩)
  have hK := hK (.sl (s1.length + 1) 0 u.P.length false u.P.length)
  simp only [holdU, unV] at hK
  have stn : ∀ (s : List Ob) (o : Ob), Grw st s → Grw st (s.set (st.length + 1) o) := fun s o h => h.set (by omega) o
  by_cases h : u.wt < 15
  · have e2 : decide (u.wt < 15) = true := decide_eq_true h
    have e3 : IntKind.i64.wrap (u.wt + 1) = u.wt + 1 := wi64 (by omega) (by omega)
    rw [if_pos h] at hK
    simp only [a0, a1, j1 _ _ c0, q1, e1, e2, e3, ap, o1, o2, ↓zP,zV,Nat.reduceAdd,Nat.reduceMul,Nat.reduceLT,Nat.reduceEqDiff,Nat.reduceLeDiff,Int.reduceLE,Int.reduceLT,Int.reduceBNe,Int.reduceBEq,Int.reduceNeg,Int.reduceEq,Int.reduceAdd,Int.reduceGT,Int.reduceGE,reduceCtorEq]
    exact hK _ ((hpP _).set_ (a1 _) _) (stn _ _ (g1.push' _))
  · have e2 : decide (u.wt < 15) = false := decide_eq_false h
    rw [if_neg h] at hK
    simp only [a0, a1, j1 _ _ c0, q1, e1, e2, ap, o1, o2, ↓zP,zV,Nat.reduceAdd,Nat.reduceMul,Nat.reduceLT,Nat.reduceEqDiff,Nat.reduceLeDiff,Int.reduceLE,Int.reduceLT,Int.reduceBNe,Int.reduceBEq,Int.reduceNeg,Int.reduceEq,Int.reduceAdd,Int.reduceGT,Int.reduceGE,reduceCtorEq]
    exact hK _ ((hpP _).set_ (a1 _) _) (stn _ _ (g1.push' _))
set_option maxHeartbeats 4000000 in
theorem r_UStep (hp : Pth st pv u.P) (hcut : Cut Tryz.prog st 31 pv (u.P.flatMap cpV) u.P.length) (hph : u.ph = 1) (hok : (headB u && movB u) = true) (hm : 20000 < m) {c : Int × Int} {Q : List (Int × Int)} (hP : u.P = c :: Q)
    (hK : ∀ pv' s, Pth s pv' (stepU u c Q).P → Grw st s → K (.tup [.agg (unV (stepU u c Q) pv'), .sc (.int .i64 0)]) s) : acallF Tryz.prog pl (n + 6) m 30 [.agg (unV u pv)] st K := by
  refine acallF_inF Tryz.func30 rfl rfl Tryz.ntmps30 (by simp) ?_
  obtain ⟨o1, o2⟩ := hp.2
  have hlen := ok_len hok
  rw [hP, List.length_cons] at hlen
  obtain ⟨S, hS⟩ : ∃ S, S = st ++ [Ob.cells (unV u pv), .cells zeroU] := ⟨_, rfl⟩
  have g0 : Grw st S := by rw [hS]; exact .push _ _
  have c0 : S[st.length]? = some (.cells (unV u pv)) := by rw [hS]; exact get_new _ _ 0
  have c1 : S[st.length + 1]? = some (.cells zeroU) := by rw [hS]; exact get_new _ _ 1
  simp only [unV, zeroU] at hS c0 c1
  simp only [unV, o1, o2, get_new, get_new0, List.getElem?_cons_zero, ↓zP,zV,Nat.reduceAdd,Nat.reduceMul,Nat.reduceLT,Nat.reduceEqDiff,Nat.reduceLeDiff,Int.reduceLE,Int.reduceLT,Int.reduceBNe,Int.reduceBEq,Int.reduceNeg,Int.reduceEq,Int.reduceAdd,Int.reduceGT,Int.reduceGE,reduceCtorEq]
  rw [← hS]
  refine r_UMay (n := n) (u := u) (pv := pv) (hp.grw g0) hm fun b s1 hb j1 => ?_
  rw [hb hph (by rw [hP]; simp), hok]
  have a0 := fun X => Grw.push s1 X _ _ (j1 _ _ c0)
  have a1 := fun X => Grw.push s1 X _ _ (j1 _ _ c1)
  have q1 := fun X o => get_set (a1 X) o
  have g1 := g0.trans j1
  have e1 : (u.ph != 1) = false := by rw [hph]; rfl
  have i1 := fun s (g : Grw st s) => ((hp.grw g).ix (i := 0) (by rw [hP]; simp)).1
  have i2 := fun s (g : Grw st s) => ((hp.grw g).ix (i := 0) (by rw [hP]; simp)).2
  simp only [hP, List.getElem_cons_zero, Int.natCast_zero] at i1 i2
  have i1 := fun X => i1 _ (g1.push' X)
  have i2 := fun X => i2 _ (g1.push' X)
  obtain ⟨vs, ka, na⟩ := slice_end (hcut.grw g1) Tryz.underlying32 sz31 (lo := 1) (by rw [hP]; simp)
  rw [hP, List.flatMap_cons, show (cpV c ++ Q.flatMap cpV).drop (1 * 2) = Q.flatMap cpV from rfl, List.length_cons, Nat.add_sub_cancel] at na
  simp only [Int.natCast_one] at ka
  have ka := fun X => o.aslice_grw (Grw.push s1 X) ka
  have ap := fun c => app_new (st := s1 ++ [Ob.cells c]) (P := Q) (na.1.grw (Grw.push s1 _)) (by omega)
  simp only [List.append_assoc, List.cons_append, List.nil_append, List.length_append, List.length_cons, List.length_nil, Nat.zero_add] at ap
  have hpP : ∀ c, Pth (s1 ++ [Ob.cells c, .row 31 (Q.flatMap cpV) Q.length 0 false]) (.sl (s1.length + 1) 0 Q.length false Q.length) Q := fun c => gl_pth (.inr ⟨_, 0, rfl, get_new s1 _ 1, Nat.zero_le _⟩)
  have pL := fun c => (hpP c).len
  have stn : ∀ (s : List Ob) (o : Ob), Grw st s → Grw st (s.set (st.length + 1) o) := fun s o h => h.set (by omega) o
  cases hQ : Q with
  | nil =>
    have hK := hK nilP
    simp only [stepU, hQ, if_true] at hK
    simp only [hQ, List.length_nil, List.flatMap_nil] at pL ap
    simp only [a0, a1, j1 _ _ c0, q1, e1, i1, i2, ka, ap, pL, o1, o2, ↓zP,zV,Nat.reduceAdd,Nat.reduceMul,Nat.reduceLT,Nat.reduceEqDiff,Nat.reduceLeDiff,Int.reduceLE,Int.reduceLT,Int.reduceBNe,Int.reduceBEq,Int.reduceNeg,Int.reduceEq,Int.reduceAdd,Int.reduceGT,Int.reduceGE,reduceCtorEq]
    refine r_Stop (n := n + 4) (u := {u with x := c.1, y := c.2, wt := 0}) (pv := .sl (s1.length + 1) 0 0 false 0) rfl rfl fun s3 j3 => ?_
    have z1 := j3 _ _ (a1 _)
    have z2 := fun o => get_set z1 o
    simp only [unV, stopU, nilP] at hK
    simp only [unV, stopU, nilP, z1, z2, ↓zP,zV,Nat.reduceAdd,Nat.reduceMul,Nat.reduceLT,Nat.reduceEqDiff,Nat.reduceLeDiff,Int.reduceLE,Int.reduceLT,Int.reduceBNe,Int.reduceBEq,Int.reduceNeg,Int.reduceEq,Int.reduceAdd,Int.reduceGT,Int.reduceGE,reduceCtorEq]
    exact hK _ (pth_nil _) (((g1.push' _).trans j3).set (by omega) _)
  | cons d Q' =>
    have hK := hK (.sl (s1.length + 1) 0 Q.length false Q.length)
    simp only [stepU, hQ, reduceCtorEq, if_false] at hK
    have hz : (((Q'.length + 1 : Nat) : Int) == 0) = false := beq_eq_false_iff_ne.2 (by omega)
    simp only [hQ, List.length_cons] at pL hpP ap hK
    simp only [a0, a1, j1 _ _ c0, q1, e1, i1, i2, ka, ap, pL, hz, o1, o2, ↓zP,zV,Nat.reduceAdd,Nat.reduceMul,Nat.reduceLT,Nat.reduceEqDiff,Nat.reduceLeDiff,Int.reduceLE,Int.reduceLT,Int.reduceBNe,Int.reduceBEq,Int.reduceNeg,Int.reduceEq,Int.reduceAdd,Int.reduceGT,Int.reduceGE,reduceCtorEq]
    simp only [unV] at hK
    exact hK _ ((hpP _).set_ (a1 _) _) (stn _ _ (g1.push' _))
end
end Go.Proofs.YtpdhoicpaonggaaGreat
