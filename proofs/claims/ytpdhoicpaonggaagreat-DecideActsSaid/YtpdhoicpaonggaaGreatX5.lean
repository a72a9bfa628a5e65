/- Chapter 22: a table of claims. Chapter 22: a claim. Chapter 22: the table that is none; the fixed question. Maps with units: entries taken away; keys told. Chapter 5, the plain law: what the index's maps hold, and the document's list. Chapter 5, the plain law: lists by rising numbers. Chapter 5: an index, put into. -/
import Derived.Test.YtpdhoicpaonggaaGreatX4
set_option linter.unusedVariables false
set_option linter.unusedSimpArgs false
set_option maxRecDepth 10000
namespace Go.Proofs.YtpdhoicpaonggaaGreat
open Go Go.M Go.RowKit
attribute [local congr] acallF_cong aloop_cong bcase_cong resK_cong valK_cong wantK_cong callK_cong xputK_cong qputK_cong resM_cong rfK_cong
attribute [local irreducible] seqK blockK loopK nextK bcase resK valK wantK funK putK dputK xputK qputK callK aops aop acode adraw aloop acallF acall invK resM rfK rfEnd rdEnd rdMid around
namespace o
structure Tb (s : List Ob) (t ix u c : Nat) (cl : List (Int × V)) (cc : List ((Int × Int) × V)) : Prop where
  at_ : s[t]? = some (.cells [.ref ix 0, .map u, .map c])
  cl : s[u]? = some (.map (esI cl))
  cc : s[c]? = some (.map (esC cc))
def clB (cc : List ((Int × Int) × V)) (c : Int × Int) : Bool := (getC c cc).isSome
def clAny (cc : List ((Int × Int) × V)) (x y : Int) (W k : Nat) : Bool := (List.range k).any fun q => clB cc (x + (q % W : Nat), y + (q / W : Nat))
section
variable {n m : Nat} {st s : List Ob} {K : V → List Ob → Prop} {tb ix a b u c : Nat} {us cls : List (Int × V)} {os cc : List ((Int × Int) × V)} {x y w h id : Int} {W H : Nat}
theorem clAny_succ (k : Nat) : clAny cc x y W (k + 1) = (clAny cc x y W k || clB cc (x + (k % W : Nat), y + (k / W : Nat))) := by
  simp only [clAny, List.range_succ, List.any_append, List.any_cons, List.any_nil, Bool.or_false]
theorem clAny_le {k k' : Nat} (h : k ≤ k') (ha : clAny cc x y W k = true) : clAny cc x y W k' = true := by
  simp only [clAny, List.any_eq_true, List.mem_range] at ha ⊢
  obtain ⟨q, h1, h2⟩ := ha
  exact ⟨q, by omega, h2⟩
theorem Tb.grw (h : Tb st tb ix u c cls cc) (k : Grw st s) : Tb s tb ix u c cls cc := ⟨k _ _ h.at_, k _ _ h.cl, k _ _ h.cc⟩
theorem t_is (hT : Tb st tb ix u c cls cc) (hK : K (.sc (.bool true)) st) : acallF Tryz.prog pl (n + 1) m 37 [.ref tb 0] st K := by
  refine acallF_inF Tryz.func37 rfl rfl Tryz.ntmps37 (by simp) ?_
  have h1 := hT.at_
  simp only [h1, ↓zP,zV,Nat.reduceAdd,Nat.reduceMul,Nat.reduceLT,Nat.reduceEqDiff,Nat.reduceLeDiff,Int.reduceLE,Int.reduceLT,Int.reduceBNe,Int.reduceBEq,Int.reduceNeg,Int.reduceEq,Int.reduceAdd,Int.reduceGT,Int.reduceGE,reduceCtorEq]
  exact hK
theorem t_New (hK : ∀ s, Tb s (st.length + 2) ix st.length (st.length + 1) [] [] → Grw st s → K (.ref (st.length + 2) 0) s) : acallF Tryz.prog pl (n + 1) m 20 [.ref ix 0] st K := by
  refine acallF_inF Tryz.func20 rfl rfl Tryz.ntmps20 (by simp) ?_
  simp only [↓zP,zV,Nat.reduceAdd,Nat.reduceMul,Nat.reduceLT,Nat.reduceEqDiff,Nat.reduceLeDiff,Int.reduceLE,Int.reduceLT,Int.reduceBNe,Int.reduceBEq,Int.reduceNeg,Int.reduceEq,Int.reduceAdd,Int.reduceGT,Int.reduceGE,reduceCtorEq]
  exact hK _ ⟨get_new _ _ 2, get_new _ _ 0, get_new _ _ 1⟩ (Grw.push _ _)
set_option maxHeartbeats 2000000 in
theorem may_yl {ps : Array Tmp} {asg body : Code} (hc : frf (Tryz.f21.body.getD .skip) = some (ps, asg, body)) {F : Nat → V} {t3 t6 lid : Nat} {p : Option Code} (q3 : F 3 = .ref t3 0) (q6 : F 6 = .ref t6 0)
    (h3 : s[t3]? = some (.cells [.ref tb 0])) (h6 : s[t6]? = some (.cells [.sc (.int .i64 0)])) (hT : Tb s tb ix u c cls cc)
    (hl : s[lid]? = some (.loop .ready p (pl 21) (ofF 64 F) ps.toList asg body))
    (hK : clB cc (x, y) = false → ∀ s', s'[lid]? = some (.loop .ready none (pl 21) (ofF 64 F) ps.toList asg body) → (∀ j o, j ≠ lid → s[j]? = some o → s'[j]? = some o) → K (.sc (.bool true)) s')
    (hK2 : clB cc (x, y) = true → ∀ s', s'[lid]? = some (.loop .done (some .ret) (pl 21) (ofF 64 F) ps.toList asg body) → s'[t6]? = some (.cells [.sc (.int .i64 6)]) → (∀ j o, j ≠ lid → j ≠ t6 → s[j]? = some o → s'[j]? = some o) → K (.sc (.bool false)) s') :
    acallF Tryz.prog pl (n + 1) m Tryz.prog.funcs.size [.yl lid, .agg (cl x y)] s K := by
  simp only [Tryz.f21, Option.getD_some, frf, Option.some.injEq, Prod.mk.injEq] at hc
  obtain ⟨rfl, rfl, rfl⟩ := hc
  have hcl : c ≠ lid := fun he => by subst he; rw [hT.cc] at hl; cases hl
  refine acallF_yl hl rfl ?_
  rw [show (#[53] : Array Tmp).toList = [53] from rfl, aputs_one (by decide)]
  simp only [cl, ↓zP,zV,Nat.reduceAdd,Nat.reduceMul,Nat.reduceLT,Nat.reduceEqDiff,Nat.reduceLeDiff,Int.reduceLE,Int.reduceLT,Int.reduceBNe,Int.reduceBEq,Int.reduceNeg,Int.reduceEq,Int.reduceAdd,Int.reduceGT,Int.reduceGE,reduceCtorEq]
  have g0 := Grw.push s [.cells [.sc (.int .i64 x), .sc (.int .i64 y)]]
  have c6 : (s ++ [Ob.cells [V.sc (.int .i64 x), V.sc (.int .i64 y)]])[s.length]? = some (.cells [V.sc (.int .i64 x), V.sc (.int .i64 y)]) := get_new0 _ _
  refine rdMid_ok (g0 _ _ hl) ?_
  generalize hs1 : (s ++ [Ob.cells [V.sc (.int .i64 x), V.sc (.int .i64 y)]]) = s1 at g0 c6
  have nl : s.length ≠ lid := fun he => by subst he; rw [List.getElem?_eq_none (Nat.le_refl _)] at hl; cases hl
  have lt : lid < s1.length := (List.getElem?_eq_some_iff.1 (g0 _ _ hl)).1
  have nc : ∀ (j : Nat) (c : List V), s[j]? = some (.cells c) → j ≠ lid := fun j c hj he => by subst he; rw [hl] at hj; cases hj
  generalize hs2 : s1.set lid _ = s2
  have k : ∀ j o, j ≠ lid → s1[j]? = some o → s2[j]? = some o := fun j o hj ho => by rw [← hs2, List.getElem?_set_ne (Ne.symm hj)]; exact ho
  have d3 := k _ _ (nc _ _ h3) (g0 _ _ h3)
  have d6' := k _ _ (nc _ _ h6) (g0 _ _ h6)
  have di := k _ _ (nc _ _ hT.at_) (g0 _ _ hT.at_)
  have db := k _ _ hcl (g0 _ _ hT.cc)
  have d6 := k _ _ nl c6
  have look := lk_cell (e := 3) (z := .sc (.int .i64 0)) Tryz.underlying90 (by kernel_rfl) db x y
  have dl : ∀ o, s1.set lid o = s2 → s2[lid]? = some o := fun o ho => by rw [← ho]; exact List.getElem?_set_self lt
  have dl := dl _ hs2
  have ll : lid < s2.length := (List.getElem?_eq_some_iff.1 dl).1
  have fr : ∀ j o, j ≠ lid → s[j]? = some o → s2[j]? = some o := fun j o hj ho => k _ _ hj (g0 _ _ ho)
  cases hq : getC (x, y) cc with
  | none =>
    rw [hq] at look
    simp only [q3, d3, di, d6, look, ↓zP,zV,Nat.reduceAdd,Nat.reduceMul,Nat.reduceLT,Nat.reduceEqDiff,Nat.reduceLeDiff,Int.reduceLE,Int.reduceLT,Int.reduceBNe,Int.reduceBEq,Int.reduceNeg,Int.reduceEq,Int.reduceAdd,Int.reduceGT,Int.reduceGE,reduceCtorEq]
    refine rdEnd_normal dl ?_
    refine hK (by simp only [clB, hq]; rfl) _ ?_ ?_
    · rw [List.getElem?_set_self ll]
    · intro j o hjl ho
      rw [List.getElem?_set_ne (Ne.symm hjl)]
      exact fr _ _ hjl ho
  | some v =>
    rw [hq] at look
    have l6 : t6 < s2.length := (List.getElem?_eq_some_iff.1 d6').1
    have n6 := nc _ _ h6
    simp only [q3, q6, d3, di, d6, d6', look, ↓zP,zV,Nat.reduceAdd,Nat.reduceMul,Nat.reduceLT,Nat.reduceEqDiff,Nat.reduceLeDiff,Int.reduceLE,Int.reduceLT,Int.reduceBNe,Int.reduceBEq,Int.reduceNeg,Int.reduceEq,Int.reduceAdd,Int.reduceGT,Int.reduceGE,reduceCtorEq]
    refine rdEnd_ret (by rw [List.getElem?_set_ne n6]; exact dl) ?_
    refine hK2 (by simp only [clB, hq]; rfl) _ ?_ ?_ ?_
    · rw [List.getElem?_set_self (by rw [List.length_set]; exact ll)]
    · rw [List.getElem?_set_ne (Ne.symm n6), List.getElem?_set_self l6]
    · intro j o hjl hj6 ho
      rw [List.getElem?_set_ne (Ne.symm hjl), List.getElem?_set_ne (Ne.symm hj6)]
      exact fr _ _ hjl ho
set_option maxHeartbeats 1000000 in
theorem may_loop {ps : Array Tmp} {asg body : Code} (hc : frf (Tryz.f21.body.getD .skip) = some (ps, asg, body)) {F : Nat → V} {t3 t6 lid rb : Nat} (q3 : F 3 = .ref t3 0) (q6 : F 6 = .ref t6 0)
    (hmay : mayB x y W H = true) (hm : W < m) (hm2 : H < m)
    (h3 : s[t3]? = some (.cells [.ref tb 0])) (h6 : s[t6]? = some (.cells [.sc (.int .i64 0)])) (hT : Tb s tb ix u c cls cc) (hr : s[rb]? = some (.cells (rc x y W H)))
    (hl : s[lid]? = some (.loop .ready none (pl 21) (ofF 64 F) ps.toList asg body))
    (hK : clAny cc x y W (H * W) = false → ∀ s', s'[lid]? = some (.loop .ready none (pl 21) (ofF 64 F) ps.toList asg body) → (∀ j o, j ≠ lid → s[j]? = some o → s'[j]? = some o) → K (.tup []) s')
    (hK2 : clAny cc x y W (H * W) = true → ∀ s', s'[lid]? = some (.loop .done (some .ret) (pl 21) (ofF 64 F) ps.toList asg body) → s'[t6]? = some (.cells [.sc (.int .i64 6)]) → (∀ j o, j ≠ lid → j ≠ t6 → s[j]? = some o → s'[j]? = some o) → K (.tup []) s') :
    acallF Tryz.prog pl (n + 4) m 57 [.yl lid, .ref rb 0] s K := by
  have nl : ∀ (j : Nat) (c : List V), s[j]? = some (.cells c) → j ≠ lid := fun j c hj he => by subst he; rw [hl] at hj; cases hj
  have nm : ∀ (j : Nat) (c : List (Value × V)), s[j]? = some (.map c) → j ≠ lid := fun j c hj he => by subst he; rw [hl] at hj; cases hj
  refine c_Cells1 (x := x) (y := y) (W := W) (H := H) (I := fun k s' => clAny cc x y W k = false ∧ s'[lid]? = some (.loop .ready none (pl 21) (ofF 64 F) ps.toList asg body) ∧ (∀ j o, j ≠ lid → s[j]? = some o → s'[j]? = some o))
    (J := fun s' => clAny cc x y W (H * W) = true ∧ s'[lid]? = some (.loop .done (some .ret) (pl 21) (ofF 64 F) ps.toList asg body) ∧ s'[t6]? = some (.cells [.sc (.int .i64 6)]) ∧ (∀ j o, j ≠ lid → j ≠ t6 → s[j]? = some o → s'[j]? = some o))
    hmay hm hm2 (fun k s' h => h.2.2 _ _ (nl _ _ hr) hr) (fun k s1 s2 h g => ⟨h.1, g _ _ h.2.1, fun j o h1 h3 => g _ _ (h.2.2 j o h1 h3)⟩) ⟨rfl, hl, fun j o _ h => h⟩ ?_ (fun s' h => hK h.1 s' h.2.1 h.2.2) (fun s' h => hK2 h.1 s' h.2.1 h.2.2.1 h.2.2.2)
  intro j i s' K' hj hi ⟨e1, e2, e3⟩ hK1 hK3
  have hmod : (j * W + i) % W = i := by rw [Nat.mul_comm, Nat.mul_add_mod, Nat.mod_eq_of_lt hi]
  have hdiv : (j * W + i) / W = j := by rw [Nat.mul_comm, Nat.mul_add_div (by omega), Nat.div_eq_of_lt hi, Nat.add_zero]
  refine may_yl (n := n + 2) (tb := tb) (ix := ix) (u := u) (c := c) (cls := cls) (cc := cc) hc q3 q6 (e3 _ _ (nl _ _ h3) h3) (e3 _ _ (nl _ _ h6) h6) ⟨e3 _ _ (nl _ _ hT.at_) hT.at_, e3 _ _ (nm _ _ hT.cl) hT.cl, e3 _ _ (nm _ _ hT.cc) hT.cc⟩ e2 ?_ ?_
  · intro hh s2 k2 k3
    refine hK1 _ ⟨?_, k2, fun j o h2 h3 => k3 j o h2 (e3 j o h2 h3)⟩
    rw [clAny_succ, e1, hmod, hdiv, hh]
    rfl
  · intro hh s2 k2 k4 k3
    refine hK3 _ ⟨clAny_le (k := j * W + i + 1) ?_ (by rw [clAny_succ, hmod, hdiv, hh, Bool.or_true]), k2, k4, fun j o h2 h4 h3 => k3 j o h2 h4 (e3 j o h2 h3)⟩
    have := Nat.mul_le_mul_right W (show j + 1 ≤ H from hj)
    rw [Nat.add_mul, Nat.one_mul] at this
    omega
set_option maxHeartbeats 4000000 in
theorem t_May (hint : ∀ c v, getC c os = some v → ∃ i, v = .sc (.int .i64 i)) (hcl : ∀ i v, getI i cls = some v → ∃ x y, v = .agg (cl x y)) (hT : Tb st tb ix u c cls cc) (hi : Ix st ix a b us os) {px py : Int} (hg : getI id us = some (.agg (rc px py W H))) (hsm : W * H ≤ 64) (hm : W < m) (hm2 : H < m)
    (h8 : getI id cls ≠ none → ∀ s, Grw st s → K (.sc (.int .i64 8)) s)
    (h1 : getI id cls = none → mayB x y W H = false → ∀ s, Grw st s → K (.sc (.int .i64 1)) s)
    (h6 : getI id cls = none → mayB x y W H = true → (anyB (fun i => i != id) os x y W (H * W) || clAny cc x y W (H * W)) = true → ∀ s, Grw st s → K (.sc (.int .i64 6)) s)
    (h0 : getI id cls = none → mayB x y W H = true → anyB (fun i => i != id) os x y W (H * W) = false → clAny cc x y W (H * W) = false → ∀ s, Grw st s → K (.sc (.int .i64 0)) s) :
    acallF Tryz.prog pl (n + 7) m 21 [.ref tb 0, .sc (.int .i64 id), .agg (cl x y)] st K := by
  refine acallF_inF Tryz.func21 rfl rfl Tryz.ntmps21 (by simp) ?_
  have gX := fun X => Grw.push st X
  have T1 := fun X => hT.grw (gX X)
  simp only [cl, get_new, get_new0, ↓zP,zV,Nat.reduceAdd,Nat.reduceMul,Nat.reduceLT,Nat.reduceEqDiff,Nat.reduceLeDiff,Int.reduceLE,Int.reduceLT,Int.reduceBNe,Int.reduceBEq,Int.reduceNeg,Int.reduceEq,Int.reduceAdd,Int.reduceGT,Int.reduceGE,reduceCtorEq]
  refine t_is (n := n + 5) (T1 _) ?_
  have a1 := fun X => (T1 X).at_
  simp only [get_new, get_new0, a1, ↓zP,zV,Nat.reduceAdd,Nat.reduceMul,Nat.reduceLT,Nat.reduceEqDiff,Nat.reduceLeDiff,Int.reduceLE,Int.reduceLT,Int.reduceBNe,Int.reduceBEq,Int.reduceNeg,Int.reduceEq,Int.reduceAdd,Int.reduceGT,Int.reduceGE,reduceCtorEq]
  refine o_Find1 (n := n + 4) (hi.grw (gX _)) hg fun s1 j1 => ?_
  have k0 := j1 _ _ (get_new0 _ _)
  have k1 := j1 _ _ (get_new _ _ 1)
  have k2 := j1 _ _ (get_new _ _ 2)
  have g1 := (gX _).trans j1
  have hlt : st.length + 2 < s1.length := (List.getElem?_eq_some_iff.1 k2).1
  have T2 := fun X => (hT.grw g1).grw (Grw.push s1 X)
  have a2 := fun X => (T2 X).at_
  have k0' := fun X => Grw.push s1 X _ _ k0
  have k1' := fun X => Grw.push s1 X _ _ k1
  have k2' := fun X => Grw.push s1 X _ _ k2
  have l2 := fun X => lk_int (e := 31) (z := .agg [.sc (.int .i64 0), .sc (.int .i64 0)]) Tryz.underlying89 (by kernel_rfl) (T2 X).cl id
  have so : ∀ X o, (s1 ++ X).set (st.length + 2) o = s1.set (st.length + 2) o ++ X := fun X o => M.set_old hlt X o
  have q0 : ∀ o X, (s1.set (st.length + 2) o ++ X)[st.length + 2]? = some o := fun o X => by rw [List.getElem?_append_left (by rw [List.length_set]; exact hlt), List.getElem?_set_self hlt]
  have fin : ∀ o X, Grw st (s1.set (st.length + 2) o ++ X) := fun o X => (g1.set (by omega) o).push' X
  cases hq : getI id cls with
  | some v =>
    obtain ⟨vx, vy, rfl⟩ := hcl _ _ hq
    simp only [hq, cl] at l2
    simp only [rc, k0, k1, k2, k0', k1', k2', a2, l2, so, q0, get_new, get_new0, M.set_new0, M.set_new, ↓zP,zV,Nat.reduceAdd,Nat.reduceMul,Nat.reduceLT,Nat.reduceEqDiff,Nat.reduceLeDiff,Int.reduceLE,Int.reduceLT,Int.reduceBNe,Int.reduceBEq,Int.reduceNeg,Int.reduceEq,Int.reduceAdd,Int.reduceGT,Int.reduceGE,reduceCtorEq]
    exact h8 (by rw [hq]; simp) _ (fin _ _)
  | none =>
    simp only [hq] at l2
    simp only [rc, k0, k1, k2, k0', k1', k2', a2, l2, so, q0, get_new, get_new0, M.set_new0, M.set_new, ↓zP,zV,Nat.reduceAdd,Nat.reduceMul,Nat.reduceLT,Nat.reduceEqDiff,Nat.reduceLeDiff,Int.reduceLE,Int.reduceLT,Int.reduceBNe,Int.reduceBEq,Int.reduceNeg,Int.reduceEq,Int.reduceAdd,Int.reduceGT,Int.reduceGE,reduceCtorEq]
    refine c_May (n := n + 3) fun s2 j2 => ?_
    have gg : Grw s1 s2 := (Grw.push s1 _).trans j2
    have m0 := gg _ _ k0
    have m1 := gg _ _ k1
    have m2 := gg _ _ k2
    have m3 := j2 _ _ (get_new0 _ _)
    have hl2 : st.length + 2 < s2.length := (List.getElem?_eq_some_iff.1 m2).1
    have g2 := g1.trans gg
    have q2 : ∀ o, (s2.set (st.length + 2) o)[st.length + 2]? = some o := fun o => get_set m2 o
    cases e1 : mayB x y W H
    · simp only [m2, q2, ↓zP,zV,Nat.reduceAdd,Nat.reduceMul,Nat.reduceLT,Nat.reduceEqDiff,Nat.reduceLeDiff,Int.reduceLE,Int.reduceLT,Int.reduceBNe,Int.reduceBEq,Int.reduceNeg,Int.reduceEq,Int.reduceAdd,Int.reduceGT,Int.reduceGE,reduceCtorEq]
      exact h1 hq e1 _ (g2.set (by omega) _)
    have T3 := hT.grw g2
    have a3 := T3.at_
    simp only [m0, m1, m2, m3, a3, ↓zP,zV,Nat.reduceAdd,Nat.reduceMul,Nat.reduceLT,Nat.reduceEqDiff,Nat.reduceLeDiff,Int.reduceLE,Int.reduceLT,Int.reduceBNe,Int.reduceBEq,Int.reduceNeg,Int.reduceEq,Int.reduceAdd,Int.reduceGT,Int.reduceGE,reduceCtorEq]
    refine o_Free1 (n := n) hint (hi.grw g2) hsm hm hm2 fun s3 j3 => ?_
    have n0 := j3 _ _ m0
    have n1 := j3 _ _ m1
    have n2 := j3 _ _ m2
    have n3 := j3 _ _ m3
    have hl3 : st.length + 2 < s3.length := (List.getElem?_eq_some_iff.1 n2).1
    have g3 := g2.trans j3
    have q3 : ∀ o, (s3.set (st.length + 2) o)[st.length + 2]? = some o := fun o => get_set n2 o
    simp only [e1, Bool.true_and]
    cases e2 : anyB (fun i => i != id) os x y W (H * W)
    case true =>
      simp only [n2, q3, ↓zP,zV,Nat.reduceAdd,Nat.reduceMul,Nat.reduceLT,Nat.reduceEqDiff,Nat.reduceLeDiff,Int.reduceLE,Int.reduceLT,Int.reduceBNe,Int.reduceBEq,Int.reduceNeg,Int.reduceEq,Int.reduceAdd,Int.reduceGT,Int.reduceGE,reduceCtorEq]
      exact h6 hq e1 (by rw [e2]; rfl) _ (g3.set (by omega) _)
    simp only [n0, n1, n2, n3, ↓zP,zV,Nat.reduceAdd,Nat.reduceMul,Nat.reduceLT,Nat.reduceEqDiff,Nat.reduceLeDiff,Int.reduceLE,Int.reduceLT,Int.reduceBNe,Int.reduceBEq,Int.reduceNeg,Int.reduceEq,Int.reduceAdd,Int.reduceGT,Int.reduceGE,reduceCtorEq]
    refine c_Cells ?_
    have g5 := fun X => Grw.push s3 X
    have T4 := fun X => (hT.grw g3).grw (g5 X)
    simp only [↓zP,zV,Nat.reduceAdd,Nat.reduceMul,Nat.reduceLT,Nat.reduceEqDiff,Nat.reduceLeDiff,Int.reduceLE,Int.reduceLT,Int.reduceBNe,Int.reduceBEq,Int.reduceNeg,Int.reduceEq,Int.reduceAdd,Int.reduceGT,Int.reduceGE,reduceCtorEq]
    refine may_loop (n := n + 2) rfl (t3 := st.length) (t6 := st.length + 2) (by simp only [zF,Nat.reduceEqDiff,Nat.reduceLT]) (by simp only [zF,Nat.reduceEqDiff,Nat.reduceLT]) e1 hm hm2 (g5 _ _ _ n0) (g5 _ _ _ n2) (T4 _) (get_new0 _ _) (get_new _ _ 1) ?_ ?_
    · intro ha s' j4 j5
      refine rfEnd_normal j4 (by decide) ?_
      generalize hs6 : s'.set (s3.length + 1) _ = s6
      have fin6 : ∀ j o, j ≠ s3.length + 1 → s'[j]? = some o → s6[j]? = some o := fun j o hj ho => by rw [← hs6, List.getElem?_set_ne (Ne.symm hj)]; exact ho
      have c6 := fin6 _ _ (by omega) (j5 _ _ (by omega) (g5 _ _ _ n2))
      have c7 : ∀ o, (s6.set (st.length + 2) o)[st.length + 2]? = some o := fun o => get_set c6 o
      simp only [c6, c7, ↓zP,zV,Nat.reduceAdd,Nat.reduceMul,Nat.reduceLT,Nat.reduceEqDiff,Nat.reduceLeDiff,Int.reduceLE,Int.reduceLT,Int.reduceBNe,Int.reduceBEq,Int.reduceNeg,Int.reduceEq,Int.reduceAdd,Int.reduceGT,Int.reduceGE,reduceCtorEq]
      refine h0 hq e1 e2 ha _ ?_
      intro j o hj
      have lj : j < st.length := (List.getElem?_eq_some_iff.1 hj).1
      rw [List.getElem?_set_ne (by omega)]
      exact fin6 _ _ (by omega) (j5 _ _ (by omega) (g5 _ _ _ (g3 _ _ hj)))
    · intro ha s' j4 j6 j5
      refine rfEnd_ret j4 (by decide) ?_
      generalize hs6 : s'.set (s3.length + 1) _ = s6
      have fin6 : ∀ j o, j ≠ s3.length + 1 → s'[j]? = some o → s6[j]? = some o := fun j o hj ho => by rw [← hs6, List.getElem?_set_ne (Ne.symm hj)]; exact ho
      have c6 := fin6 _ _ (by omega) j6
      simp only [c6, ↓zP,zV,Nat.reduceAdd,Nat.reduceMul,Nat.reduceLT,Nat.reduceEqDiff,Nat.reduceLeDiff,Int.reduceLE,Int.reduceLT,Int.reduceBNe,Int.reduceBEq,Int.reduceNeg,Int.reduceEq,Int.reduceAdd,Int.reduceGT,Int.reduceGE,reduceCtorEq]
      refine h6 hq e1 (by rw [ha, Bool.or_true]) _ ?_
      intro j o hj
      have lj : j < st.length := (List.getElem?_eq_some_iff.1 hj).1
      exact fin6 _ _ (by omega) (j5 _ _ (by omega) (by omega) (g5 _ _ _ (g3 _ _ hj)))
end
end o
namespace o
section
variable {n m : Nat} {st s : List Ob} {K : V → List Ob → Prop} {tb ix a b u c : Nat} {us cls : List (Int × V)} {os cc : List ((Int × Int) × V)} {x y w h id : Int} {W H : Nat}
set_option maxHeartbeats 2000000 in
theorem claim_yl {ps : Array Tmp} {asg body : Code} (hc : frf (Tryz.f7.body.getD .skip) = some (ps, asg, body)) {F : Nat → V} {t3 t4 lid : Nat} {p : Option Code} (q3 : F 3 = .ref t3 0) (q4 : F 4 = .ref t4 0)
    (h3 : s[t3]? = some (.cells [.ref tb 0])) (h4 : s[t4]? = some (.cells [.sc (.int .i64 id)])) (hix : s[tb]? = some (.cells [.ref ix 0, .map u, .map c])) (hb : s[c]? = some (.map (esC cc)))
    (hl : s[lid]? = some (.loop .ready p (pl 7) (ofF 44 F) ps.toList asg body))
    (hK : ∀ s', s'[c]? = some (.map (esC (putC (x, y) (.sc (.int .i64 id)) cc))) → s'[lid]? = some (.loop .ready none (pl 7) (ofF 44 F) ps.toList asg body) → (∀ j o, j ≠ c → j ≠ lid → s[j]? = some o → s'[j]? = some o) → K (.sc (.bool true)) s') :
    acallF Tryz.prog pl (n + 1) m Tryz.prog.funcs.size [.yl lid, .agg (cl x y)] s K := by
  simp only [Tryz.f7, Option.getD_some, frf, Option.some.injEq, Prod.mk.injEq] at hc
  obtain ⟨rfl, rfl, rfl⟩ := hc
  have hbl : c ≠ lid := fun he => by subst he; rw [hb] at hl; cases hl
  refine acallF_yl hl rfl ?_
  rw [show (#[37] : Array Tmp).toList = [37] from rfl, aputs_one (by decide)]
  simp only [cl, ↓zP,zV,Nat.reduceAdd,Nat.reduceMul,Nat.reduceLT,Nat.reduceEqDiff,Nat.reduceLeDiff,Int.reduceLE,Int.reduceLT,Int.reduceBNe,Int.reduceBEq,Int.reduceNeg,Int.reduceEq,Int.reduceAdd,Int.reduceGT,Int.reduceGE,reduceCtorEq]
  have g0 := Grw.push s [.cells [.sc (.int .i64 x), .sc (.int .i64 y)]]
  have c6 : (s ++ [Ob.cells [V.sc (.int .i64 x), V.sc (.int .i64 y)]])[s.length]? = some (.cells [V.sc (.int .i64 x), V.sc (.int .i64 y)]) := get_new0 _ _
  refine rdMid_ok (g0 _ _ hl) ?_
  generalize hs1 : (s ++ [Ob.cells [V.sc (.int .i64 x), V.sc (.int .i64 y)]]) = s1 at g0 c6
  have nl : s.length ≠ lid := fun he => by subst he; rw [List.getElem?_eq_none (Nat.le_refl _)] at hl; cases hl
  have lt : lid < s1.length := (List.getElem?_eq_some_iff.1 (g0 _ _ hl)).1
  have nc : ∀ (j : Nat) (c : List V), s[j]? = some (.cells c) → j ≠ lid := fun j c hj he => by subst he; rw [hl] at hj; cases hj
  generalize hs2 : s1.set lid _ = s2
  have k : ∀ j o, j ≠ lid → s1[j]? = some o → s2[j]? = some o := fun j o hj ho => by rw [← hs2, List.getElem?_set_ne (Ne.symm hj)]; exact ho
  have d3 := k _ _ (nc _ _ h3) (g0 _ _ h3)
  have d4 := k _ _ (nc _ _ h4) (g0 _ _ h4)
  have di := k _ _ (nc _ _ hix) (g0 _ _ hix)
  have db := k _ _ hbl (g0 _ _ hb)
  have d6 := k _ _ nl c6
  have up := up_cell (e := 3) (v := .sc (.int .i64 id)) Tryz.underlying90 rfl db x y
  simp only [q3, q4, d3, d4, di, d6, up, ↓zP,zV,Nat.reduceAdd,Nat.reduceMul,Nat.reduceLT,Nat.reduceEqDiff,Nat.reduceLeDiff,Int.reduceLE,Int.reduceLT,Int.reduceBNe,Int.reduceBEq,Int.reduceNeg,Int.reduceEq,Int.reduceAdd,Int.reduceGT,Int.reduceGE,reduceCtorEq]
  have dl : ∀ o, s1.set lid o = s2 → s2[lid]? = some o := fun o ho => by rw [← ho]; exact List.getElem?_set_self lt
  have dl := dl _ hs2
  have lb : c < s2.length := (List.getElem?_eq_some_iff.1 db).1
  refine rdEnd_normal (by rw [List.getElem?_set_ne hbl]; exact dl) ?_
  refine hK _ ?_ ?_ ?_
  · rw [List.getElem?_set_ne (Ne.symm hbl), List.getElem?_set_self lb]
  · rw [List.getElem?_set_self (by rw [List.length_set, ← hs2, List.length_set]; exact lt)]
  · intro j o hj hjl ho
    rw [List.getElem?_set_ne (Ne.symm hjl), List.getElem?_set_ne (Ne.symm hj)]
    exact k _ _ hjl (g0 _ _ ho)
set_option maxHeartbeats 1000000 in
theorem claim_loop {ps : Array Tmp} {asg body : Code} (hc : frf (Tryz.f7.body.getD .skip) = some (ps, asg, body)) {F : Nat → V} {t3 t4 lid rb : Nat} (q3 : F 3 = .ref t3 0) (q4 : F 4 = .ref t4 0)
    (hmay : mayB x y W H = true) (hm : W < m) (hm2 : H < m)
    (h3 : s[t3]? = some (.cells [.ref tb 0])) (h4 : s[t4]? = some (.cells [.sc (.int .i64 id)])) (hix : s[tb]? = some (.cells [.ref ix 0, .map u, .map c])) (hb : s[c]? = some (.map (esC cc))) (hr : s[rb]? = some (.cells (rc x y W H)))
    (hl : s[lid]? = some (.loop .ready none (pl 7) (ofF 44 F) ps.toList asg body))
    (hK : ∀ s', s'[c]? = some (.map (esC (fillC (.sc (.int .i64 id)) x y W cc (H * W)))) → s'[lid]? = some (.loop .ready none (pl 7) (ofF 44 F) ps.toList asg body) → Kp c lid s s' → K (.tup []) s') :
    acallF Tryz.prog pl (n + 4) m 57 [.yl lid, .ref rb 0] s K := by
  have hbl : c ≠ lid := fun he => by subst he; rw [hb] at hl; cases hl
  have nb : ∀ (j : Nat) (c' : List V), s[j]? = some (.cells c') → j ≠ c := fun j c' hj he => by subst he; rw [hb] at hj; cases hj
  have nl : ∀ (j : Nat) (c : List V), s[j]? = some (.cells c) → j ≠ lid := fun j c hj he => by subst he; rw [hl] at hj; cases hj
  refine c_Cells1 (x := x) (y := y) (W := W) (H := H) (I := fun k s' => s'[c]? = some (.map (esC (fillC (.sc (.int .i64 id)) x y W cc k))) ∧ s'[lid]? = some (.loop .ready none (pl 7) (ofF 44 F) ps.toList asg body) ∧ Kp c lid s s') (J := fun _ => False)
    hmay hm hm2 (fun k s' h => h.2.2 _ _ (nb _ _ hr) (nl _ _ hr) hr) (fun k s1 s2 h g => ⟨g _ _ h.1, g _ _ h.2.1, fun j o h1 h2 h3 => g _ _ (h.2.2 j o h1 h2 h3)⟩) ⟨hb, hl, fun j o _ _ h => h⟩ ?_ (fun s' h => hK s' h.1 h.2.1 h.2.2) (fun s' h => h.elim)
  intro j i s' K' hj hi ⟨e1, e2, e3⟩ hK1 hK2
  refine claim_yl (n := n + 2) hc q3 q4 (e3 _ _ (nb _ _ h3) (nl _ _ h3) h3) (e3 _ _ (nb _ _ h4) (nl _ _ h4) h4) (e3 _ _ (nb _ _ hix) (nl _ _ hix) hix) e1 e2 ?_
  intro s2 k1 k2 k3
  refine hK1 _ ⟨?_, k2, fun j o h1 h2 h3 => k3 j o h1 h2 (e3 j o h1 h2 h3)⟩
  rw [k1]
  simp only [fillC]
  rw [show (j * W + i) % W = i by rw [Nat.mul_comm, Nat.mul_add_mod, Nat.mod_eq_of_lt hi], show (j * W + i) / W = j by rw [Nat.mul_comm, Nat.mul_add_div (by omega), Nat.div_eq_of_lt hi, Nat.add_zero]]
set_option maxHeartbeats 4000000 in
theorem t_Claim (hint : ∀ c v, getC c os = some v → ∃ i, v = .sc (.int .i64 i)) (hcl : ∀ i v, getI i cls = some v → ∃ x y, v = .agg (cl x y)) (huc : u ≠ c) (hT : Tb st tb ix u c cls cc) (hi : Ix st ix a b us os) {px py : Int} (hg : getI id us = some (.agg (rc px py W H))) (hsm : W * H ≤ 64) (hm : W < m) (hm2 : H < m)
    (h8 : getI id cls ≠ none → ∀ s, Grw st s → K (.sc (.int .i64 8)) s)
    (h1 : getI id cls = none → mayB x y W H = false → ∀ s, Grw st s → K (.sc (.int .i64 1)) s)
    (h6 : getI id cls = none → mayB x y W H = true → (anyB (fun i => i != id) os x y W (H * W) || clAny cc x y W (H * W)) = true → ∀ s, Grw st s → K (.sc (.int .i64 6)) s)
    (h0 : getI id cls = none → mayB x y W H = true → anyB (fun i => i != id) os x y W (H * W) = false → clAny cc x y W (H * W) = false → ∀ s, Tb s tb ix u c (putI id (.agg (cl x y)) cls) (fillC (.sc (.int .i64 id)) x y W cc (H * W)) → Kp u c st s → K (.sc (.int .i64 0)) s) :
    acallF Tryz.prog pl (n + 8) m 7 [.ref tb 0, .sc (.int .i64 id), .agg (cl x y)] st K := by
  refine acallF_inF Tryz.func7 rfl rfl Tryz.ntmps7 (by simp) ?_
  have gX := fun X => Grw.push st X
  have T1 := fun X => hT.grw (gX X)
  simp only [cl, get_new, get_new0, ↓zP,zV,Nat.reduceAdd,Nat.reduceMul,Nat.reduceLT,Nat.reduceEqDiff,Nat.reduceLeDiff,Int.reduceLE,Int.reduceLT,Int.reduceBNe,Int.reduceBEq,Int.reduceNeg,Int.reduceEq,Int.reduceAdd,Int.reduceGT,Int.reduceGE,reduceCtorEq]
  refine t_May (n := n) hint hcl (T1 _) (hi.grw (gX _)) hg hsm hm hm2 (fun e s1 j1 => ?_) (fun e e' s1 j1 => ?_) (fun e e' e'' s1 j1 => ?_) fun e1 e2 e3 e4 s1 j1 => ?_
  · simp only [↓zP,zV,Nat.reduceAdd,Nat.reduceMul,Nat.reduceLT,Nat.reduceEqDiff,Nat.reduceLeDiff,Int.reduceLE,Int.reduceLT,Int.reduceBNe,Int.reduceBEq,Int.reduceNeg,Int.reduceEq,Int.reduceAdd,Int.reduceGT,Int.reduceGE,reduceCtorEq]
    exact h8 e _ ((gX _).trans j1)
  · simp only [↓zP,zV,Nat.reduceAdd,Nat.reduceMul,Nat.reduceLT,Nat.reduceEqDiff,Nat.reduceLeDiff,Int.reduceLE,Int.reduceLT,Int.reduceBNe,Int.reduceBEq,Int.reduceNeg,Int.reduceEq,Int.reduceAdd,Int.reduceGT,Int.reduceGE,reduceCtorEq]
    exact h1 e e' _ ((gX _).trans j1)
  · simp only [↓zP,zV,Nat.reduceAdd,Nat.reduceMul,Nat.reduceLT,Nat.reduceEqDiff,Nat.reduceLeDiff,Int.reduceLE,Int.reduceLT,Int.reduceBNe,Int.reduceBEq,Int.reduceNeg,Int.reduceEq,Int.reduceAdd,Int.reduceGT,Int.reduceGE,reduceCtorEq]
    exact h6 e e' e'' _ ((gX _).trans j1)
  have k0 := j1 _ _ (get_new0 _ _)
  have k1 := j1 _ _ (get_new _ _ 1)
  have k2 := j1 _ _ (get_new _ _ 2)
  have g1 := (gX _).trans j1
  have T2 := fun X => (hT.grw g1).grw (Grw.push s1 X)
  have a2 := fun X => (T2 X).at_
  have k0' := fun X => Grw.push s1 X _ _ k0
  have k1' := fun X => Grw.push s1 X _ _ k1
  have k2' := fun X => Grw.push s1 X _ _ k2
  simp only [k0', k1', k2', a2, ↓zP,zV,Nat.reduceAdd,Nat.reduceMul,Nat.reduceLT,Nat.reduceEqDiff,Nat.reduceLeDiff,Int.reduceLE,Int.reduceLT,Int.reduceBNe,Int.reduceBEq,Int.reduceNeg,Int.reduceEq,Int.reduceAdd,Int.reduceGT,Int.reduceGE,reduceCtorEq]
  refine o_Find1 (n := n + 5) ((hi.grw g1).grw (Grw.push s1 [Ob.gone])) hg fun s2 j2 => ?_
  have p0 : s2[s1.length]? = some Ob.gone := j2 _ _ (get_new0 _ _)
  have l0 : s1.length < s2.length := (List.getElem?_eq_some_iff.1 p0).1
  have q0 : ∀ o, (s2.set s1.length o)[s1.length]? = some o := fun o => get_set p0 o
  have q1 : ∀ o o', ((s2.set s1.length o).set s1.length o') = s2.set s1.length o' := fun o o' => List.set_set ..
  have gg : Grw s1 s2 := (Grw.push s1 _).trans j2
  have gs : ∀ o, Grw s1 (s2.set s1.length o) := fun o => gg.set (Nat.le_refl _) o
  have b0 := fun o => gs o _ _ k0
  have b1 := fun o => gs o _ _ k1
  have b2 := fun o => gs o _ _ k2
  have T3 := fun o => (hT.grw g1).grw (gs o)
  have a3 := fun o => (T3 o).at_
  have hu : u < st.length := (List.getElem?_eq_some_iff.1 hT.cl).1
  have hcc : c < st.length := (List.getElem?_eq_some_iff.1 hT.cc).1
  have htb : tb < st.length := (List.getElem?_eq_some_iff.1 hT.at_).1
  have l1 : st.length + 2 < s1.length := (List.getElem?_eq_some_iff.1 k2).1
  have ntu : tb ≠ u := fun he => by have h1 := hT.at_; rw [he, hT.cl] at h1; cases h1
  have ntc : tb ≠ c := fun he => by have h1 := hT.at_; rw [he, hT.cc] at h1; cases h1
  have up := fun o => up_int (e := 31) (v := .agg (cl x y)) Tryz.underlying89 rfl (T3 o).cl id
  have c5 : ∀ o o', ((s2.set s1.length o).set u o')[s1.length]? = some o := fun o o' => by rw [List.getElem?_set_ne (by omega)]; exact q0 o
  simp only [cl] at up
  simp only [rc, p0, q0, q1, b0, b1, b2, a3, up, c5, ↓zP,zV,Nat.reduceAdd,Nat.reduceMul,Nat.reduceLT,Nat.reduceEqDiff,Nat.reduceLeDiff,Int.reduceLE,Int.reduceLT,Int.reduceBNe,Int.reduceBEq,Int.reduceNeg,Int.reduceEq,Int.reduceAdd,Int.reduceGT,Int.reduceGE,reduceCtorEq]
  refine c_Cells ?_
  generalize hs4 : s2.set s1.length (Ob.cells [V.sc (.int .i64 x), V.sc (.int .i64 y), V.sc (.int .i64 W), V.sc (.int .i64 H)]) = s4 at c5
  have hb0 := b0 (Ob.cells [V.sc (.int .i64 x), V.sc (.int .i64 y), V.sc (.int .i64 W), V.sc (.int .i64 H)])
  have hb1 := b1 (Ob.cells [V.sc (.int .i64 x), V.sc (.int .i64 y), V.sc (.int .i64 W), V.sc (.int .i64 H)])
  have hT4 := T3 (Ob.cells [V.sc (.int .i64 x), V.sc (.int .i64 y), V.sc (.int .i64 W), V.sc (.int .i64 H)])
  have hg4 := gs (Ob.cells [V.sc (.int .i64 x), V.sc (.int .i64 y), V.sc (.int .i64 W), V.sc (.int .i64 H)])
  rw [hs4] at hb0 hb1 hT4 hg4
  have len4 : s1.length < s4.length := by rw [← hs4, List.length_set]; exact l0
  generalize hs5 : s4.set u _ = s5
  have k5 : ∀ j o, j ≠ u → s4[j]? = some o → s5[j]? = some o := fun j o hj ho => by rw [← hs5, List.getElem?_set_ne (Ne.symm hj)]; exact ho
  have u5 : s5[u]? = some (.map (esI (putI id (.agg (cl x y)) cls))) := by rw [← hs5, List.getElem?_set_self (by omega)]; rfl
  have len5 : s5.length = s4.length := by rw [← hs5, List.length_set]
  have g6 := fun X => Grw.push s5 X
  simp only [↓zP,zV,Nat.reduceAdd,Nat.reduceMul,Nat.reduceLT,Nat.reduceEqDiff,Nat.reduceLeDiff,Int.reduceLE,Int.reduceLT,Int.reduceBNe,Int.reduceBEq,Int.reduceNeg,Int.reduceEq,Int.reduceAdd,Int.reduceGT,Int.reduceGE,reduceCtorEq]
  refine claim_loop (n := n + 3) rfl (t3 := st.length) (t4 := st.length + 1) (tb := tb) (ix := ix) (u := u) (c := c) (cc := cc) (id := id) (by simp only [zF,Nat.reduceEqDiff,Nat.reduceLT]) (by simp only [zF,Nat.reduceEqDiff,Nat.reduceLT]) e2 hm hm2 (g6 _ _ _ (k5 _ _ (by omega) hb0)) (g6 _ _ _ (k5 _ _ (by omega) hb1)) (g6 _ _ _ (k5 _ _ ntu hT4.at_)) (g6 _ _ _ (k5 _ _ (Ne.symm huc) hT4.cc)) (get_new0 _ _) (get_new _ _ 1) ?_
  intro s' j4 j5 j6
  refine rfEnd_normal j5 (by decide) ?_
  simp only [↓zP,zV,Nat.reduceAdd,Nat.reduceMul,Nat.reduceLT,Nat.reduceEqDiff,Nat.reduceLeDiff,Int.reduceLE,Int.reduceLT,Int.reduceBNe,Int.reduceBEq,Int.reduceNeg,Int.reduceEq,Int.reduceAdd,Int.reduceGT,Int.reduceGE,reduceCtorEq]
  have fin : ∀ (z : Ob) j o, j ≠ s5.length + 1 → s'[j]? = some o → (s'.set (s5.length + 1) z)[j]? = some o := fun z j o hj ho => by rw [List.getElem?_set_ne (Ne.symm hj)]; exact ho
  refine h0 e1 e2 e3 e4 _ ⟨fin _ _ _ (by omega) (j6 _ _ ntc (by omega) (g6 _ _ _ (k5 _ _ ntu hT4.at_))), fin _ _ _ (by omega) (j6 _ _ huc (by omega) (g6 _ _ _ u5)), fin _ _ _ (by omega) j4⟩ ?_
  intro j o ja jb hj
  have lj : j < st.length := (List.getElem?_eq_some_iff.1 hj).1
  exact fin _ _ _ (by omega) (j6 _ _ jb (by omega) (g6 _ _ _ (k5 _ _ ja (hg4 _ _ (g1 _ _ hj)))))
end
end o
namespace o
inductive noTb (st : List Ob) : V → Prop where
  | nil : noTb st (.sc (.pointer none))
  | zero {id : Nat} : st[id]? = some (.cells [.sc (.pointer none), .sc (.map none), .sc (.map none)]) → noTb st (.ref id 0)
theorem noTb.grw {st s : List Ob} {v : V} (h : noTb st v) (k : Grw st s) : noTb s v := by
  cases h with
  | nil => exact .nil
  | zero h => exact .zero (k _ _ h)
section
variable {n m : Nat} {st s : List Ob} {K : V → List Ob → Prop} {v : V} {x y id : Int}
theorem t_All (ho : one v = true) (hc : cellsV v = [v]) (hK : K (.fn (.func 36) [.ref st.length 0]) (st ++ [.cells [v]])) : acallF Tryz.prog pl (n + 1) m 12 [v] st K := by
  refine acallF_inF Tryz.func12 rfl rfl Tryz.ntmps12 (by simp) ?_
  simp only [ho, hc, ↓zP,zV,Nat.reduceAdd,Nat.reduceMul,Nat.reduceLT,Nat.reduceEqDiff,Nat.reduceLeDiff,Int.reduceLE,Int.reduceLT,Int.reduceBNe,Int.reduceBEq,Int.reduceNeg,Int.reduceEq,Int.reduceAdd,Int.reduceGT,Int.reduceGE,reduceCtorEq]
  exact hK
end
end o
namespace o
theorem keysI_esI : ∀ l : List (Int × V), keysI (esI l) = some (l.map (·.1))
  | [] => rfl
  | (i, v) :: l => by
    have := keysI_esI l
    simp only [esI, List.map_cons, keysI] at this ⊢
    rw [this]; rfl
theorem lk_int1 {st : List Ob} {a : Nat} {t e : TypeId} {l : List (Int × V)} {v : V} (ht : Tryz.prog.underlying t = some (.map 3 e)) (h : st[a]? = some (.map (esI l))) (i : Int) (hv : getI i l = some v) :
    alookup Tryz.prog st t (.map a) (.sc (.int .i64 i)) false = some v := by
  unfold alookup
  simp only [ht, toVal, h, akey_int Tryz.underlying3, esI, afind_int Tryz.underlying3]
  unfold getI at hv
  cases hq : atI i l with
  | none => rw [hq] at hv; cases hv
  | some q =>
    obtain ⟨x, hx⟩ := atI_spec hq
    rw [hq] at hv
    simp [hx] at hv ⊢
    exact hv
end o
namespace o
theorem placeI_spec (id : Int) : ∀ (L : List U) (j : Nat), (placeI id L j = -1 ∧ ∀ u ∈ L, u.id ≠ id) ∨ ∃ i, ∃ h : i < L.length, placeI id L j = ((j + i : Nat) : Int) ∧ L[i].id = id
  | [], j => .inl ⟨rfl, by simp⟩
  | u :: L, j => by
    simp only [placeI]
    by_cases h : u.id = id
    · refine .inr ⟨0, by simp, ?_, ?_⟩
      · simp [h]
      · simpa using h
    · have h' : (u.id == id) = false := by simpa using h
      rw [h']
      simp only [Bool.false_eq_true, if_false]
      rcases placeI_spec id L (j + 1) with ⟨h1, h2⟩ | ⟨i, hi, h1, h2⟩
      · refine .inl ⟨h1, fun v hv => ?_⟩
        rcases List.mem_cons.1 hv with rfl | hv
        · exact h
        · exact h2 v hv
      · exact .inr ⟨i + 1, by simpa using hi, by rw [h1]; omega, by simpa using h2⟩
def inU (u : U) (a b : Int) : Prop := u.x ≤ a ∧ a ≤ u.x + u.w - 1 ∧ u.y ≤ b ∧ b ≤ u.y + u.h - 1
def valB (u : U) : Bool := mayB u.x u.y u.w u.h && decide (u.w ≤ 4) && decide (u.h ≤ 4)
theorem val_facts {u : U} (h : valB u = true) : mayB u.x u.y u.w u.h = true ∧ 1 ≤ u.w ∧ 1 ≤ u.h ∧ u.w ≤ 4 ∧ u.h ≤ 4 := by
  simp only [valB, Bool.and_eq_true, decide_eq_true_eq] at h
  obtain ⟨_, _, h5, h6, _⟩ := may_facts h.1.1
  exact ⟨h.1.1, h5.1, h6.1, h.1.2, h.2⟩
structure Rel (us : List (Int × V)) (os : List ((Int × Int) × V)) (L : List U) : Prop where
  ni : ndI us
  nc : ndC os
  val : ∀ u ∈ L, valB u = true
  ids : (L.map U.id).Nodup
  gu : ∀ i v, getI i us = some v ↔ ∃ u ∈ L, u.id = i ∧ v = .agg (rc u.x u.y u.w u.h)
  go : ∀ a b v, getC (a, b) os = some v ↔ ∃ u ∈ L, inU u a b ∧ v = .sc (.int .i64 u.id)
  len : us.length = L.length
theorem Rel.nil : Rel [] [] [] := ⟨by simp [ndI], by simp [ndC], by simp, by simp, by simp [getI_nil], by simp [getC_nil], rfl⟩
section
variable {us : List (Int × V)} {os : List ((Int × Int) × V)} {L : List U}
theorem Rel.hits (h : Rel us os L) (sb : Int → Bool) (x y : Int) (W H : Nat) (hW : 0 < W) : anyB sb os x y W (H * W) = true ↔ ∃ p ∈ L, sb p.id = true ∧ ∃ a b, inU p a b ∧ (x ≤ a ∧ a ≤ x + W - 1 ∧ y ≤ b ∧ b ≤ y + H - 1) := by
  simp only [anyB, List.any_eq_true, List.mem_range]
  constructor
  · rintro ⟨q, hq, hs⟩
    unfold hitB at hs
    cases hg : getC (x + ((q % W : Nat) : Int), y + ((q / W : Nat) : Int)) os with
    | none => rw [hg] at hs; cases hs
    | some v =>
      obtain ⟨p, hp, hin, rfl⟩ := (h.go _ _ _).1 hg
      rw [hg] at hs
      exact ⟨p, hp, hs, _, _, hin, (cellq x y _ _ W H hW).1 ⟨q, hq, rfl, rfl⟩⟩
  · rintro ⟨p, hp, hsb, a, b, h3, h4⟩
    obtain ⟨q, hq, ha, hb⟩ := (cellq x y a b W H hW).2 h4
    refine ⟨q, hq, ?_⟩
    have := (h.go a b _).2 ⟨p, hp, h3, rfl⟩
    rw [ha, hb] at this
    unfold hitB
    rw [this]
    exact hsb
theorem meet_in {u p : U} (hu : valB u = true) (hp : valB p = true) : meetB p.x p.y p.w p.h u.x u.y u.w u.h = true ↔ ∃ a b, inU p a b ∧ inU u a b := by
  obtain ⟨m1, h1, h2, _⟩ := val_facts hu
  obtain ⟨m2, h3, h4, _⟩ := val_facts hp
  simp only [meetB, m1, m2, Bool.true_and, lapB, Bool.not_eq_true', Bool.or_eq_false_iff, decide_eq_false_iff_not, mn, mx]
  constructor
  · rintro ⟨h5, h6⟩
    have key : ∀ a b c d : Int, a ≤ b → c ≤ d → ¬ ((if d < b then d else b) < (if c > a then c else a)) → (∃ z, a ≤ z ∧ z ≤ b ∧ c ≤ z ∧ z ≤ d) := fun a b c d h1 h2 hh => by
      refine ⟨if c > a then c else a, ?_⟩
      split at hh <;> split at hh <;> (try rw [if_pos (by assumption)]) <;> (try rw [if_neg (by assumption)]) <;> omega
    obtain ⟨a, ha1, ha2, ha3, ha4⟩ := key p.x (p.x + p.w - 1) u.x (u.x + u.w - 1) (by omega) (by omega) (of_decide_eq_false h5)
    obtain ⟨b, hb1, hb2, hb3, hb4⟩ := key p.y (p.y + p.h - 1) u.y (u.y + u.h - 1) (by omega) (by omega) (of_decide_eq_false h6)
    exact ⟨a, b, ⟨ha1, ha2, hb1, hb2⟩, ⟨ha3, ha4, hb3, hb4⟩⟩
  · rintro ⟨a, b, h5, h6⟩
    simp only [inU] at h5 h6
    constructor <;> refine decide_eq_false ?_ <;> split <;> split <;> omega
theorem Rel.put (h : Rel us os L) {u : U} {L' : List U} (hu : valB u = true) (hg : getI u.id us = none) (hno : ¬ ∃ p ∈ L, ∃ a b, inU p a b ∧ inU u a b) (hm : ∀ v, v ∈ L' ↔ v = u ∨ v ∈ L) (hn : (L'.map U.id).Nodup) (hl : L'.length = L.length + 1) :
    Rel (putI u.id (.agg (rc u.x u.y u.w u.h)) us) (fillC (.sc (.int .i64 u.id)) u.x u.y u.w.toNat os (u.h.toNat * u.w.toNat)) L' := by
  obtain ⟨_, h1, h2, _⟩ := val_facts hu
  refine ⟨ndI_putI _ _ h.ni, nd_fill _ h.nc, fun v hv => ?_, hn, fun i v => ?_, fun a b v => ?_, ?_⟩
  · rcases (hm v).1 hv with rfl | hv
    · exact hu
    · exact h.val v hv
  · rw [getI_putI]
    by_cases hi : i = u.id
    · subst hi
      simp only [beq_self_eq_true, if_true, Option.some.injEq]
      constructor
      · rintro rfl; exact ⟨u, (hm u).2 (.inl rfl), rfl, rfl⟩
      · rintro ⟨p, hp, he, rfl⟩
        rcases (hm p).1 hp with rfl | hp
        · rfl
        · have := (h.gu u.id _).2 ⟨p, hp, he, rfl⟩
          rw [hg] at this; cases this
    · rw [if_neg (by simpa using hi), h.gu]
      constructor
      · rintro ⟨p, hp, h3⟩; exact ⟨p, (hm p).2 (.inr hp), h3⟩
      · rintro ⟨p, hp, h3, h4⟩
        rcases (hm p).1 hp with rfl | hp
        · exact absurd h3.symm hi
        · exact ⟨p, hp, h3, h4⟩
  · obtain ⟨W, hW⟩ := Int.eq_ofNat_of_zero_le (show 0 ≤ u.w by omega)
    obtain ⟨H, hH⟩ := Int.eq_ofNat_of_zero_le (show 0 ≤ u.h by omega)
    have hin : (∃ q, q < H * W ∧ a = u.x + (q % W : Nat) ∧ b = u.y + (q / W : Nat)) ↔ inU u a b := by
      rw [cellq u.x u.y a b W H (by omega)]
      simp only [inU, hW, hH]
    simp only [hW, hH, Int.toNat_natCast]
    by_cases hc : inU u a b
    · rw [fill_in _ (hin.2 hc)]
      simp only [Option.some.injEq]
      constructor
      · rintro rfl; exact ⟨u, (hm u).2 (.inl rfl), hc, rfl⟩
      · rintro ⟨p, hp, h3, rfl⟩
        rcases (hm p).1 hp with rfl | hp
        · rfl
        · exact absurd ⟨p, hp, a, b, h3, hc⟩ hno
    · rw [fill_out _ (fun hh => hc (hin.1 hh)), h.go]
      constructor
      · rintro ⟨p, hp, h3⟩; exact ⟨p, (hm p).2 (.inr hp), h3⟩
      · rintro ⟨p, hp, h3, h4⟩
        rcases (hm p).1 hp with rfl | hp
        · exact absurd h3 hc
        · exact ⟨p, hp, h3, h4⟩
  · rw [putI_len, hg, hl, h.len]; rfl
theorem Rel.raze (h : Rel us os L) {u : U} {L' : List U} (hu : u ∈ L) (hm : ∀ v, v ∈ L' ↔ v ≠ u ∧ v ∈ L) (hn : (L'.map U.id).Nodup) (hl : L'.length + 1 = L.length) :
    Rel (delI u.id us) (cutC u.x u.y u.w.toNat os (u.h.toNat * u.w.toNat)) L' := by
  have hv := h.val u hu
  obtain ⟨_, h1, h2, _⟩ := val_facts hv
  have huniq : ∀ p ∈ L, p.id = u.id → p = u := fun p hp he => nodup_in h.ids hp hu he
  refine ⟨ndI_delI _ h.ni, nd_cut _ h.nc, fun v hv => h.val v ((hm v).1 hv).2, hn, fun i v => ?_, fun a b v => ?_, ?_⟩
  · rw [getI_delI _ _ h.ni]
    by_cases hi : i = u.id
    · subst hi
      simp only [beq_self_eq_true, if_true]
      constructor
      · intro hh; cases hh
      · rintro ⟨p, hp, he, _⟩
        obtain ⟨q1, q2⟩ := (hm p).1 hp
        exact absurd (huniq p q2 he) q1
    · rw [if_neg (by simpa using hi), h.gu]
      constructor
      · rintro ⟨p, hp, h3, h4⟩
        exact ⟨p, (hm p).2 ⟨fun hh => hi (by rw [← h3, hh]), hp⟩, h3, h4⟩
      · rintro ⟨p, hp, h3⟩; exact ⟨p, ((hm p).1 hp).2, h3⟩
  · obtain ⟨W, hW⟩ := Int.eq_ofNat_of_zero_le (show 0 ≤ u.w by omega)
    obtain ⟨H, hH⟩ := Int.eq_ofNat_of_zero_le (show 0 ≤ u.h by omega)
    have hin : (∃ q, q < H * W ∧ a = u.x + (q % W : Nat) ∧ b = u.y + (q / W : Nat)) ↔ inU u a b := by
      rw [cellq u.x u.y a b W H (by omega)]
      simp only [inU, hW, hH]
    simp only [hW, hH, Int.toNat_natCast]
    by_cases hc : inU u a b
    · rw [cut_in h.nc _ (hin.2 hc)]
      constructor
      · intro hh; cases hh
      · rintro ⟨p, hp, h3, rfl⟩
        obtain ⟨q1, q2⟩ := (hm p).1 hp
        have e1 := (h.go a b _).2 ⟨p, q2, h3, rfl⟩
        have e2 := (h.go a b _).2 ⟨u, hu, hc, rfl⟩
        rw [e1] at e2
        simp only [Option.some.injEq, V.sc.injEq, Value.int.injEq, true_and] at e2
        exact absurd (huniq p q2 e2) q1
    · rw [cut_out h.nc _ (fun hh => hc (hin.1 hh)), h.go]
      constructor
      · rintro ⟨p, hp, h3, h4⟩
        exact ⟨p, (hm p).2 ⟨fun hh => hc (by rw [← hh]; exact h3), hp⟩, h3, h4⟩
      · rintro ⟨p, hp, h3⟩; exact ⟨p, ((hm p).1 hp).2, h3⟩
  · have := delI_len u.id (l := us) (isSome_of.2 ⟨_, (h.gu _ _).2 ⟨u, hu, rfl, rfl⟩⟩)
    rw [h.len] at this
    omega
end
end o
namespace o
def insAt (p : Nat) (u : U) (L : List U) : List U := L.take p ++ u :: L.drop p
theorem insAt_len (p : Nat) (u : U) (L : List U) : (insAt p u L).length = L.length + 1 := by
  simp only [insAt, List.length_append, List.length_take, List.length_cons, List.length_drop]; omega
section
variable {us : List (Int × V)} {os : List ((Int × Int) × V)} {L : List U}
theorem mem_insAt (u v : U) (L : List U) (p : Nat) : v ∈ insAt p u L ↔ v = u ∨ v ∈ L := by
  unfold insAt
  rw [List.mem_append, List.mem_cons]
  conv => rhs; rw [← List.take_append_drop p L, List.mem_append]
  constructor
  · rintro (h | h | h)
    · exact .inr (.inl h)
    · exact .inl h
    · exact .inr (.inr h)
  · rintro (h | h | h)
    · exact .inr (.inl h)
    · exact .inl h
    · exact .inr (.inr h)
theorem nodup_insAt (u : U) (L : List U) (p : Nat) (h : (L.map U.id).Nodup) (hu : ∀ v ∈ L, v.id ≠ u.id) : ((insAt p u L).map U.id).Nodup := by
  unfold insAt
  have hp : (L.take p ++ u :: L.drop p).Perm (u :: L) := by
    have := List.perm_middle (a := u) (l₁ := L.take p) (l₂ := L.drop p)
    rwa [List.take_append_drop] at this
  rw [(hp.map U.id).nodup_iff, List.map_cons, List.nodup_cons]
  refine ⟨fun hm => ?_, h⟩
  obtain ⟨v, hv, he⟩ := List.mem_map.1 hm
  exact hu v hv he
theorem Rel.take (h : Rel us os L) (i : Nat) (hi : i < L.length) :
    Rel (delI L[i].id us) (cutC L[i].x L[i].y L[i].w.toNat os (L[i].h.toNat * L[i].w.toNat)) (L.take i ++ L.drop (i + 1)) := by
  have hL : L = L.take i ++ L[i] :: L.drop (i + 1) := by rw [← List.drop_eq_getElem_cons hi, List.take_append_drop]
  have hp : L.Perm (L[i] :: (L.take i ++ L.drop (i + 1))) := by
    conv => lhs; rw [hL]
    exact List.perm_middle
  have hnd : (L[i] :: (L.take i ++ L.drop (i + 1))).map U.id |>.Nodup := ((hp.map U.id).nodup_iff).1 h.ids
  rw [List.map_cons, List.nodup_cons] at hnd
  refine h.raze (List.getElem_mem hi) (fun v => ?_) hnd.2 ?_
  · constructor
    · intro hv
      refine ⟨fun hh => ?_, hp.mem_iff.2 (List.mem_cons_of_mem _ hv)⟩
      exact hnd.1 (List.mem_map.2 ⟨v, hv, by rw [hh]⟩)
    · rintro ⟨h1, h2⟩
      rcases List.mem_cons.1 (hp.mem_iff.1 h2) with h3 | h3
      · exact absurd h3 h1
      · exact h3
  · rw [List.length_append, List.length_take, List.length_drop]; omega
def Srt (L : List U) : Prop := L.Pairwise (fun a b => a.id < b.id)
theorem Srt.insAt {L : List U} (h : Srt L) (u : U) (p : Nat) (hp : p ≤ L.length) (h1 : ∀ j (hj : j < L.length), p ≤ j → u.id < L[j].id) (h2 : ∀ hp : 0 < p, ∀ hq : p - 1 < L.length, ¬ u.id < L[p - 1].id) (hn : ∀ v ∈ L, v.id ≠ u.id) : Srt (insAt p u L) := by
  unfold Srt at h ⊢
  unfold Go.Proofs.YtpdhoicpaonggaaGreat.o.insAt
  rw [List.pairwise_append]
  have hL : L = L.take p ++ L.drop p := (List.take_append_drop p L).symm
  rw [hL, List.pairwise_append] at h
  refine ⟨h.1, ?_, fun a ha b hb => ?_⟩
  · rw [List.pairwise_cons]
    refine ⟨fun a ha => ?_, h.2.1⟩
    obtain ⟨j, hj, rfl⟩ := List.getElem_of_mem ha
    rw [List.length_drop] at hj
    rw [List.getElem_drop]
    exact h1 (p + j) (by omega) (by omega)
  · have key : a.id < u.id := by
      obtain ⟨j, hj, rfl⟩ := List.getElem_of_mem ha
      have hj' := hj
      rw [List.length_take] at hj'
      rw [List.getElem_take]
      have hp0 : 0 < p := by omega
      have hq : p - 1 < L.length := by omega
      have e1 := h2 hp0 hq
      have e2 := hn L[p - 1] (List.getElem_mem hq)
      by_cases hjp : j = p - 1
      · subst hjp; omega
      · have hlt : j < p - 1 := by omega
        have hT := h.1
        have := List.pairwise_iff_getElem.1 hT j (p - 1) hj (by rw [List.length_take]; omega) hlt
        rw [List.getElem_take, List.getElem_take] at this
        omega
    rcases List.mem_cons.1 hb with rfl | hb
    · exact key
    · exact h.2.2 a ha b hb
theorem Srt.take {L : List U} (h : Srt L) (i : Nat) : Srt (L.take i ++ L.drop (i + 1)) := by
  unfold Srt at h ⊢
  refine h.sublist ?_
  conv => rhs; rw [← List.take_append_drop i L]
  refine List.Sublist.append (List.Sublist.refl _) ?_
  rw [← List.drop_drop]
  exact List.drop_sublist _ _
theorem Rel.find (h : Rel us os L) (id : Int) : (getI id us = none ∧ placeI id L 0 = -1) ∨ ∃ i, ∃ hi : i < L.length, placeI id L 0 = i ∧ L[i].id = id ∧ getI id us = some (.agg (rc L[i].x L[i].y L[i].w L[i].h)) := by
  rcases placeI_spec id L 0 with ⟨h1, h2⟩ | ⟨i, hi, h1, h2⟩
  · left
    refine ⟨?_, h1⟩
    cases hq : getI id us with
    | none => rfl
    | some v =>
      obtain ⟨p, hp, he, _⟩ := (h.gu _ _).1 hq
      exact absurd he (h2 p hp)
  · right
    rw [Nat.zero_add] at h1
    exact ⟨i, hi, h1, h2, (h.gu _ _).2 ⟨L[i], List.getElem_mem hi, h2, rfl⟩⟩
theorem atI'_pos (id : Int) : ∀ {L : List U}, Srt L → (∀ j (hj : j < L.length), atI' id L ≤ j → ¬ L[j].id < id) ∧ (∀ j (hj : j < L.length), j < atI' id L → L[j].id < id)
  | [], _ => ⟨fun j hj => by simp at hj, fun j hj => by simp at hj⟩
  | u :: L, h => by
    unfold Srt at h
    rw [List.pairwise_cons] at h
    obtain ⟨i1, i2⟩ := atI'_pos id h.2
    unfold atI'
    by_cases hu : u.id < id
    · simp only [hu, if_true]
      refine ⟨fun j hj hp => ?_, fun j hj hp => ?_⟩
      · cases j with
        | zero => omega
        | succ j => simp only [List.getElem_cons_succ]; exact i1 j (by simpa using hj) (by omega)
      · cases j with
        | zero => simpa using hu
        | succ j => simp only [List.getElem_cons_succ]; exact i2 j (by simpa using hj) (by omega)
    · simp only [hu, if_false]
      refine ⟨fun j hj _ => ?_, fun j hj hp => by omega⟩
      cases j with
      | zero => simpa using hu
      | succ j =>
        simp only [List.getElem_cons_succ]
        have := h.1 _ (List.getElem_mem (by simpa using hj : j < L.length))
        omega
theorem insU_eq (u : U) (L : List U) : insU u L = insAt (atI' u.id L) u L := rfl
theorem Srt.insU {L : List U} (h : Srt L) (u : U) (hn : ∀ v ∈ L, v.id ≠ u.id) : Srt (insU u L) := by
  obtain ⟨h1, h2⟩ := atI'_pos u.id h
  refine h.insAt u _ (atI'_le _ _) (fun j hj hp => ?_) (fun hp hq => ?_) hn
  · have := h1 j hj hp
    have := hn L[j] (List.getElem_mem hj)
    omega
  · have := h2 _ hq (by omega)
    omega
theorem Rel.place (h : Rel us os L) (u : U) (hu : valB u = true) (hg : getI u.id us = none) (hno : ¬ ∃ p ∈ L, ∃ a b, inU p a b ∧ inU u a b) :
    Rel (putI u.id (.agg (rc u.x u.y u.w u.h)) us) (fillC (.sc (.int .i64 u.id)) u.x u.y u.w.toNat os (u.h.toNat * u.w.toNat)) (insU u L) := by
  refine h.put hu hg hno (fun v => mem_insAt u v L _) (nodup_insAt u L _ h.ids fun v hv hh => ?_) (insAt_len _ _ _)
  have := (h.gu u.id _).2 ⟨v, hv, hh, rfl⟩
  rw [hg] at this; cases this
theorem Rel.new (h : Rel us os L) {i : Int} (hg : getI i us = none) : ∀ v ∈ L, v.id ≠ i := fun v hv hh => by
  have := (h.gu i _).2 ⟨v, hv, hh, rfl⟩
  rw [hg] at this; cases this
end
end o
namespace o
section
variable {us : List (Int × V)} {os : List ((Int × Int) × V)} {L : List U}
theorem Rel.int (h : Rel us os L) : ∀ c v, getC c os = some v → ∃ i, v = .sc (.int .i64 i) := fun c v hc => by
  obtain ⟨a, b⟩ := c
  obtain ⟨p, _, _, rfl⟩ := (h.go _ _ _).1 hc
  exact ⟨_, rfl⟩
theorem Rel.meets (h : Rel us os L) (sb : Int → Bool) {x y : Int} {W H : Nat} (hm : mayB x y W H = true) (hW : W ≤ 4) (hH : H ≤ 4) : anyB sb os x y W (H * W) = L.any fun p => sb p.id && meetsR x y W H p := by
  obtain ⟨_, _, h3, h4, _⟩ := may_facts hm
  have hv : valB ⟨0, x, y, W, H⟩ = true := by
    simp only [valB, hm, Bool.true_and, Bool.and_eq_true, decide_eq_true_eq]; omega
  rw [Bool.eq_iff_iff, h.hits sb x y W H (by omega), List.any_eq_true]
  constructor
  · rintro ⟨p, hp, hsb, a, b, h1, h2⟩
    refine ⟨p, hp, ?_⟩
    rw [hsb, Bool.true_and]
    exact (meet_in hv (h.val p hp)).2 ⟨a, b, h1, by simpa [inU] using h2⟩
  · rintro ⟨p, hp, hh⟩
    rw [Bool.and_eq_true] at hh
    obtain ⟨a, b, h1, h2⟩ := (meet_in hv (h.val p hp)).1 hh.2
    exact ⟨p, hp, hh.1, a, b, h1, by simpa [inU] using h2⟩
end
def putR (L : List U) (id x y w h : Int) : Int :=
  if mayB x y w h = false ∨ w > 4 ∨ h > 4 then 1 else if placeI id L 0 ≥ 0 then 8 else if 256 ≤ L.length then 2 else if L.any (meetsR x y w h) = true then 6 else 0
section
variable {n m : Nat} {st s : List Ob} {K : V → List Ob → Prop} {ix a b : Nat} {us : List (Int × V)} {os : List ((Int × Int) × V)} {L : List U} {x y w h id : Int}
set_option maxHeartbeats 4000000 in
theorem o_Put (hr : Rel us os L) (hi : Ix st ix a b us os) (hab : a ≠ b) (hm : 4 < m)
    (hK1 : putR L id x y w h ≠ 0 → ∀ s, Grw st s → K (.sc (.int .i64 (putR L id x y w h))) s)
    (hK0 : putR L id x y w h = 0 → valB ⟨id, x, y, w, h⟩ = true → getI id us = none → (¬ ∃ p ∈ L, ∃ a b, inU p a b ∧ inU ⟨id, x, y, w, h⟩ a b) → L.length < 256 → ∀ s, Ix s ix a b (putI id (.agg (rc x y w h)) us) (fillC (.sc (.int .i64 id)) x y w.toNat os (h.toNat * w.toNat)) → Kp a b st s → K (.sc (.int .i64 0)) s) :
    acallF Tryz.prog pl (n + 6) m 18 [.ref ix 0, .sc (.int .i64 id), .agg (rc x y w h)] st K := by
  refine acallF_inF Tryz.func18 rfl rfl Tryz.ntmps18 (by simp) ?_
  have g1 := Grw.push st [Ob.cells (rc x y w h)]
  have c0 : (st ++ [Ob.cells (rc x y w h)])[st.length]? = some (.cells (rc x y w h)) := get_new0 _ _
  have hi1 := hi.grw g1
  have i1 := hi1.ix
  simp only [rc] at c0 g1 i1 hi1
  simp only [rc, ↓zP,zV,Nat.reduceAdd,Nat.reduceMul,Nat.reduceLT,Nat.reduceEqDiff,Nat.reduceLeDiff,Int.reduceLE,Int.reduceLT,Int.reduceBNe,Int.reduceBEq,Int.reduceNeg,Int.reduceEq,Int.reduceAdd,Int.reduceGT,Int.reduceGE,reduceCtorEq]
  refine o_is1 (n := n + 4) hi1 ?_
  simp only [c0, ↓zP,zV,Nat.reduceAdd,Nat.reduceMul,Nat.reduceLT,Nat.reduceEqDiff,Nat.reduceLeDiff,Int.reduceLE,Int.reduceLT,Int.reduceBNe,Int.reduceBEq,Int.reduceNeg,Int.reduceEq,Int.reduceAdd,Int.reduceGT,Int.reduceGE,reduceCtorEq]
  refine c_May (n := n + 2) fun s2 g2 => ?_
  have c2 := g2 _ _ c0
  have hi2 := hi1.grw g2
  have i2 := hi2.ix
  have gg2 := g1.trans g2
  unfold putR at hK0 hK1
  cases e1 : mayB x y w h
  case false =>
    rw [if_pos (.inl e1)] at hK1
    simp only [c2, ↓zP,zV,Nat.reduceAdd,Nat.reduceMul,Nat.reduceLT,Nat.reduceEqDiff,Nat.reduceLeDiff,Int.reduceLE,Int.reduceLT,Int.reduceBNe,Int.reduceBEq,Int.reduceNeg,Int.reduceEq,Int.reduceAdd,Int.reduceGT,Int.reduceGE,reduceCtorEq]
    exact hK1 (by decide) _ gg2
  cases e2 : decide (w > 4)
  case true =>
    rw [if_pos (.inr (.inl (of_decide_eq_true e2)))] at hK1
    simp only [c2, e2, ↓zP,zV,Nat.reduceAdd,Nat.reduceMul,Nat.reduceLT,Nat.reduceEqDiff,Nat.reduceLeDiff,Int.reduceLE,Int.reduceLT,Int.reduceBNe,Int.reduceBEq,Int.reduceNeg,Int.reduceEq,Int.reduceAdd,Int.reduceGT,Int.reduceGE,reduceCtorEq]
    exact hK1 (by decide) _ gg2
  cases e3 : decide (h > 4)
  case true =>
    rw [if_pos (.inr (.inr (of_decide_eq_true e3)))] at hK1
    simp only [c2, e2, e3, ↓zP,zV,Nat.reduceAdd,Nat.reduceMul,Nat.reduceLT,Nat.reduceEqDiff,Nat.reduceLeDiff,Int.reduceLE,Int.reduceLT,Int.reduceBNe,Int.reduceBEq,Int.reduceNeg,Int.reduceEq,Int.reduceAdd,Int.reduceGT,Int.reduceGE,reduceCtorEq]
    exact hK1 (by decide) _ gg2
  have w4 := of_decide_eq_false e2
  have h4 := of_decide_eq_false e3
  have hn : ¬ (mayB x y w h = false ∨ w > 4 ∨ h > 4) := by rw [e1]; simp; omega
  rw [if_neg hn] at hK0 hK1
  have l2 := lk_int (e := 75) (z := .agg [.sc (.int .i64 0), .sc (.int .i64 0), .sc (.int .i64 0), .sc (.int .i64 0)]) Tryz.underlying110 (by kernel_rfl) hi2.us id
  have g3 := fun X => Grw.push s2 X
  have c3 := fun X => g3 X _ _ c2
  have i3 := fun X => (hi2.grw (g3 X)).ix
  have n3 := fun X => mlen_at Tryz.underlying110 (hi2.grw (g3 X)).us
  simp only [esI, List.length_map] at n3
  rcases hr.find id with ⟨f1, f2⟩ | ⟨i, hil, f1, f2, f3⟩
  case inr =>
    rw [if_pos (by rw [f1]; omega)] at hK1
    simp only [f3, rc] at l2
    simp only [c2, e2, e3, i2, l2, i3, n3, c3, ↓zP,zV,Nat.reduceAdd,Nat.reduceMul,Nat.reduceLT,Nat.reduceEqDiff,Nat.reduceLeDiff,Int.reduceLE,Int.reduceLT,Int.reduceBNe,Int.reduceBEq,Int.reduceNeg,Int.reduceEq,Int.reduceAdd,Int.reduceGT,Int.reduceGE,reduceCtorEq]
    exact hK1 (by decide) _ (gg2.trans (g3 _))
  rw [if_neg (by rw [f2]; decide)] at hK0 hK1
  simp only [f1] at l2
  rw [← hr.len] at hK0 hK1
  cases e5 : decide ((us.length : Int) ≥ 256)
  case true =>
    have := of_decide_eq_true e5
    rw [if_pos (by omega)] at hK1
    simp only [c2, e2, e3, i2, l2, i3, n3, c3, e5, ↓zP,zV,Nat.reduceAdd,Nat.reduceMul,Nat.reduceLT,Nat.reduceEqDiff,Nat.reduceLeDiff,Int.reduceLE,Int.reduceLT,Int.reduceBNe,Int.reduceBEq,Int.reduceNeg,Int.reduceEq,Int.reduceAdd,Int.reduceGT,Int.reduceGE,reduceCtorEq]
    exact hK1 (by decide) _ (gg2.trans (g3 _))
  have u5 : ¬ 256 ≤ us.length := by have := of_decide_eq_false e5; omega
  rw [if_neg u5] at hK0 hK1
  simp only [c2, e2, e3, i2, l2, i3, n3, c3, e5, ↓zP,zV,Nat.reduceAdd,Nat.reduceMul,Nat.reduceLT,Nat.reduceEqDiff,Nat.reduceLeDiff,Int.reduceLE,Int.reduceLT,Int.reduceBNe,Int.reduceBEq,Int.reduceNeg,Int.reduceEq,Int.reduceAdd,Int.reduceGT,Int.reduceGE,reduceCtorEq]
  obtain ⟨_, _, f3, f4, _⟩ := may_facts e1
  obtain ⟨W, rfl⟩ := Int.eq_ofNat_of_zero_le (show 0 ≤ w by omega)
  obtain ⟨H, rfl⟩ := Int.eq_ofNat_of_zero_le (show 0 ≤ h by omega)
  simp only [Int.toNat_natCast] at hK0
  have hWH : W * H ≤ 64 := Nat.le_trans (Nat.mul_le_mul (show W ≤ 4 by omega) (show H ≤ 4 by omega)) (by decide)
  have me := hr.meets (fun _ => true) e1 (show W ≤ 4 by omega) (show H ≤ 4 by omega)
  simp only [Bool.true_and] at me
  refine o_meets (n := n) (sb := fun _ => true) (g := 51) (caps := []) (by rw [fsz]; decide) hr.int (hi2.grw (g3 _)) hWH e1 (by omega) (by omega) ?_ fun s4 g4 => ?_
  · intro i s3 j3 K' hK'
    refine acallF_inF Tryz.func51 rfl rfl Tryz.ntmps51 (by simp) ?_
    simp only [↓zP,zV,Nat.reduceAdd,Nat.reduceMul,Nat.reduceLT,Nat.reduceEqDiff,Nat.reduceLeDiff,Int.reduceLE,Int.reduceLT,Int.reduceBNe,Int.reduceBEq,Int.reduceNeg,Int.reduceEq,Int.reduceAdd,Int.reduceGT,Int.reduceGE,reduceCtorEq]
    exact hK'
  rw [me]
  cases e6 : L.any (meetsR x y W H)
  case true =>
    rw [e6, if_pos rfl] at hK1
    simp only [↓zP,zV,Nat.reduceAdd,Nat.reduceMul,Nat.reduceLT,Nat.reduceEqDiff,Nat.reduceLeDiff,Int.reduceLE,Int.reduceLT,Int.reduceBNe,Int.reduceBEq,Int.reduceNeg,Int.reduceEq,Int.reduceAdd,Int.reduceGT,Int.reduceGE,reduceCtorEq]
    exact hK1 (by decide) _ ((gg2.trans (g3 _)).trans g4)
  have hx : ((L.any fun p => meetsR x y W H p) = true) = False := by rw [e6]; simp
  simp only [hx, if_false] at hK0
  have hv : valB ⟨id, x, y, W, H⟩ = true := by simp only [valB, e1, Bool.true_and, Bool.and_eq_true, decide_eq_true_eq]; omega
  have c4 := g4 _ _ (c3 _)
  simp only [c4, ↓zP,zV,Nat.reduceAdd,Nat.reduceMul,Nat.reduceLT,Nat.reduceEqDiff,Nat.reduceLeDiff,Int.reduceLE,Int.reduceLT,Int.reduceBNe,Int.reduceBEq,Int.reduceNeg,Int.reduceEq,Int.reduceAdd,Int.reduceGT,Int.reduceGE,reduceCtorEq]
  refine o_set (n := n) ((hi2.grw (g3 _)).grw g4) hab e1 (by omega) (by omega) fun s5 h5 k5 => ?_
  simp only [↓zP,zV,Nat.reduceAdd,Nat.reduceMul,Nat.reduceLT,Nat.reduceEqDiff,Nat.reduceLeDiff,Int.reduceLE,Int.reduceLT,Int.reduceBNe,Int.reduceBEq,Int.reduceNeg,Int.reduceEq,Int.reduceAdd,Int.reduceGT,Int.reduceGE,reduceCtorEq]
  refine hK0 trivial hv f1 ?_ (by omega) _ h5 fun j o ja jb h => k5 j o ja jb (g4 _ _ (g3 _ _ _ (gg2 _ _ h)))
  rintro ⟨p, hp, hab'⟩
  have := (meet_in hv (hr.val p hp)).2 hab'
  rw [Bool.eq_false_iff] at e6
  exact e6 (List.any_eq_true.2 ⟨p, hp, this⟩)
end
end o
end Go.Proofs.YtpdhoicpaonggaaGreat
