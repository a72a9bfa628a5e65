/- Chapter 23: a unit does what it does, both ways. Chapter 21: units are alike. Chapter 23: what comes of a unit that does it, and what is claimed then: the law. -/
import Derived.Test.YtpdhoicpaonggaaGreatXD
set_option linter.unusedVariables false
set_option linter.unusedSimpArgs false
set_option maxRecDepth 10000
namespace Go.Proofs.YtpdhoicpaonggaaGreat
open Go Go.M Go.RowKit
attribute [local congr] acallF_cong aloop_cong bcase_cong resK_cong valK_cong wantK_cong callK_cong xputK_cong qputK_cong resM_cong rfK_cong
attribute [local irreducible] seqK blockK loopK nextK bcase resK valK wantK funK putK dputK xputK qputK callK aops aop acode adraw aloop acallF acall invK resM rfK rfEnd rdEnd rdMid around
theorem ch_cases2 (S : Int → Int → Bool) (may : Int → Int → Int) (u : Un) :
    (∃ c P, u.P = c :: P ∧ u.ph = 1 ∧ (headB u && movB u) = true ∧ ((chS S may u = (1, c.1, c.2) ∧ may c.1 c.2 = 0) ∨ (∃ x y, chS S may u = (3, x, y) ∧ ¬ dirI u.x u.y x y < 0 ∧ may x y = 0) ∨ chS S may u = (2, 0, 0) ∨ chS S may u = (4, 0, 0))) ∨ chS S may u = (0, 0, 0) := by
  cases hP : u.P with
  | nil => exact .inr (ch_stay (.inr hP))
  | cons c P =>
    by_cases h1 : u.ph = 1
    case neg => exact .inr (ch_stay (.inl h1))
    cases h2 : (headB u && movB u) with
    | false => exact .inr (ch_bad h2)
    | true =>
      refine .inl ⟨c, P, rfl, h1, rfl, ?_⟩
      rw [ch_go hP h1 h2]
      cases q1 : legB S u.x u.y (dirI u.x u.y c.1 c.2) with
      | false => exact .inr (.inr (.inr (chT_lose q1)))
      | true =>
        by_cases q2 : may c.1 c.2 = 0
        · exact .inl ⟨chT_go q1 q2, q2⟩
        · by_cases q3 : u.wt < 3
          · exact .inr (.inr (.inl (chT_wait q1 q2 q3)))
          · unfold chT
            rw [if_pos q1, if_neg q2, if_neg q3]
            cases h5 : (List.range 8).find? (fun d : Nat => asideB S may u.x u.y c.1 c.2 d) with
            | none => exact .inr (.inr (.inl rfl))
            | some d =>
              have e1 := List.find?_some h5
              have e2 := List.mem_range.1 (List.mem_of_find?_eq_some h5)
              simp only [asideB, Bool.and_eq_true, beq_iff_eq] at e1
              refine .inr (.inl ⟨_, _, rfl, ?_, e1.2.2⟩)
              rw [dir_turn e2 (leg_step e1.1)]
              omega
theorem sets3 {s : List Ob} {i j k t : Nat} {a b c d : Ob} (h0 : s[i]? = some a) (h1 : s[j]? = some b) (h2 : s[k]? = some c) (h8 : s[t]? = some d) (n1 : i ≠ j) (n2 : i ≠ k) (n3 : j ≠ k) (n4 : i ≠ t) (n5 : j ≠ t) :
    (∀ o, (s.set i o)[i]? = some o) ∧ (∀ o, (s.set i o)[j]? = some b) ∧ (∀ o, (s.set i o)[k]? = some c) ∧ (∀ o, (s.set i o)[t]? = some d) ∧ (∀ o o', ((s.set i o).set j o')[j]? = some o') ∧ (∀ o o', ((s.set i o).set j o')[k]? = some c) ∧ (∀ o o' o'', (((s.set i o).set j o').set k o'')[j]? = some o') ∧ (∀ o o' o'', (((s.set i o).set j o').set k o'')[k]? = some o'') ∧ (∀ o o', ((s.set i o).set j o')[t]? = some d) := by
  have e1 : ∀ o, (s.set i o)[j]? = some b := fun o => (List.getElem?_set_ne n1).trans h1
  have e2 : ∀ o, (s.set i o)[k]? = some c := fun o => (List.getElem?_set_ne n2).trans h2
  have e3 : ∀ o o', ((s.set i o).set j o')[k]? = some c := fun o o' => (List.getElem?_set_ne n3).trans (e2 o)
  have e4 : ∀ o o', ((s.set i o).set j o')[j]? = some o' := fun o o' => get_set (e1 o) o'
  exact ⟨fun o => get_set h0 o, e1, e2, fun o => (List.getElem?_set_ne n4).trans h8, e4, e3, fun o o' o'' => (List.getElem?_set_ne (Ne.symm n3)).trans (e4 o o'), fun o o' o'' => get_set (e3 o o') o'', fun o o' => (List.getElem?_set_ne n5).trans ((List.getElem?_set_ne n4).trans h8)⟩
theorem act_go {u : Un} {c : Int × Int} {Q : List (Int × Int)} (hP : u.P = c :: Q) (a b : Int) : actU u (1, a, b) = stepU u c Q := by simp [actU, hP]
theorem act_aside (u : Un) (x y : Int) : actU u (3, x, y) = aimU {u with x := x, y := y} u.gx u.gy := by simp [actU]
theorem act_wait (u : Un) : actU u (2, 0, 0) = holdU u := by simp [actU]
theorem act_lose (u : Un) : actU u (4, 0, 0) = aimU u u.gx u.gy := by simp [actU]
theorem act_stay (u : Un) : actU u (0, 0, 0) = u := by simp [actU]
theorem aim_P (u : Un) (gx gy : Int) : (aimU u gx gy).P = [] := by unfold aimU; split <;> rfl
theorem set3_old {s : List Ob} {N j : Nat} {o : Ob} (hj : j < N) (h : s[j]? = some o) (a b c : Ob) : (((s.set N a).set (N + 1) b).set (N + 2) c)[j]? = some o := by
  rw [List.getElem?_set_ne (by omega), List.getElem?_set_ne (by omega), List.getElem?_set_ne (by omega)]
  exact h
section
variable {n m : Nat} {st s : List Ob} {K : V → List Ob → Prop} {wd rd : Nat} {ro : Option Nat} {WW HH : Int} {T : List Int} {L : List B4} {L2 Q : List o.U} {pv : V} {u : Un} {ix a b tb v c z iy : Nat} {us gs cls : List (Int × V)} {os cc : List ((Int × Int) × V)} {sv cv iv : V} {S : Int → Int → Bool}
set_option maxHeartbeats 8000000 in
theorem c_Act (hw : Wo st wd ro WW HH T L) (rel : o.Rel us os L2) (hx : o.Ix st ix a b us os) (hT : o.Tb st tb ix v c cls cc) (hC : o.Cr L2 Q gs cls cc) (huc : v ≠ c) (hp : Pth st pv u.P) (hcut : Cut Tryz.prog st 31 pv (u.P.flatMap cpV) u.P.length) (hm : 20000 < m)
    {r : Int × Int × Int} (hr : chS (standB WW HH (bs T) L u.c u.z) (o.mayC L2 Q u.id) u = r)
    (hK0 : r.1 ≠ 1 → r.1 ≠ 3 → ∀ pv' s, Pth s pv' (actU u r).P → Grw st s → K (.tup [.agg (unV (actU u r) pv'), .agg (chV r)]) s)
    (hK1 : r.1 = 1 ∨ r.1 = 3 → o.mayC L2 Q u.id r.2.1 r.2.2 = 0 → ∀ pv' s p gs' cls' cc', p ∈ L2 → p.id = u.id → o.Tb s tb ix v c cls' cc' → o.Cr L2 (o.insU (o.mvU p r.2.1 r.2.2) Q) gs' cls' cc' → (∀ j o, j ≠ v → j ≠ c → st[j]? = some o → s[j]? = some o) → Pth s pv' (actU u r).P → K (.tup [.agg (unV (actU u r) pv'), .agg (chV r)]) s) :
    acallF Tryz.prog pl (n + 14) m 9 [.ref wd 0, .ref tb 0, .agg (unV u pv)] st K := by
  refine acallF_inF Tryz.func9 rfl rfl Tryz.ntmps9 (by simp) ?_
  obtain ⟨o1, o2⟩ := hp.2
  obtain ⟨S1, hS⟩ : ∃ S1, S1 = st ++ [Ob.cells (unV u pv), .cells zeroU, .cells [.sc (.int .i64 0), .sc (.int .i64 0), .sc (.int .i64 0)]] := ⟨_, rfl⟩
  have g0 : Grw st S1 := by rw [hS]; exact .push _ _
  have c0 : S1[st.length]? = some (.cells (unV u pv)) := by rw [hS]; exact get_new _ _ 0
  have c1 : S1[st.length + 1]? = some (.cells zeroU) := by rw [hS]; exact get_new _ _ 1
  have c2 : S1[st.length + 2]? = some (.cells [.sc (.int .i64 0), .sc (.int .i64 0), .sc (.int .i64 0)]) := by rw [hS]; exact get_new _ _ 2
  simp only [unV, zeroU] at hS c0 c1 c2
  simp only [unV, o1, o2, get_new, get_new0, List.getElem?_cons_zero, ↓zP,zV,Nat.reduceAdd,Nat.reduceMul,Nat.reduceLT,Nat.reduceEqDiff,Nat.reduceLeDiff,Int.reduceLE,Int.reduceLT,Int.reduceBNe,Int.reduceBEq,Int.reduceNeg,Int.reduceEq,Int.reduceAdd,Int.reduceGT,Int.reduceGE,reduceCtorEq]
  rw [← hS]
  have pt : Pt S1 tb L2 Q := ⟨_, _, _, _, _, _, _, _, _, _, rel, hx.grw g0, hT.grw g0, hC⟩
  refine c_Choose (n := n) (u := u) (pv := pv) (L2 := L2) (Q := Q) (hw.grw g0) pt (hp.grw g0) hm fun s1 j1 => ?_
  rw [hr]
  have l2 : st.length + 2 < s1.length := (List.getElem?_eq_some_iff.1 (j1 _ _ c2)).1
  have a0 := fun X => Grw.push s1 X _ _ (j1 _ _ c0)
  have a1 := fun X => Grw.push s1 X _ _ (j1 _ _ c1)
  have a2 := fun X => Grw.push s1 X _ _ (j1 _ _ c2)
  have g1 := fun X => (g0.trans j1).push' X
  have fin : ∀ {s' : List Ob}, Grw st s' → ∀ o o' o'', Grw st (((s'.set st.length o).set (st.length + 1) o').set (st.length + 2) o'') := fun h o o' o'' => ((h.set (Nat.le_refl _) o).set (by omega) o').set (by omega) o''
  have lv : v < st.length := (List.getElem?_eq_some_iff.1 hT.cl).1
  have lc : c < st.length := (List.getElem?_eq_some_iff.1 hT.cc).1
  have ltb : tb < st.length := (List.getElem?_eq_some_iff.1 hT.at_).1
  have tbk : ∀ {s2 s3 : List Ob} {cls' : List (Int × V)} {cc' : List ((Int × Int) × V)}, o.Tb s2 tb ix v c cls' cc' → Grw s2 s3 → ∀ x y z, o.Tb (((s3.set st.length x).set (st.length + 1) y).set (st.length + 2) z) tb ix v c cls' cc' := fun h g x y z => ⟨set3_old ltb (g _ _ h.at_) _ _ _, set3_old lv (g _ _ h.cl) _ _ _, set3_old lc (g _ _ h.cc) _ _ _⟩
  have pfin : ∀ {s' : List Ob} {pv' : V} {P : List (Int × Int)} {x0 x1 x2 : List V}, Pth s' pv' P → s'[st.length]? = some (.cells x0) → s'[st.length + 1]? = some (.cells x1) → s'[st.length + 2]? = some (.cells x2) → ∀ y0 y1 y2, Pth (((s'.set st.length (.cells y0)).set (st.length + 1) (.cells y1)).set (st.length + 2) (.cells y2)) pv' P := fun h h0 h1 h2 y0 y1 y2 => by
    have k1 : (_ : List Ob)[st.length + 1]? = _ := (List.getElem?_set_ne (a := Ob.cells y0) (show st.length ≠ st.length + 1 by omega)).trans h1
    have k2 : (_ : List Ob)[st.length + 2]? = _ := (List.getElem?_set_ne (a := Ob.cells y0) (show st.length ≠ st.length + 2 by omega)).trans h2
    have k3 : (_ : List Ob)[st.length + 2]? = _ := (List.getElem?_set_ne (a := Ob.cells y1) (show st.length + 1 ≠ st.length + 2 by omega)).trans k2
    exact ((h.set_ h0 y0).set_ k1 y1).set_ k3 y2
  rcases ch_cases2 (standB WW HH (bs T) L u.c u.z) (o.mayC L2 Q u.id) u with ⟨d, P, hP, hph, hok, hh⟩ | hst
  · have hne : u.P ≠ [] := by rw [hP]; simp
    rcases hh with ⟨h1, h2⟩ | ⟨x, y, h1, hd, h2⟩ | h1 | h1
    · rw [hr] at h1
      subst h1
      have a8 := fun X => get_new0 s1 (Ob.cells (chV (1, d.1, d.2)) :: X)
      simp only [chV] at a8
      simp only [chV, a0, a1, a2, a8, ↓zP,zV,Nat.reduceAdd,Nat.reduceMul,Nat.reduceLT,Nat.reduceEqDiff,Nat.reduceLeDiff,Int.reduceLE,Int.reduceLT,Int.reduceBNe,Int.reduceBEq,Int.reduceNeg,Int.reduceEq,Int.reduceAdd,Int.reduceGT,Int.reduceGE,reduceCtorEq]
      refine o.do_Claim (n := n + 5) rel (hx.grw (g1 _)) (hT.grw (g1 _)) hC huc (by omega) (fun hn => absurd h2 hn) (fun _ p gs' cls' cc' s2 hpp hpe hT2 hC2 k2 => ?_)
      have b0 := k2 _ _ (by omega) (by omega) (a0 _)
      have b1 := k2 _ _ (by omega) (by omega) (a1 _)
      have b2 := k2 _ _ (by omega) (by omega) (a2 _)
      have b8 := k2 _ _ (by omega) (by omega) (a8 _)
      have km2 := o.kp_km k2 (hT.grw (g1 _)).cl (hT.grw (g1 _)).cc
      have kk : ∀ j o, j ≠ v → j ≠ c → st[j]? = some o → s2[j]? = some o := fun j o h1 h2 ho => k2 _ _ h1 h2 (g1 _ _ _ ho)
      have hp2 : Pth s2 pv u.P := ⟨o.rd_km (hp.grw (g1 _)).1 km2, hp.2⟩
      have hcut2 := o.cut_km (hcut.grw (g1 _)) km2
      simp only [b0, b1, b2, b8, o1, o2, ↓zP,zV,Nat.reduceAdd,Nat.reduceMul,Nat.reduceLT,Nat.reduceEqDiff,Nat.reduceLeDiff,Int.reduceLE,Int.reduceLT,Int.reduceBNe,Int.reduceBEq,Int.reduceNeg,Int.reduceEq,Int.reduceAdd,Int.reduceGT,Int.reduceGE,reduceCtorEq]
      refine u_Step (n := n + 4) (u := u) (pv := pv) hp2 hcut2 hph hok hm hP fun pv' s3 hp' j3 => ?_
      obtain ⟨o3, o4⟩ := hp'.2
      have d0 := j3 _ _ b0
      have d1 := j3 _ _ b1
      have d2 := j3 _ _ b2
      have d8 := j3 _ _ b8
      obtain ⟨z1, z2, z3, z4, z5, z6, z7, z8, z9⟩ := sets3 d0 d1 d2 d8 (by omega) (by omega) (by omega) (by omega) (by omega)
      have hK1 := hK1 (.inl rfl) h2 pv'
      rw [act_go hP] at hK1
      simp only [unV, chV] at hK1
      simp only [unV, d0, d1, d2, d8, z1, z2, z3, z4, z5, z6, z7, z8, z9, o3, o4, ↓zP,zV,Nat.reduceAdd,Nat.reduceMul,Nat.reduceLT,Nat.reduceEqDiff,Nat.reduceLeDiff,Int.reduceLE,Int.reduceLT,Int.reduceBNe,Int.reduceBEq,Int.reduceNeg,Int.reduceEq,Int.reduceAdd,Int.reduceGT,Int.reduceGE,reduceCtorEq]
      exact hK1 _ p gs' cls' cc' hpp hpe (tbk hT2 j3 _ _ _) hC2 (fun j o h1 h2 ho => set3_old (List.getElem?_eq_some_iff.1 ho).1 (j3 _ _ (kk _ _ h1 h2 ho)) _ _ _) (pfin hp' d0 d1 d2 _ _ _)
    · rw [hr] at h1
      subst h1
      have a8 := fun X => get_new0 s1 (Ob.cells (chV (3, x, y)) :: X)
      simp only [chV] at a8
      simp only [chV, a0, a1, a2, a8, ↓zP,zV,Nat.reduceAdd,Nat.reduceMul,Nat.reduceLT,Nat.reduceEqDiff,Nat.reduceLeDiff,Int.reduceLE,Int.reduceLT,Int.reduceBNe,Int.reduceBEq,Int.reduceNeg,Int.reduceEq,Int.reduceAdd,Int.reduceGT,Int.reduceGE,reduceCtorEq]
      refine o.do_Claim (n := n + 5) rel (hx.grw (g1 _)) (hT.grw (g1 _)) hC huc (by omega) (fun hn => absurd h2 hn) (fun _ p gs' cls' cc' s2 hpp hpe hT2 hC2 k2 => ?_)
      have b0 := k2 _ _ (by omega) (by omega) (a0 _)
      have b1 := k2 _ _ (by omega) (by omega) (a1 _)
      have b2 := k2 _ _ (by omega) (by omega) (a2 _)
      have b8 := k2 _ _ (by omega) (by omega) (a8 _)
      have km2 := o.kp_km k2 (hT.grw (g1 _)).cl (hT.grw (g1 _)).cc
      have kk : ∀ j o, j ≠ v → j ≠ c → st[j]? = some o → s2[j]? = some o := fun j o h1 h2 ho => k2 _ _ h1 h2 (g1 _ _ _ ho)
      have hp2 : Pth s2 pv u.P := ⟨o.rd_km (hp.grw (g1 _)).1 km2, hp.2⟩
      have hcut2 := o.cut_km (hcut.grw (g1 _)) km2
      simp only [b0, b1, b2, b8, o1, o2, ↓zP,zV,Nat.reduceAdd,Nat.reduceMul,Nat.reduceLT,Nat.reduceEqDiff,Nat.reduceLeDiff,Int.reduceLE,Int.reduceLT,Int.reduceBNe,Int.reduceBEq,Int.reduceNeg,Int.reduceEq,Int.reduceAdd,Int.reduceGT,Int.reduceGE,reduceCtorEq]
      refine u_Aside (n := n + 4) (u := u) (pv := pv) (x := x) (y := y) hp2 hph hok hm hd fun s3 j3 => ?_
      have d0 := j3 _ _ b0
      have d1 := j3 _ _ b1
      have d2 := j3 _ _ b2
      have d8 := j3 _ _ b8
      obtain ⟨z1, z2, z3, z4, z5, z6, z7, z8, z9⟩ := sets3 d0 d1 d2 d8 (by omega) (by omega) (by omega) (by omega) (by omega)
      have hK1 := hK1 (.inr rfl) h2 nilP
      rw [act_aside, aim_P] at hK1
      simp only [unV, chV, nilP] at hK1
      simp only [unV, nilP, d0, d1, d2, d8, z1, z2, z3, z4, z5, z6, z7, z8, z9, ↓zP,zV,Nat.reduceAdd,Nat.reduceMul,Nat.reduceLT,Nat.reduceEqDiff,Nat.reduceLeDiff,Int.reduceLE,Int.reduceLT,Int.reduceBNe,Int.reduceBEq,Int.reduceNeg,Int.reduceEq,Int.reduceAdd,Int.reduceGT,Int.reduceGE,reduceCtorEq]
      exact hK1 _ p gs' cls' cc' hpp hpe (tbk hT2 j3 _ _ _) hC2 (fun j o h1 h2 ho => set3_old (List.getElem?_eq_some_iff.1 ho).1 (j3 _ _ (kk _ _ h1 h2 ho)) _ _ _) (pth_nil _)
    · rw [hr] at h1
      subst h1
      have a8 := fun X => get_new0 s1 (Ob.cells (chV (2, 0, 0)) :: X)
      simp only [chV] at a8
      simp only [chV, a0, a1, a2, a8, o1, o2, ↓zP,zV,Nat.reduceAdd,Nat.reduceMul,Nat.reduceLT,Nat.reduceEqDiff,Nat.reduceLeDiff,Int.reduceLE,Int.reduceLT,Int.reduceBNe,Int.reduceBEq,Int.reduceNeg,Int.reduceEq,Int.reduceAdd,Int.reduceGT,Int.reduceGE,reduceCtorEq]
      refine u_Hold (n := n + 4) (u := u) (pv := pv) (hp.grw (g1 _)) hph hok hm fun pv' s3 hp' j3 => ?_
      obtain ⟨o3, o4⟩ := hp'.2
      have b0 := j3 _ _ (a0 _)
      have b1 := j3 _ _ (a1 _)
      have b2 := j3 _ _ (a2 _)
      have b8 := j3 _ _ (a8 _)
      obtain ⟨z1, z2, z3, z4, z5, z6, z7, z8, z9⟩ := sets3 b0 b1 b2 b8 (by omega) (by omega) (by omega) (by omega) (by omega)
      have hK0 := hK0 (by decide) (by decide) pv'
      rw [act_wait] at hK0
      simp only [unV, chV] at hK0
      simp only [unV, b0, b1, b2, b8, z1, z2, z3, z4, z5, z6, z7, z8, z9, o3, o4, ↓zP,zV,Nat.reduceAdd,Nat.reduceMul,Nat.reduceLT,Nat.reduceEqDiff,Nat.reduceLeDiff,Int.reduceLE,Int.reduceLT,Int.reduceBNe,Int.reduceBEq,Int.reduceNeg,Int.reduceEq,Int.reduceAdd,Int.reduceGT,Int.reduceGE,reduceCtorEq]
      exact hK0 _ (pfin hp' b0 b1 b2 _ _ _) (fin ((g1 _).trans j3) _ _ _)
    · rw [hr] at h1
      subst h1
      have a8 := fun X => get_new0 s1 (Ob.cells (chV (4, 0, 0)) :: X)
      simp only [chV] at a8
      simp only [chV, a0, a1, a2, a8, o1, o2, ↓zP,zV,Nat.reduceAdd,Nat.reduceMul,Nat.reduceLT,Nat.reduceEqDiff,Nat.reduceLeDiff,Int.reduceLE,Int.reduceLT,Int.reduceBNe,Int.reduceBEq,Int.reduceNeg,Int.reduceEq,Int.reduceAdd,Int.reduceGT,Int.reduceGE,reduceCtorEq]
      refine u_Lose (n := n + 4) (u := u) (pv := pv) (hp.grw (g1 _)) hph hok hm fun s3 j3 => ?_
      have b0 := j3 _ _ (a0 _)
      have b1 := j3 _ _ (a1 _)
      have b2 := j3 _ _ (a2 _)
      have b8 := j3 _ _ (a8 _)
      obtain ⟨z1, z2, z3, z4, z5, z6, z7, z8, z9⟩ := sets3 b0 b1 b2 b8 (by omega) (by omega) (by omega) (by omega) (by omega)
      have hK0 := hK0 (by decide) (by decide) nilP
      rw [act_lose, aim_P] at hK0
      simp only [unV, chV, nilP] at hK0
      simp only [unV, nilP, b0, b1, b2, b8, z1, z2, z3, z4, z5, z6, z7, z8, z9, ↓zP,zV,Nat.reduceAdd,Nat.reduceMul,Nat.reduceLT,Nat.reduceEqDiff,Nat.reduceLeDiff,Int.reduceLE,Int.reduceLT,Int.reduceBNe,Int.reduceBEq,Int.reduceNeg,Int.reduceEq,Int.reduceAdd,Int.reduceGT,Int.reduceGE,reduceCtorEq]
      exact hK0 _ (pth_nil _) (fin ((g1 _).trans j3) _ _ _)
  · rw [hr] at hst
    subst hst
    have a8 := fun X => get_new0 s1 (Ob.cells (chV (0, 0, 0)) :: X)
    simp only [chV] at a8
    have y5 : ∀ X o, ((s1 ++ Ob.cells [.sc (.int .i64 0), .sc (.int .i64 0), .sc (.int .i64 0)] :: X).set (st.length + 1) o)[s1.length]? = _ := fun X o => (List.getElem?_set_ne (by omega)).trans (a8 X)
    have y1 := fun X o => get_set (a1 X) o
    have y2 : ∀ X o, ((s1 ++ X).set (st.length + 1) o)[st.length + 2]? = _ := fun X o => (List.getElem?_set_ne (by omega)).trans (a2 X)
    have y3 := fun X o o' => get_set (y2 X o) o'
    have y4 : ∀ X o o', (((s1 ++ X).set (st.length + 1) o).set (st.length + 2) o')[st.length + 1]? = _ := fun X o o' => (List.getElem?_set_ne (by omega)).trans (y1 X o)
    have hK0 := hK0 (by decide) (by decide) pv
    rw [act_stay] at hK0
    simp only [unV, chV] at hK0
    simp only [chV, a0, a1, a2, a8, y1, y2, y3, y4, y5, o1, o2, ↓zP,zV,Nat.reduceAdd,Nat.reduceMul,Nat.reduceLT,Nat.reduceEqDiff,Nat.reduceLeDiff,Int.reduceLE,Int.reduceLT,Int.reduceBNe,Int.reduceBEq,Int.reduceNeg,Int.reduceEq,Int.reduceAdd,Int.reduceGT,Int.reduceGE,reduceCtorEq]
    exact hK0 _ ((((hp.grw (g1 _)).set_ (a1 _) _)).set_ (y2 _ _) _) (((g1 _).set (by omega) _).set (by omega) _)
theorem kr_set {s : List Ob} {i : Nat} {c0 c1 : List V} (h : s[i]? = some (.cells c0)) : o.Kr s (s.set i (.cells c1)) := fun j e xs n lo fz hj => by
  rw [List.getElem?_set_ne (fun he => by rw [← he, h] at hj; cases hj)]
  exact hj
set_option maxHeartbeats 8000000 in
theorem r_Act (hg : Gnd st iv WW HH S) (hy : o.Ri st iy sv L2) (rel : o.Rel us os L2) (hR : o.Rt st z iy cv (Q.map o.cOf)) (hC : o.Cr L2 Q gs cls cc) (hl2 : L2.length ≤ 256) (hlq : Q.length ≤ 256) (hp : Pth st pv u.P) (hcut : Cut Tryz.prog st 31 pv (u.P.flatMap cpV) u.P.length) (hm : 20000 < m)
    {r : Int × Int × Int} (hr : chS S (o.mayC L2 Q u.id) u = r)
    (hK0 : r.1 ≠ 1 → r.1 ≠ 3 → ∀ pv' s, Pth s pv' (actU u r).P → Grw st s → K (.tup [.agg (unV (actU u r) pv'), .agg (chV r)]) s)
    (hK1 : r.1 = 1 ∨ r.1 = 3 → o.mayC L2 Q u.id r.2.1 r.2.2 = 0 → ∀ pv' s cv', (∀ w : o.U, w.id = u.id → w.x = r.2.1 → w.y = r.2.2 → o.Rt s z iy cv' ((o.insU w Q).map o.cOf)) → (∀ j o, j ≠ z → st[j]? = some o → s[j]? = some o) → Pth s pv' (actU u r).P → K (.tup [.agg (unV (actU u r) pv'), .agg (chV r)]) s) :
    acallF Tryz.prog pl (n + 9) m 10 [.agg [.sc (.int .i64 WW), .sc (.int .i64 HH), iv], .ref z 0, .agg (unV u pv)] st K := by
  refine acallF_inF Tryz.func10 rfl rfl Tryz.ntmps10 (by simp) ?_
  obtain ⟨o1, o2⟩ := hp.2
  obtain ⟨o5, o6⟩ := hg.one
  obtain ⟨S1, hS⟩ : ∃ S1, S1 = st ++ [Ob.cells [.sc (.int .i64 WW), .sc (.int .i64 HH), iv], .cells (unV u pv), .cells zeroU, .cells [.sc (.int .i64 0), .sc (.int .i64 0), .sc (.int .i64 0)]] := ⟨_, rfl⟩
  have g0 : Grw st S1 := by rw [hS]; exact .push _ _
  have c3 : S1[st.length]? = some (.cells [.sc (.int .i64 WW), .sc (.int .i64 HH), iv]) := by rw [hS]; exact get_new _ _ 0
  have c0 : S1[st.length + 1]? = some (.cells (unV u pv)) := by rw [hS]; exact get_new _ _ 1
  have c1 : S1[st.length + 2]? = some (.cells zeroU) := by rw [hS]; exact get_new _ _ 2
  have c2 : S1[st.length + 3]? = some (.cells [.sc (.int .i64 0), .sc (.int .i64 0), .sc (.int .i64 0)]) := by rw [hS]; exact get_new _ _ 3
  simp only [unV, zeroU] at hS c0 c1 c2
  simp only [unV, o1, o2, o5, o6, get_new, get_new0, List.getElem?_cons_zero, List.getElem?_cons_succ, ↓zP,zV,Nat.reduceAdd,Nat.reduceMul,Nat.reduceLT,Nat.reduceEqDiff,Nat.reduceLeDiff,Int.reduceLE,Int.reduceLT,Int.reduceBNe,Int.reduceBEq,Int.reduceNeg,Int.reduceEq,Int.reduceAdd,Int.reduceGT,Int.reduceGE,reduceCtorEq]
  rw [← hS]
  have lz : z < st.length := (List.getElem?_eq_some_iff.1 hR.at_).1
  have rq : Rq S1 z L2 Q := ⟨_, _, _, _, _, _, _, _, hy.grw g0, rel, hR.grw g0, hC, hl2, hlq⟩
  refine r_Choose (n := n) (u := u) (pv := pv) (hg.grw g0) rq (hp.grw g0) hm fun s1 j1 => ?_
  rw [hr]
  have l2 : st.length + 3 < s1.length := (List.getElem?_eq_some_iff.1 (j1 _ _ c2)).1
  have a0 := fun X => Grw.push s1 X _ _ (j1 _ _ c0)
  have a1 := fun X => Grw.push s1 X _ _ (j1 _ _ c1)
  have a2 := fun X => Grw.push s1 X _ _ (j1 _ _ c2)
  have g1 := fun X => (g0.trans j1).push' X
  have a8 := fun X => get_new0 s1 (Ob.cells (chV r) :: X)
  have a9 := fun X => get_new s1 (Ob.cells (chV r) :: Ob.cells (unV u pv) :: X) 1
  simp only [chV, unV, List.getElem?_cons_zero, List.getElem?_cons_succ] at a8 a9
  have old : ∀ {s : List Ob} {j : Nat} {o : Ob}, j < st.length → s[j]? = some o → ∀ a b c, (((s.set (s1.length + 1) a).set (st.length + 2) b).set (st.length + 3) c)[j]? = some o := fun hj h a b c => by
    rw [List.getElem?_set_ne (by omega), List.getElem?_set_ne (by omega), List.getElem?_set_ne (by omega)]
    exact h
  have pfin : ∀ {s' : List Ob} {pv' : V} {P : List (Int × Int)} {x0 x1 x2 : List V}, Pth s' pv' P → s'[s1.length + 1]? = some (.cells x0) → s'[st.length + 2]? = some (.cells x1) → s'[st.length + 3]? = some (.cells x2) → ∀ y0 y1 y2, Pth (((s'.set (s1.length + 1) (.cells y0)).set (st.length + 2) (.cells y1)).set (st.length + 3) (.cells y2)) pv' P := fun {s'} _ _ _ _ _ h h0 h1 h2 y0 y1 y2 => by
    have k1 : (s'.set (s1.length + 1) (.cells y0))[st.length + 2]? = _ := (List.getElem?_set_ne (by omega)).trans h1
    have k2 : (s'.set (s1.length + 1) (.cells y0))[st.length + 3]? = _ := (List.getElem?_set_ne (by omega)).trans h2
    have k3 : ((s'.set (s1.length + 1) (.cells y0)).set (st.length + 2) (.cells y1))[st.length + 3]? = _ := (List.getElem?_set_ne (by omega)).trans k2
    exact ((h.set_ h0 y0).set_ k1 y1).set_ k3 y2
  have kr3 : ∀ {s' : List Ob} {x0 x1 x2 : List V}, s'[s1.length + 1]? = some (.cells x0) → s'[st.length + 2]? = some (.cells x1) → s'[st.length + 3]? = some (.cells x2) → ∀ y0 y1 y2, o.Kr s' (((s'.set (s1.length + 1) (.cells y0)).set (st.length + 2) (.cells y1)).set (st.length + 3) (.cells y2)) := fun {s'} _ _ _ h0 h1 h2 y0 y1 y2 j e xs n lo fz hj => by
    have k1 : (s'.set (s1.length + 1) (.cells y0))[st.length + 2]? = _ := (List.getElem?_set_ne (by omega)).trans h1
    have k2 : (s'.set (s1.length + 1) (.cells y0))[st.length + 3]? = _ := (List.getElem?_set_ne (by omega)).trans h2
    have k3 : ((s'.set (s1.length + 1) (.cells y0)).set (st.length + 2) (.cells y1))[st.length + 3]? = _ := (List.getElem?_set_ne (by omega)).trans k2
    exact kr_set k3 _ _ _ _ _ _ (kr_set k1 _ _ _ _ _ _ (kr_set h0 _ _ _ _ _ _ hj))
  have fin : ∀ {s' : List Ob}, Grw st s' → ∀ o o' o'', Grw st (((s'.set (s1.length + 1) o).set (st.length + 2) o').set (st.length + 3) o'') := fun h o o' o'' => ((h.set (by omega) o).set (by omega) o').set (by omega) o''
  rcases ch_cases2 S (o.mayC L2 Q u.id) u with ⟨d, P, hP, hph, hok, hh⟩ | hst
  · have hne : u.P ≠ [] := by rw [hP]; simp
    rcases hh with ⟨h1, h2⟩ | ⟨x, y, h1, hd, h2⟩ | h1 | h1
    · rw [hr] at h1
      subst h1
      simp only [chV] at a8 a9
      simp only [chV, a0, a1, a2, a8, a9, o1, o2, ↓zP,zV,Nat.reduceAdd,Nat.reduceMul,Nat.reduceLT,Nat.reduceEqDiff,Nat.reduceLeDiff,Int.reduceLE,Int.reduceLT,Int.reduceBNe,Int.reduceBEq,Int.reduceNeg,Int.reduceEq,Int.reduceAdd,Int.reduceGT,Int.reduceGE,reduceCtorEq]
      refine o.r_DoClaim (n := n) (hy.grw (g1 _)) rel (hR.grw (g1 _)) hC (by omega) hl2 hlq (fun hn => absurd h2 hn) fun _ cv' s2 hR2 k2 => ?_
      have b0 := k2 _ _ (by omega) (a0 _)
      have b1 := k2 _ _ (by omega) (a1 _)
      have b2 := k2 _ _ (by omega) (a2 _)
      have b8 := k2 _ _ (by omega) (a8 _)
      have b9 := k2 _ _ (by omega) (a9 _)
      have kr2 : o.Kr _ s2 := fun j e xs n lo fz hj => k2 _ _ (fun he => by rw [he, (hR.grw (g1 _)).at_] at hj; cases hj) hj
      have kk : ∀ j o, j ≠ z → st[j]? = some o → s2[j]? = some o := fun j o h1 ho => k2 _ _ h1 (g1 _ _ _ ho)
      have hp2 : Pth s2 pv u.P := ⟨o.rd_kr (hp.grw (g1 _)).1 kr2, hp.2⟩
      have hcut2 := o.cut_kr (hcut.grw (g1 _)) kr2
      simp only [b0, b1, b2, b8, b9, o1, o2, ↓zP,zV,Nat.reduceAdd,Nat.reduceMul,Nat.reduceLT,Nat.reduceEqDiff,Nat.reduceLeDiff,Int.reduceLE,Int.reduceLT,Int.reduceBNe,Int.reduceBEq,Int.reduceNeg,Int.reduceEq,Int.reduceAdd,Int.reduceGT,Int.reduceGE,reduceCtorEq]
      refine r_UStep (n := n + 2) (u := u) (pv := pv) hp2 hcut2 hph hok hm hP fun pv' s3 hp' j3 => ?_
      obtain ⟨o3, o4⟩ := hp'.2
      have d1 := j3 _ _ b1
      have d2 := j3 _ _ b2
      have d8 := j3 _ _ b8
      have d9 := j3 _ _ b9
      obtain ⟨z1, z2, z3, z4, z5, z6, z7, z8, z9⟩ := sets3 d9 d1 d2 d8 (by omega) (by omega) (by omega) (by omega) (by omega)
      have hK1 := hK1 (.inl rfl) h2 pv'
      rw [act_go hP] at hK1
      simp only [unV, chV] at hK1
      simp only [unV, d1, d2, d8, d9, z1, z2, z3, z4, z5, z6, z7, z8, z9, o3, o4, ↓zP,zV,Nat.reduceAdd,Nat.reduceMul,Nat.reduceLT,Nat.reduceEqDiff,Nat.reduceLeDiff,Int.reduceLE,Int.reduceLT,Int.reduceBNe,Int.reduceBEq,Int.reduceNeg,Int.reduceEq,Int.reduceAdd,Int.reduceGT,Int.reduceGE,reduceCtorEq]
      exact hK1 _ cv' (fun w h1 h2 h3 => ⟨old lz (j3 _ _ (hR2 w h1 h2 h3).at_) _ _ _, o.cut_kr ((hR2 w h1 h2 h3).rd.grw j3) (kr3 d9 d1 d2 _ _ _)⟩) (fun j o h1 ho => old (List.getElem?_eq_some_iff.1 ho).1 (j3 _ _ (kk _ _ h1 ho)) _ _ _) (pfin hp' d9 d1 d2 _ _ _)
    · rw [hr] at h1
      subst h1
      simp only [chV] at a8 a9
      simp only [chV, a0, a1, a2, a8, a9, o1, o2, ↓zP,zV,Nat.reduceAdd,Nat.reduceMul,Nat.reduceLT,Nat.reduceEqDiff,Nat.reduceLeDiff,Int.reduceLE,Int.reduceLT,Int.reduceBNe,Int.reduceBEq,Int.reduceNeg,Int.reduceEq,Int.reduceAdd,Int.reduceGT,Int.reduceGE,reduceCtorEq]
      refine o.r_DoClaim (n := n) (hy.grw (g1 _)) rel (hR.grw (g1 _)) hC (by omega) hl2 hlq (fun hn => absurd h2 hn) fun _ cv' s2 hR2 k2 => ?_
      have b0 := k2 _ _ (by omega) (a0 _)
      have b1 := k2 _ _ (by omega) (a1 _)
      have b2 := k2 _ _ (by omega) (a2 _)
      have b8 := k2 _ _ (by omega) (a8 _)
      have b9 := k2 _ _ (by omega) (a9 _)
      have kr2 : o.Kr _ s2 := fun j e xs n lo fz hj => k2 _ _ (fun he => by rw [he, (hR.grw (g1 _)).at_] at hj; cases hj) hj
      have kk : ∀ j o, j ≠ z → st[j]? = some o → s2[j]? = some o := fun j o h1 ho => k2 _ _ h1 (g1 _ _ _ ho)
      have hp2 : Pth s2 pv u.P := ⟨o.rd_kr (hp.grw (g1 _)).1 kr2, hp.2⟩
      have hcut2 := o.cut_kr (hcut.grw (g1 _)) kr2
      simp only [b0, b1, b2, b8, b9, o1, o2, ↓zP,zV,Nat.reduceAdd,Nat.reduceMul,Nat.reduceLT,Nat.reduceEqDiff,Nat.reduceLeDiff,Int.reduceLE,Int.reduceLT,Int.reduceBNe,Int.reduceBEq,Int.reduceNeg,Int.reduceEq,Int.reduceAdd,Int.reduceGT,Int.reduceGE,reduceCtorEq]
      refine r_Aside (n := n + 2) (u := u) (pv := pv) (x := x) (y := y) hp2 hph hok hne hm hd fun s3 j3 => ?_
      have d1 := j3 _ _ b1
      have d2 := j3 _ _ b2
      have d8 := j3 _ _ b8
      have d9 := j3 _ _ b9
      obtain ⟨z1, z2, z3, z4, z5, z6, z7, z8, z9⟩ := sets3 d9 d1 d2 d8 (by omega) (by omega) (by omega) (by omega) (by omega)
      have hK1 := hK1 (.inr rfl) h2 nilP
      rw [act_aside, aim_P] at hK1
      simp only [unV, chV, nilP] at hK1
      simp only [unV, nilP, d1, d2, d8, d9, z1, z2, z3, z4, z5, z6, z7, z8, z9, ↓zP,zV,Nat.reduceAdd,Nat.reduceMul,Nat.reduceLT,Nat.reduceEqDiff,Nat.reduceLeDiff,Int.reduceLE,Int.reduceLT,Int.reduceBNe,Int.reduceBEq,Int.reduceNeg,Int.reduceEq,Int.reduceAdd,Int.reduceGT,Int.reduceGE,reduceCtorEq]
      exact hK1 _ cv' (fun w h1 h2 h3 => ⟨old lz (j3 _ _ (hR2 w h1 h2 h3).at_) _ _ _, o.cut_kr ((hR2 w h1 h2 h3).rd.grw j3) (kr3 d9 d1 d2 _ _ _)⟩) (fun j o h1 ho => old (List.getElem?_eq_some_iff.1 ho).1 (j3 _ _ (kk _ _ h1 ho)) _ _ _) (pth_nil _)
    · rw [hr] at h1
      subst h1
      simp only [chV] at a8 a9
      simp only [chV, a0, a1, a2, a8, a9, o1, o2, ↓zP,zV,Nat.reduceAdd,Nat.reduceMul,Nat.reduceLT,Nat.reduceEqDiff,Nat.reduceLeDiff,Int.reduceLE,Int.reduceLT,Int.reduceBNe,Int.reduceBEq,Int.reduceNeg,Int.reduceEq,Int.reduceAdd,Int.reduceGT,Int.reduceGE,reduceCtorEq]
      refine r_Hold (n := n + 2) (u := u) (pv := pv) (hp.grw (g1 _)) hph hok hne hm fun pv' s3 hp' j3 => ?_
      obtain ⟨o3, o4⟩ := hp'.2
      have d1 := j3 _ _ (a1 _)
      have d2 := j3 _ _ (a2 _)
      have d8 := j3 _ _ (a8 _)
      have d9 := j3 _ _ (a9 _)
      obtain ⟨z1, z2, z3, z4, z5, z6, z7, z8, z9⟩ := sets3 d9 d1 d2 d8 (by omega) (by omega) (by omega) (by omega) (by omega)
      have hK0 := hK0 (by decide) (by decide) pv'
      rw [act_wait] at hK0
      simp only [unV, chV] at hK0
      simp only [unV, d1, d2, d8, d9, z1, z2, z3, z4, z5, z6, z7, z8, z9, o3, o4, ↓zP,zV,Nat.reduceAdd,Nat.reduceMul,Nat.reduceLT,Nat.reduceEqDiff,Nat.reduceLeDiff,Int.reduceLE,Int.reduceLT,Int.reduceBNe,Int.reduceBEq,Int.reduceNeg,Int.reduceEq,Int.reduceAdd,Int.reduceGT,Int.reduceGE,reduceCtorEq]
      exact hK0 _ (pfin hp' d9 d1 d2 _ _ _) (fin ((g1 _).trans j3) _ _ _)
    · rw [hr] at h1
      subst h1
      simp only [chV] at a8 a9
      simp only [chV, a0, a1, a2, a8, a9, o1, o2, ↓zP,zV,Nat.reduceAdd,Nat.reduceMul,Nat.reduceLT,Nat.reduceEqDiff,Nat.reduceLeDiff,Int.reduceLE,Int.reduceLT,Int.reduceBNe,Int.reduceBEq,Int.reduceNeg,Int.reduceEq,Int.reduceAdd,Int.reduceGT,Int.reduceGE,reduceCtorEq]
      refine r_Lose (n := n + 2) (u := u) (pv := pv) (hp.grw (g1 _)) hph hok hne hm fun s3 j3 => ?_
      have d1 := j3 _ _ (a1 _)
      have d2 := j3 _ _ (a2 _)
      have d8 := j3 _ _ (a8 _)
      have d9 := j3 _ _ (a9 _)
      obtain ⟨z1, z2, z3, z4, z5, z6, z7, z8, z9⟩ := sets3 d9 d1 d2 d8 (by omega) (by omega) (by omega) (by omega) (by omega)
      have hK0 := hK0 (by decide) (by decide) nilP
      rw [act_lose, aim_P] at hK0
      simp only [unV, chV, nilP] at hK0
      simp only [unV, nilP, d1, d2, d8, d9, z1, z2, z3, z4, z5, z6, z7, z8, z9, ↓zP,zV,Nat.reduceAdd,Nat.reduceMul,Nat.reduceLT,Nat.reduceEqDiff,Nat.reduceLeDiff,Int.reduceLE,Int.reduceLT,Int.reduceBNe,Int.reduceBEq,Int.reduceNeg,Int.reduceEq,Int.reduceAdd,Int.reduceGT,Int.reduceGE,reduceCtorEq]
      exact hK0 _ (pth_nil _) (fin ((g1 _).trans j3) _ _ _)
  · rw [hr] at hst
    subst hst
    simp only [chV] at a8 a9
    have y5 : ∀ X o, ((s1 ++ Ob.cells [.sc (.int .i64 0), .sc (.int .i64 0), .sc (.int .i64 0)] :: X).set (st.length + 2) o)[s1.length]? = _ := fun X o => (List.getElem?_set_ne (by omega)).trans (a8 X)
    have y1 := fun X o => get_set (a1 X) o
    have y2 : ∀ X o, ((s1 ++ X).set (st.length + 2) o)[st.length + 3]? = _ := fun X o => (List.getElem?_set_ne (by omega)).trans (a2 X)
    have y3 := fun X o o' => get_set (y2 X o) o'
    have y4 : ∀ X o o', (((s1 ++ X).set (st.length + 2) o).set (st.length + 3) o')[st.length + 2]? = _ := fun X o o' => (List.getElem?_set_ne (by omega)).trans (y1 X o)
    have hK0 := hK0 (by decide) (by decide) pv
    rw [act_stay] at hK0
    simp only [unV, chV] at hK0
    simp only [chV, a0, a1, a2, a8, a9, y1, y2, y3, y4, y5, o1, o2, ↓zP,zV,Nat.reduceAdd,Nat.reduceMul,Nat.reduceLT,Nat.reduceEqDiff,Nat.reduceLeDiff,Int.reduceLE,Int.reduceLT,Int.reduceBNe,Int.reduceBEq,Int.reduceNeg,Int.reduceEq,Int.reduceAdd,Int.reduceGT,Int.reduceGE,reduceCtorEq]
    exact hK0 _ ((((hp.grw (g1 _)).set_ (a1 _) _)).set_ (y2 _ _) _) (((g1 _).set (by omega) _).set (by omega) _)
def nextQ (L2 Q : List o.U) (u : Un) (r : Int × Int × Int) (Qn : List o.U) : Prop := (Qn = Q ∧ r.1 ≠ 1 ∧ r.1 ≠ 3) ∨ ∃ p, p ∈ L2 ∧ p.id = u.id ∧ (r.1 = 1 ∨ r.1 = 3) ∧ Qn = o.insU (o.mvU p r.2.1 r.2.2) Q
theorem c_Act2 (hw : Wo st wd ro WW HH T L) (rel : o.Rel us os L2) (hx : o.Ix st ix a b us os) (hT : o.Tb st tb ix v c cls cc) (hC : o.Cr L2 Q gs cls cc) (huc : v ≠ c) (hp : Pth st pv u.P) (hcut : Cut Tryz.prog st 31 pv (u.P.flatMap cpV) u.P.length) (hm : 20000 < m)
    {r : Int × Int × Int} (hr : chS (standB WW HH (bs T) L u.c u.z) (o.mayC L2 Q u.id) u = r)
    (hK : ∀ pv' s Qn gs' cls' cc', nextQ L2 Q u r Qn → o.Tb s tb ix v c cls' cc' → o.Cr L2 Qn gs' cls' cc' → (∀ j o, j ≠ v → j ≠ c → st[j]? = some o → s[j]? = some o) → Pth s pv' (actU u r).P → K (.tup [.agg (unV (actU u r) pv'), .agg (chV r)]) s) :
    acallF Tryz.prog pl (n + 14) m 9 [.ref wd 0, .ref tb 0, .agg (unV u pv)] st K :=
  c_Act hw rel hx hT hC huc hp hcut hm hr (fun h1 h2 pv' s hp' g => hK pv' s Q gs cls cc (.inl ⟨rfl, h1, h2⟩) (hT.grw g) hC (fun j o _ _ h => g _ _ h) hp')
    fun h1 _ pv' s p gs' cls' cc' hp1 hp2 hT2 hC2 k hp' => hK pv' s _ gs' cls' cc' (.inr ⟨p, hp1, hp2, h1, rfl⟩) hT2 hC2 k hp'
theorem r_Act2 {Qn : List o.U} (hg : Gnd st iv WW HH S) (hy : o.Ri st iy sv L2) (rel : o.Rel us os L2) (hR : o.Rt st z iy cv (Q.map o.cOf)) (hC : o.Cr L2 Q gs cls cc) (hl2 : L2.length ≤ 256) (hlq : Q.length ≤ 256) (hp : Pth st pv u.P) (hcut : Cut Tryz.prog st 31 pv (u.P.flatMap cpV) u.P.length) (hm : 20000 < m)
    {r : Int × Int × Int} (hr : chS S (o.mayC L2 Q u.id) u = r) (hn : nextQ L2 Q u r Qn)
    (hK : ∀ pv' s cv', o.Rt s z iy cv' (Qn.map o.cOf) → (∀ j o, j ≠ z → st[j]? = some o → s[j]? = some o) → Pth s pv' (actU u r).P → K (.tup [.agg (unV (actU u r) pv'), .agg (chV r)]) s) :
    acallF Tryz.prog pl (n + 9) m 10 [.agg [.sc (.int .i64 WW), .sc (.int .i64 HH), iv], .ref z 0, .agg (unV u pv)] st K := by
  refine r_Act hg hy rel hR hC hl2 hlq hp hcut hm hr (fun h1 h2 pv' s hp' g => ?_) fun h1 _ pv' s cv' hR' k hp' => ?_
  · rcases hn with ⟨rfl, _⟩ | ⟨p, _, _, h3, _⟩
    · exact hK pv' s cv (hR.grw g) (fun j o _ h => g _ _ h) hp'
    · exact absurd h3 (by intro h; rcases h with h | h; exact h1 h; exact h2 h)
  · rcases hn with ⟨_, h2, h3⟩ | ⟨p, _, h2, _, rfl⟩
    · exact absurd h1 (by intro h; rcases h with h | h; exact h2 h; exact h3 h)
    · exact hK pv' s cv' (hR' _ h2 rfl rfl) k hp'
end
theorem cmp_shapeN (p q : Operand) (x y x' y' : Int) : pureRun Tryz.prog (do eqGuard .neq 29 p q (.agg #[.int .i64 x, .int .i64 y]) (.agg #[.int .i64 x', .int .i64 y']); binOp .neq 29 (.agg #[.int .i64 x, .int .i64 y]) (.agg #[.int .i64 x', .int .i64 y'])) = some (.bool (!(x == x' && y == y'))) := by
  refine pr_neqStruct p q (by kernel_rfl) ?_
  rw [pr_eqStruct _ _ Tryz.underlying29 (by kernel_rfl)]
  rw [pr_eqCons (d := 9998) (a := x) (b := x') (k := .i64) (by decide) Tryz.underlying3 (by rfl) (by rfl), pr_eqCons (d := 9998) (a := y) (b := y') (k := .i64) (by decide) Tryz.underlying3 (by rfl) (by rfl)]
  cases (x == x') <;> cases (y == y') <;> simp [Op.eqFields, pureRun_pure]
section
variable {n m : Nat} {st s : List Ob} {K : V → List Ob → Prop} {p1 p2 : V} {u : Un}
set_option maxHeartbeats 4000000 in
theorem r_USame (h1 : Pth st p1 u.P) (h2 : Pth st p2 u.P) (hm : u.P.length < m) (hl : u.P.length ≤ 100000000000000) (hK : ∀ s, Grw st s → K (.sc (.bool true)) s) : acallF Tryz.prog pl (n + 1) m 13 [.agg (unV u p1), .agg (unV u p2)] st K := by
  refine acallF_inF Tryz.func13 rfl rfl Tryz.ntmps13 (by simp) ?_
  obtain ⟨o1, o2⟩ := h1.2
  obtain ⟨o3, o4⟩ := h2.2
  obtain ⟨S, hS⟩ : ∃ S, S = st ++ [Ob.cells (unV u p1), .cells (unV u p2)] := ⟨_, rfl⟩
  have g0 : Grw st S := by rw [hS]; exact .push _ _
  have c0 : S[st.length]? = some (.cells (unV u p1)) := by rw [hS]; exact get_new _ _ 0
  have c1 : S[st.length + 1]? = some (.cells (unV u p2)) := by rw [hS]; exact get_new _ _ 1
  have k1 := fun s (g : Grw S s) => h1.grw (g0.trans g)
  have k2 := fun s (g : Grw S s) => h2.grw (g0.trans g)
  have l1 := (k1 _ (Grw.refl S)).len
  have l2 := (k2 _ (Grw.refl S)).len
  have nb : ∀ a : Int, (a != a) = false := fun a => by simp
  have eb : ∀ a b : Int, (!(a == a && b == b)) = false := fun a b => by simp
  simp only [unV] at hS c0 c1
  simp only [unV, o1, o2, o3, o4, ↓zP,zV,Nat.reduceAdd,Nat.reduceMul,Nat.reduceLT,Nat.reduceEqDiff,Nat.reduceLeDiff,Int.reduceLE,Int.reduceLT,Int.reduceBNe,Int.reduceBEq,Int.reduceNeg,Int.reduceEq,Int.reduceAdd,Int.reduceGT,Int.reduceGE,reduceCtorEq]
  rw [← hS]
  simp only [c0, c1, l1, l2, nb, eb, cmp_cellN, cmp_shapeN, ↓zP,zV,Nat.reduceAdd,Nat.reduceMul,Nat.reduceLT,Nat.reduceEqDiff,Nat.reduceLeDiff,Int.reduceLE,Int.reduceLT,Int.reduceBNe,Int.reduceBEq,Int.reduceNeg,Int.reduceEq,Int.reduceAdd,Int.reduceGT,Int.reduceGE,reduceCtorEq]
  refine aloop_forF (fun k f s => ∃ j : Nat, s = S ∧ k + j = m ∧ j ≤ u.P.length ∧ f 2 = .ref st.length 0 ∧ f 3 = .ref (st.length + 1) 0 ∧ f 5 = .sc (.int .i64 j)) ⟨0, rfl, by omega, by omega, by simp only [zF,Nat.reduceEqDiff,Nat.reduceLT], by simp only [zF,Nat.reduceEqDiff,Nat.reduceLT], by simp only [zF,Nat.reduceEqDiff,Nat.reduceLT]; rfl⟩ ?_
  rintro I' hI' k f s ⟨j, rfl, hk, hj, f2, f3, f5⟩
  refine ⟨k - 1, by omega, ?_⟩
  by_cases hjl : j < u.P.length
  · have dj : decide ((j : Int) < u.P.length) = true := decide_eq_true (by omega)
    have e3 : IntKind.i64.wrap ((j : Int) + 1) = ((j + 1 : Nat) : Int) := by rw [wi64 (by omega) (by omega)]; rfl
    have a1 := ((k1 _ (Grw.refl _)).ix hjl).1
    have a2 := ((k1 _ (Grw.refl _)).ix hjl).2
    have a3 := ((k2 _ (Grw.refl _)).ix hjl).1
    have a4 := ((k2 _ (Grw.refl _)).ix hjl).2
    simp only [f2, f3, f5, c0, c1, l1, l2, dj, e3, a1, a2, a3, a4, eb, cmp_cellN, ↓zP,zV,Nat.reduceAdd,Nat.reduceMul,Nat.reduceLT,Nat.reduceEqDiff,Nat.reduceLeDiff,Int.reduceLE,Int.reduceLT,Int.reduceBNe,Int.reduceBEq,Int.reduceNeg,Int.reduceEq,Int.reduceAdd,Int.reduceGT,Int.reduceGE,reduceCtorEq]
    exact hI' _ _ _ ⟨j + 1, rfl, by omega, hjl, by simp only [f2, zF,Nat.reduceEqDiff,Nat.reduceLT], by simp only [f3, zF,Nat.reduceEqDiff,Nat.reduceLT], by simp only [zF,Nat.reduceEqDiff,Nat.reduceLT]⟩
  · have dj : decide ((j : Int) < u.P.length) = false := decide_eq_false (by omega)
    simp only [f2, f3, f5, c0, c1, l1, l2, dj, ↓zP,zV,Nat.reduceAdd,Nat.reduceMul,Nat.reduceLT,Nat.reduceEqDiff,Nat.reduceLeDiff,Int.reduceLE,Int.reduceLT,Int.reduceBNe,Int.reduceBEq,Int.reduceNeg,Int.reduceEq,Int.reduceAdd,Int.reduceGT,Int.reduceGE,reduceCtorEq]
    exact hK _ g0
end
section
variable {n m : Nat} {st s : List Ob} {K : V → List Ob → Prop} {iy z : Nat} {Q : List o.U} {cv : V}
set_option maxHeartbeats 4000000 in
theorem da_yl {ps : Array Tmp} {asg body : Code} (hc : frf (Tryz.f3.body.getD .skip) = some (ps, asg, body)) {F : Nat → V} {t10 t16 lid i : Nat} {p : Option Code} (q10 : F 10 = .ref t10 0) (q16 : F 16 = .ref t16 0)
    (h10 : s[t10]? = some (.cells [.ref z 0])) (h16 : s[t16]? = some (.cells [.sc (.int .i64 i)])) (hT : o.Rt s z iy cv (Q.map o.cOf)) (hi : i < Q.length) (hl : Q.length ≤ 256)
    (hlp : s[lid]? = some (.loop .ready p (pl 3) (ofF 138 F) ps.toList asg body))
    (hK : ∀ s', s'[t16]? = some (.cells [.sc (.int .i64 (i + 1 : Nat))]) → s'[lid]? = some (.loop .ready none (pl 3) (ofF 138 F) ps.toList asg body) → (∀ j o, j ≠ t16 → j ≠ lid → s[j]? = some o → s'[j]? = some o) → s.length ≤ s'.length → K (.sc (.bool true)) s') :
    acallF Tryz.prog pl (n + 1) m Tryz.prog.funcs.size [.yl lid, .sc (.int .i64 Q[i].id), .agg (cl Q[i].x Q[i].y)] s K := by
  simp only [Tryz.f3, Option.getD_some, frf, Option.some.injEq, Prod.mk.injEq] at hc
  obtain ⟨rfl, rfl, rfl⟩ := hc
  refine acallF_yl hlp rfl ?_
  rw [show (#[94, 95] : Array Tmp).toList = [94, 95] from rfl, aputs_two (by decide) (by decide)]
  simp only [cl, ↓zP,zV,Nat.reduceAdd,Nat.reduceMul,Nat.reduceLT,Nat.reduceEqDiff,Nat.reduceLeDiff,Int.reduceLE,Int.reduceLT,Int.reduceBNe,Int.reduceBEq,Int.reduceNeg,Int.reduceEq,Int.reduceAdd,Int.reduceGT,Int.reduceGE,reduceCtorEq]
  have g0 := Grw.push s [.cells (cl Q[i].x Q[i].y)]
  have c6 : (s ++ [Ob.cells (cl Q[i].x Q[i].y)])[s.length]? = some (.cells (cl Q[i].x Q[i].y)) := get_new0 _ _
  simp only [cl] at g0 c6
  refine rdMid_ok (g0 _ _ hlp) ?_
  generalize hs1 : (s ++ [Ob.cells _]) = s1 at g0 c6
  have l1 : s1.length = s.length + 1 := by rw [← hs1]; simp
  have nl : s.length ≠ lid := fun he => by subst he; rw [List.getElem?_eq_none (Nat.le_refl _)] at hlp; cases hlp
  have lt : lid < s1.length := (List.getElem?_eq_some_iff.1 (g0 _ _ hlp)).1
  have nc : ∀ (j : Nat) (c : List V), s[j]? = some (.cells c) → j ≠ lid := fun j c hj he => by subst he; rw [hlp] at hj; cases hj
  generalize hs2 : s1.set lid _ = s2
  have k : ∀ j o, j ≠ lid → s1[j]? = some o → s2[j]? = some o := fun j o hj ho => by rw [← hs2, List.getElem?_set_ne (Ne.symm hj)]; exact ho
  have kr : o.Kr s s2 := fun j e xs n lo fz hj => k _ _ (fun he => by rw [he, hlp] at hj; cases hj) (g0 _ _ hj)
  have d10 := k _ _ (nc _ _ h10) (g0 _ _ h10)
  have d16 := k _ _ (nc _ _ h16) (g0 _ _ h16)
  have d6 := k _ _ nl c6
  have dr := k _ _ (nc _ _ hT.at_) (g0 _ _ hT.at_)
  have dl : ∀ o, s1.set lid o = s2 → s2[lid]? = some o := fun o ho => by rw [← ho]; exact List.getElem?_set_self lt
  have dl := dl _ hs2
  have rb2 := o.rd_kr hT.rd.1 kr
  have l2 : s2.length = s1.length := by rw [← hs2, List.length_set]
  have eM : (Q.map o.cOf).length = Q.length := List.length_map _
  have al := alen_rd rb2 Tryz.underlying65
  rw [eM] at al
  have d : decide ((i : Int) ≥ Q.length) = false := decide_eq_false (by omega)
  have e3 : IntKind.i64.wrap ((i : Int) + 1) = ((i + 1 : Nat) : Int) := by rw [IntWalk.i64_in _ (by omega)]; rfl
  have hi' : i < (Q.map o.cOf).length := by rw [eM]; exact hi
  obtain ⟨p1, p2⟩ := ix_flat (f := o.C3.v) (fun a => rfl) rb2 Tryz.underlying65 sz69 ag69 (by omega) hi'
  have ec : (Q.map o.cOf)[i] = o.cOf Q[i] := by rw [List.getElem_map]
  rw [ec] at p2
  simp only [o.cOf, o.C3.v, cl] at p2
  have cm := fun p q => o.cmp_claimN p q Q[i].id Q[i].x Q[i].y Q[i].id Q[i].x Q[i].y
  have eq1 : (Q[i].id == Q[i].id && (Q[i].x == Q[i].x && Q[i].y == Q[i].y)) = true := by simp
  have b16 : ∀ o, (s2.set t16 o)[t16]? = some o := fun o => get_set d16 o
  simp only [q10, q16, d10, d16, d6, dr, al, d, p1, p2, cm, eq1, Bool.not_true, e3, b16, ↓zP,zV,Nat.reduceAdd,Nat.reduceMul,Nat.reduceLT,Nat.reduceEqDiff,Nat.reduceLeDiff,Int.reduceLE,Int.reduceLT,Int.reduceBNe,Int.reduceBEq,Int.reduceNeg,Int.reduceEq,Int.reduceAdd,Int.reduceGT,Int.reduceGE,reduceCtorEq]
  have nt := nc _ _ h16
  have lt5 : t16 < s2.length := (List.getElem?_eq_some_iff.1 d16).1
  have ll2 : lid < s2.length := (List.getElem?_eq_some_iff.1 dl).1
  refine rdEnd_normal (by rw [List.getElem?_set_ne nt]; exact dl) ?_
  refine hK _ ?_ ?_ ?_ ?_
  · rw [List.getElem?_set_ne (Ne.symm nt), List.getElem?_set_self lt5]
  · rw [List.getElem?_set_self (by rw [List.length_set]; exact ll2)]
  · intro j o j1 j2 ho
    rw [List.getElem?_set_ne (Ne.symm j2), List.getElem?_set_ne (Ne.symm j1)]
    exact k _ _ j2 (g0 _ _ ho)
  · rw [List.length_set, List.length_set]
    omega
end
theorem act_len (u : Un) (r : Int × Int × Int) : (actU u r).P.length ≤ u.P.length := by
  obtain ⟨k, x, y⟩ := r
  simp only [actU]
  split
  · cases hP : u.P with
    | nil => simp [hP]
    | cons c Q =>
      simp only [stepU]
      split
      · simp [stopU]
      · simp
  · split
    · rw [aim_P]; simp
    · split
      · exact Nat.le_refl _
      · split
        · rw [aim_P]; simp
        · exact Nat.le_refl _
section
variable {n m : Nat} {st s : List Ob} {K : V → List Ob → Prop} {WW HH : Int} {T : List Int} {L : List B4} {tv bv lv cv pv : V} {E : List o.U} {C : List o.K4} {u : Un}
set_option maxHeartbeats 16000000 in
theorem l23_Acts (ht : ∀ s, Rd Tryz.prog s 5 tv (bs T) T.length) (hb : ∀ s, Rd Tryz.prog s 115 bv (L.flatMap B4.v) L.length) (ot : one tv = true ∧ cellsV tv = [tv]) (ob : one bv = true ∧ cellsV bv = [bv])
    (hm : 20000 < m) (hTm : T.length < m) (hTb : ∀ t ∈ T, 0 ≤ t ∧ t < 256) (hT : T.length ≤ 140737488355328) (hL : L.length ≤ 3518437208883)
    (he : ∀ s, Rd Tryz.prog s 77 lv (E.flatMap o.U.v) E.length) (hid : ∀ e ∈ E, o.inR e.id) (hEm : E.length < m) (hEl : E.length ≤ 3518437208883) (ol : M.one lv = true ∧ cellsV lv = [lv]) (hc : ∀ s, Rd Tryz.prog s 50 cv (C.flatMap o.K4.v) C.length) (hCm : C.length < m) (hCl : C.length ≤ 4398046511104) (oc : M.one cv = true ∧ cellsV cv = [cv]) (hp : ∀ s, Pth s pv u.P)
    (hPm : u.P.length < m) (hPl : u.P.length ≤ 8796093022208) (hcut : ∀ s, Cut Tryz.prog s 31 pv (u.P.flatMap cpV) u.P.length)
    (hK : ∀ s, K (.sc (.bool true)) s) : acallF Tryz.prog pl (n + 15) m 3 [.agg (mp WW HH tv bv), .agg (scV lv cv pv u)] st K := by
  refine acallF_inF Tryz.func3 rfl rfl Tryz.ntmps3 (by simp) ?_
  obtain ⟨op1, op2⟩ := (hp []).2
  have hm3 : 300 < m := by omega
  obtain ⟨S, hS⟩ : ∃ S, S = st ++ [Ob.cells (mp WW HH tv bv), Ob.cells (scV lv cv pv u), Ob.cells [.sc (.bool false)]] := ⟨_, rfl⟩
  have c0 : S[st.length]? = some (.cells (mp WW HH tv bv)) := by rw [hS]; exact get_new _ _ 0
  have c1 : S[st.length + 1]? = some (.cells (scV lv cv pv u)) := by rw [hS]; exact get_new _ _ 1
  have c4 : S[st.length + 2]? = some (.cells [.sc (.bool false)]) := by rw [hS]; exact get_new _ _ 2
  simp only [mp, scV, unV] at hS c0 c1
  simp only [mp, scV, unV, ot.1, ot.2, ob.1, ob.2, ol.1, ol.2, oc.1, oc.2, op1, op2, ↓zP,zV,Nat.reduceAdd,Nat.reduceMul,Nat.reduceLT,Nat.reduceEqDiff,Nat.reduceLeDiff,Int.reduceLE,Int.reduceLT,Int.reduceBNe,Int.reduceBEq,Int.reduceNeg,Int.reduceEq,Int.reduceAdd,Int.reduceGT,Int.reduceGE,reduceCtorEq]
  rw [← hS]
  refine awake23 (n := n) hm fun s0 j0 => ?_
  have b0 := j0 _ _ c0
  have b1 := j0 _ _ c1
  have b4 := j0 _ _ c4
  simp only [b0, ot.1, ot.2, ob.1, ob.2, ↓zP,zV,Nat.reduceAdd,Nat.reduceMul,Nat.reduceLT,Nat.reduceEqDiff,Nat.reduceLeDiff,Int.reduceLE,Int.reduceLT,Int.reduceBNe,Int.reduceBEq,Int.reduceNeg,Int.reduceEq,Int.reduceAdd,Int.reduceGT,Int.reduceGE,reduceCtorEq]
  refine l6_Both (n := n + 4) ht hb ot ob (by omega) hTm hTb hT hL (fun s1 j1 => ?_) (fun wd rd s1 hw j1 => ?_)
  · simp only [↓zP,zV,Nat.reduceAdd,Nat.reduceMul,Nat.reduceLT,Nat.reduceEqDiff,Nat.reduceLeDiff,Int.reduceLE,Int.reduceLT,Int.reduceBNe,Int.reduceBEq,Int.reduceNeg,Int.reduceEq,Int.reduceAdd,Int.reduceGT,Int.reduceGE,reduceCtorEq]
    refine awake23 (n := n) hm fun s2 j2 => ?_
    have d4 := j2 _ _ (j1 _ _ b4)
    have q4 := fun o => get_set d4 o
    simp only [d4, q4, ↓zP,zV,Nat.reduceAdd,Nat.reduceMul,Nat.reduceLT,Nat.reduceEqDiff,Nat.reduceLeDiff,Int.reduceLE,Int.reduceLT,Int.reduceBNe,Int.reduceBEq,Int.reduceNeg,Int.reduceEq,Int.reduceAdd,Int.reduceGT,Int.reduceGE,reduceCtorEq]
    exact hK _
  have a1 := j1 _ _ b1
  have a4 := j1 _ _ b4
  have la1 := (List.getElem?_eq_some_iff.1 a1).1
  have la4 := (List.getElem?_eq_some_iff.1 a4).1
  simp only [a1, ol.1, ol.2, ↓zP,zV,Nat.reduceAdd,Nat.reduceMul,Nat.reduceLT,Nat.reduceEqDiff,Nat.reduceLeDiff,Int.reduceLE,Int.reduceLT,Int.reduceBNe,Int.reduceBEq,Int.reduceNeg,Int.reduceEq,Int.reduceAdd,Int.reduceGT,Int.reduceGE,reduceCtorEq]
  refine o.l22_MadeG (n := n + 6) (E := E) (fun s _ => he s) hid hEm hEl (by omega) fun s2 ix a b tb v c z iy us os L2 sv hL2 hab huc hd hx rel gd hT2 hz hy g2 hle hzy => ?_
  have ntm : ∀ (j : Nat) (cs : List V), s2[j]? = some (.cells cs) → j ≠ a ∧ j ≠ b ∧ j ≠ v ∧ j ≠ c := fun j cs hj =>
    ⟨(fun h => by have := hx.us; rw [← h, hj] at this; cases this), (fun h => by have := hx.os; rw [← h, hj] at this; cases this), (fun h => by have := hT2.cl; rw [← h, hj] at this; cases this), (fun h => by have := hT2.cc; rw [← h, hj] at this; cases this)⟩
  have nix := ntm _ _ hx.ix
  have nz := ntm _ _ hz
  have ntb := ntm _ _ hT2.at_
  have nzx : z ≠ ix := fun h => by have := hx.ix; rw [← h, hz] at this; cases this
  have nzt : z ≠ tb := fun h => by have := hT2.at_; rw [← h, hz] at this; cases this
  have lv2 : v < s2.length := (List.getElem?_eq_some_iff.1 hT2.cl).1
  have lc2 : c < s2.length := (List.getElem?_eq_some_iff.1 hT2.cc).1
  have lz2 : z < s2.length := (List.getElem?_eq_some_iff.1 hz).1
  simp only [↓zP,zV,Nat.reduceAdd,Nat.reduceMul,Nat.reduceLT,Nat.reduceEqDiff,Nat.reduceLeDiff,Int.reduceLE,Int.reduceLT,Int.reduceBNe,Int.reduceBEq,Int.reduceNeg,Int.reduceEq,Int.reduceAdd,Int.reduceGT,Int.reduceGE,reduceCtorEq]
  generalize hs3 : s2 ++ [Ob.cells [.ref z 0]] = s3
  have g3 : Grw s2 s3 := by rw [← hs3]; exact .push _ _
  have c10 : s3[s2.length]? = some (.cells [.ref z 0]) := by rw [← hs3]; exact get_new0 _ _
  obtain ⟨t10, ht10⟩ : ∃ t10, t10 = s2.length := ⟨_, rfl⟩
  rw [← ht10] at c10 lv2 lc2 lz2
  refine aloop_forF (fun k f s => ∃ (i : Nat) (Q : List o.U) (gs cls : List (Int × V)) (cc : List ((Int × Int) × V)) (cv' : V), k + i = m ∧ i ≤ C.length ∧ o.Ix s ix a b us os ∧ o.Tb s tb ix v c cls cc ∧ o.Cr L2 Q gs cls cc ∧ o.Rt s z iy cv' (Q.map o.cOf) ∧ o.Ri s iy sv L2 ∧ Grw s1 s ∧ s[t10]? = some (.cells [.ref z 0]) ∧ f 3 = .ref (st.length + 1) 0 ∧ f 4 = .ref (st.length + 2) 0 ∧ f 5 = .ref wd 0 ∧ f 6 = .ref rd 0 ∧ f 9 = .ref tb 0 ∧ f 10 = .ref t10 0 ∧ f 11 = .sc (.int .i64 i))
    ⟨0, [], [], [], [], _, by omega, by omega, hx.grw g3, hT2.grw g3, o.Cr.nil L2, ⟨g3 _ _ hz, o.cut_nil _ _⟩, hy.grw g3, g2.trans g3, c10, by simp only [zF,Nat.reduceEqDiff,Nat.reduceLT], by simp only [zF,Nat.reduceEqDiff,Nat.reduceLT], by simp only [zF,Nat.reduceEqDiff,Nat.reduceLT], by simp only [zF,Nat.reduceEqDiff,Nat.reduceLT], by simp only [zF,Nat.reduceEqDiff,Nat.reduceLT], by simp only [ht10, zF,Nat.reduceEqDiff,Nat.reduceLT], by simp only [zF,Nat.reduceEqDiff,Nat.reduceLT]; rfl⟩ ?_
  clear hx hT2 hy hz g2 g3 c10 hs3
  rintro I' hI' k f s ⟨i, Q, gs, cls, cc, cv', hk, hil0, hx, hT2, hC, hR, hy, hg, c10, f3, f4, f5, f6, f9, f10, f11⟩
  refine ⟨k - 1, by omega, ?_⟩
  have al := fun s => alen_rd (hc s) Tryz.underlying27
  have e3 : IntKind.i64.wrap ((i : Int) + 1) = ((i + 1 : Nat) : Int) := by rw [IntWalk.i64_in _ (by omega)]; rfl
  have gdQ := hC.gd gd
  have b1 := hg _ _ a1
  by_cases hil : i < C.length
  · have d : decide ((i : Int) < C.length) = true := decide_eq_true (by omega)
    have p1 := fun s => (ix_flat (f := o.K4.v) (fun a => rfl) (hc s) Tryz.underlying27 sz50 ag50 (by omega) hil).1
    have p3 := fun s => (o.k_id (hc s) hil).1
    have p4 := fun s => (o.k_id (hc s) hil).2
    have p5 := fun s => (o.k_to (hc s) hil).1
    have p6 := fun s => (o.k_to (hc s) hil).2
    simp only [f3, f5, f6, f9, f10, f11, b1, al, d, p1, p3, p4, p5, p6, ↓zP,zV,Nat.reduceAdd,Nat.reduceMul,Nat.reduceLT,Nat.reduceEqDiff,Nat.reduceLeDiff,Int.reduceLE,Int.reduceLT,Int.reduceBNe,Int.reduceBEq,Int.reduceNeg,Int.reduceEq,Int.reduceAdd,Int.reduceGT,Int.reduceGE,reduceCtorEq]
    refine o.do_Claim (n := n + 6) rel hx hT2 hC huc hm3 (fun hne s5 g5 => ?_) fun he0 p gs' cls' cc' s5 hpp hpe hT5 hC5 k5 => ?_
    · have b5 := g5 _ _ b1
      have c5 := g5 _ _ c10
      simp only [f3, f5, f6, f9, f10, f11, b1, b5, c5, al, p1, p3, p4, p5, p6, ↓zP,zV,Nat.reduceAdd,Nat.reduceMul,Nat.reduceLT,Nat.reduceEqDiff,Nat.reduceLeDiff,Int.reduceLE,Int.reduceLT,Int.reduceBNe,Int.reduceBEq,Int.reduceNeg,Int.reduceEq,Int.reduceAdd,Int.reduceGT,Int.reduceGE,reduceCtorEq]
      refine o.r_DoClaim (n := n + 6) (hy.grw g5) rel (hR.grw g5) hC hm3 gd.len gdQ.len (fun _ s6 g6 => ?_) fun he0 => absurd he0 hne
      have g56 := g5.trans g6
      simp only [f3, f5, f6, f9, f10, f11, e3, ↓zP,zV,Nat.reduceAdd,Nat.reduceMul,Nat.reduceLT,Nat.reduceEqDiff,Nat.reduceLeDiff,Int.reduceLE,Int.reduceLT,Int.reduceBNe,Int.reduceBEq,Int.reduceNeg,Int.reduceEq,Int.reduceAdd,Int.reduceGT,Int.reduceGE,reduceCtorEq]
      exact hI' _ _ _ ⟨i + 1, Q, gs, cls, cc, cv', by omega, hil, hx.grw g56, hT2.grw g56, hC, hR.grw g56, hy.grw g56, hg.trans g56, g56 _ _ c10, by simp only [f3, zF,Nat.reduceEqDiff,Nat.reduceLT], by simp only [f4, zF,Nat.reduceEqDiff,Nat.reduceLT], by simp only [f5, zF,Nat.reduceEqDiff,Nat.reduceLT], by simp only [f6, zF,Nat.reduceEqDiff,Nat.reduceLT], by simp only [f9, zF,Nat.reduceEqDiff,Nat.reduceLT], by simp only [f10, zF,Nat.reduceEqDiff,Nat.reduceLT], by simp only [zF,Nat.reduceEqDiff,Nat.reduceLT]⟩
    · have km5 := o.kp_km k5 hT2.cl hT2.cc
      have b5 := km5 _ _ (fun es he => by cases he) b1
      have c5 := km5 _ _ (fun es he => by cases he) c10
      have hi5 : o.Ix s5 ix a b us os := ⟨k5 _ _ nix.2.2.1 nix.2.2.2 hx.ix, k5 _ _ hd.1 hd.2.1 hx.us, k5 _ _ hd.2.2.1 hd.2.2.2 hx.os⟩
      have hy5 := hy.km km5
      have hR5 : o.Rt s5 z iy cv' (Q.map o.cOf) := ⟨km5 _ _ (fun es he => by cases he) hR.at_, o.cut_km hR.rd km5⟩
      have hg5 : Grw s1 s5 := fun j o hj => by
        have lj := (List.getElem?_eq_some_iff.1 hj).1
        exact k5 _ _ (by omega) (by omega) (hg _ _ hj)
      simp only [f3, f5, f6, f9, f10, f11, b1, b5, c5, al, p1, p3, p4, p5, p6, ↓zP,zV,Nat.reduceAdd,Nat.reduceMul,Nat.reduceLT,Nat.reduceEqDiff,Nat.reduceLeDiff,Int.reduceLE,Int.reduceLT,Int.reduceBNe,Int.reduceBEq,Int.reduceNeg,Int.reduceEq,Int.reduceAdd,Int.reduceGT,Int.reduceGE,reduceCtorEq]
      refine o.r_DoClaim (n := n + 6) hy5 rel hR5 hC hm3 gd.len gdQ.len (fun hne => absurd he0 hne) fun _ cv2 s6 hR6 k6 => ?_
      have hR6 := hR6 (o.mvU p C[i].x C[i].y) hpe rfl rfl
      have hi6 : o.Ix s6 ix a b us os := ⟨k6 _ _ (Ne.symm nzx) hi5.ix, k6 _ _ (Ne.symm nz.1) hi5.us, k6 _ _ (Ne.symm nz.2.1) hi5.os⟩
      have hT6 : o.Tb s6 tb ix v c cls' cc' := ⟨k6 _ _ (Ne.symm nzt) hT5.at_, k6 _ _ (Ne.symm nz.2.2.1) hT5.cl, k6 _ _ (Ne.symm nz.2.2.2) hT5.cc⟩
      have hy6 : o.Ri s6 iy sv L2 := ⟨k6 _ _ (Ne.symm hzy) hy5.at_, o.cut_kr hy5.rd fun j e xs n lo fz hj => k6 _ _ (fun he => by rw [he, hR5.at_] at hj; cases hj) hj⟩
      have hg6 : Grw s1 s6 := fun j o hj => by
        have lj := (List.getElem?_eq_some_iff.1 hj).1
        exact k6 _ _ (by omega) (hg5 _ _ hj)
      simp only [f3, f5, f6, f9, f10, f11, e3, ↓zP,zV,Nat.reduceAdd,Nat.reduceMul,Nat.reduceLT,Nat.reduceEqDiff,Nat.reduceLeDiff,Int.reduceLE,Int.reduceLT,Int.reduceBNe,Int.reduceBEq,Int.reduceNeg,Int.reduceEq,Int.reduceAdd,Int.reduceGT,Int.reduceGE,reduceCtorEq]
      exact hI' _ _ _ ⟨i + 1, _, gs', cls', cc', cv2, by omega, hil, hi6, hT6, hC5, hR6, hy6, hg6, k6 _ _ (by omega) c5, by simp only [f3, zF,Nat.reduceEqDiff,Nat.reduceLT], by simp only [f4, zF,Nat.reduceEqDiff,Nat.reduceLT], by simp only [f5, zF,Nat.reduceEqDiff,Nat.reduceLT], by simp only [f6, zF,Nat.reduceEqDiff,Nat.reduceLT], by simp only [f9, zF,Nat.reduceEqDiff,Nat.reduceLT], by simp only [f10, zF,Nat.reduceEqDiff,Nat.reduceLT], by simp only [zF,Nat.reduceEqDiff,Nat.reduceLT]⟩
  · have d : decide ((i : Int) < C.length) = false := decide_eq_false (by omega)
    simp only [f3, f4, f5, f6, f9, f10, f11, b1, al, d, op1, op2, ↓zP,zV,Nat.reduceAdd,Nat.reduceMul,Nat.reduceLT,Nat.reduceEqDiff,Nat.reduceLeDiff,Int.reduceLE,Int.reduceLT,Int.reduceBNe,Int.reduceBEq,Int.reduceNeg,Int.reduceEq,Int.reduceAdd,Int.reduceGT,Int.reduceGE,reduceCtorEq]
    refine c_Act2 (n := n) (u := u) (pv := pv) (L2 := L2) (Q := Q) (hw.grw hg) rel hx hT2 hC huc (hp _) (hcut _) hm rfl fun pv1 s3 Qn gs' cls' cc' hn hT3 hC3 k3 hp1 => ?_
    generalize hr : chS (standB WW HH (bs T) L u.c u.z) (o.mayC L2 Q u.id) u = r at hn hp1
    have km3 := o.kp_km k3 hT2.cl hT2.cc
    have hR3 : o.Rt s3 z iy cv' (Q.map o.cOf) := ⟨km3 _ _ (fun es he => by cases he) hR.at_, o.cut_km hR.rd km3⟩
    have hy3 := hy.km km3
    have hg3 : Grw s1 s3 := fun j o hj => by
      have lj := (List.getElem?_eq_some_iff.1 hj).1
      exact k3 _ _ (by omega) (by omega) (hg _ _ hj)
    have b3 := km3 _ _ (fun es he => by cases he) b1
    have c3 := km3 _ _ (fun es he => by cases he) c10
    have l3 : t10 < s3.length := (List.getElem?_eq_some_iff.1 c3).1
    obtain ⟨o3, o4⟩ := hp1.2
    have x1 := fun X => Grw.push s3 X _ _ b3
    have x10 := fun X => Grw.push s3 X _ _ c3
    have xu := fun X => get_new0 s3 (Ob.cells (unV (actU u r) pv1) :: X)
    have xc := fun X => get_new s3 (Ob.cells (unV (actU u r) pv1) :: Ob.cells (chV r) :: X) 1
    simp only [unV, chV, List.getElem?_cons_zero, List.getElem?_cons_succ] at xu xc
    simp only [f3, f4, f5, f6, f9, f10, f11, unV, chV, b1, b3, x1, x10, xu, xc, o3, o4, op1, op2, ↓zP,zV,Nat.reduceAdd,Nat.reduceMul,Nat.reduceLT,Nat.reduceEqDiff,Nat.reduceLeDiff,Int.reduceLE,Int.reduceLT,Int.reduceBNe,Int.reduceBEq,Int.reduceNeg,Int.reduceEq,Int.reduceAdd,Int.reduceGT,Int.reduceGE,reduceCtorEq]
    refine g_Of (n := n + 7) (c := u.c) (z := u.z) (hw.grw (hg3.trans (Grw.push s3 _))) hm3 fun s5 iv g5 gnd => ?_
    obtain ⟨o5, o6⟩ := gnd.one
    have gS5 : Grw s3 s5 := (Grw.push s3 _).trans g5
    have y1 := g5 _ _ (x1 _)
    have y10 := g5 _ _ (x10 _)
    have yu := g5 _ _ (xu _)
    have yc := g5 _ _ (xc _)
    have n1 : s5[s3.length + 2]? = some .gone := g5 _ _ (get_new s3 _ 2)
    have n2 : s5[s3.length + 3]? = some .gone := g5 _ _ (get_new s3 _ 3)
    simp only [f3, f4, f5, f6, f9, f10, f11, x1, x10, xu, xc, y1, y10, yu, yc, n1, n2, o3, o4, o5, o6, op1, op2, ↓zP,zV,Nat.reduceAdd,Nat.reduceMul,Nat.reduceLT,Nat.reduceEqDiff,Nat.reduceLeDiff,Int.reduceLE,Int.reduceLT,Int.reduceBNe,Int.reduceBEq,Int.reduceNeg,Int.reduceEq,Int.reduceAdd,Int.reduceGT,Int.reduceGE,reduceCtorEq]
    refine r_Act2 (n := n + 5) (u := u) (pv := pv) gnd (hy3.grw gS5) rel (hR3.grw gS5) hC gd.len gdQ.len (hp _) (hcut _) hm hr hn fun pv2 s6 cv2 hR6 k6 hp2 => ?_
    obtain ⟨o7, o8⟩ := hp2.2
    have w1 := k6 _ _ (by omega) y1
    have w10 := k6 _ _ (by omega) y10
    have wu := k6 _ _ (by omega) yu
    have wc := k6 _ _ (by omega) yc
    have m1 := k6 _ _ (by omega) n1
    have m2 := k6 _ _ (by omega) n2
    have q1 := fun o => get_set m1 o
    have q2 : ∀ o, (s6.set (s3.length + 2) o)[s3.length + 3]? = _ := fun o => (List.getElem?_set_ne (by omega)).trans m2
    have q4 := fun o o' => get_set (q2 o) o'
    have q3 : ∀ o o', ((s6.set (s3.length + 2) o).set (s3.length + 3) o')[s3.length + 2]? = _ := fun o o' => (List.getElem?_set_ne (by omega)).trans (q1 o)
    have q4' : ∀ o o', ((s6.set (s3.length + 2) o).set (s3.length + 3) o')[s3.length + 2 + 1]? = some o' := q4
    have q5 := fun o o' o2 => get_set (q3 o o') o2
    have q6 : ∀ o o' o2, (((s6.set (s3.length + 2) o).set (s3.length + 3) o').set (s3.length + 2) o2)[s3.length + 2 + 1]? = some o' := fun o o' o2 => (List.getElem?_set_ne (by omega)).trans (q4 o o')
    have q7 := fun o o' o2 o3 => get_set (q6 o o' o2) o3
    have q8 : ∀ o o' o2 o3, ((((s6.set (s3.length + 2) o).set (s3.length + 3) o').set (s3.length + 2) o2).set (s3.length + 2 + 1) o3)[s3.length + 2]? = some o2 := fun o o' o2 o3 => (List.getElem?_set_ne (by omega)).trans (q5 o o' o2)
    have q9 : ∀ o o' o2 o3, ((((s6.set (s3.length + 2) o).set (s3.length + 3) o').set (s3.length + 2) o2).set (s3.length + 2 + 1) o3)[s3.length + 3]? = some o3 := q7
    simp only [f3, f4, f5, f6, f9, f10, f11, unV, chV, x1, x10, xu, xc, y1, y10, yu, yc, n1, n2, w1, w10, wu, wc, m1, m2, q1, q2, q3, q4, q4', q5, q6, q7, q8, q9, o3, o4, o5, o6, o7, o8, op1, op2, List.set_set, ↓zP,zV,Nat.reduceAdd,Nat.reduceMul,Nat.reduceLT,Nat.reduceEqDiff,Nat.reduceLeDiff,Int.reduceLE,Int.reduceLT,Int.reduceBNe,Int.reduceBEq,Int.reduceNeg,Int.reduceEq,Int.reduceAdd,Int.reduceGT,Int.reduceGE,reduceCtorEq]
    generalize hs7 : (((s6.set (s3.length + 2) _).set (s3.length + 3) _).set (s3.length + 2) _).set (s3.length + 2 + 1) _ = s7
    have keep7 : ∀ j o, j ≠ s3.length + 2 → j ≠ s3.length + 3 → s6[j]? = some o → s7[j]? = some o := fun j o h1 h2 ho => by rw [← hs7, List.getElem?_set_ne (by omega), List.getElem?_set_ne (by omega), List.getElem?_set_ne (by omega), List.getElem?_set_ne (by omega)]; exact ho
    have v14 : s7[s3.length + 2]? = some (.cells (unV (actU u r) pv2)) := by rw [← hs7]; exact q8 _ _ _ _
    have v15 : s7[s3.length + 3]? = some (.cells (chV r)) := by rw [← hs7]; exact q9 _ _ _ _
    have lg := hg.le
    have Fr : ∀ j o, j < s3.length → j ≠ z → s3[j]? = some o → s7[j]? = some o := fun j o h1 h2 ho => keep7 _ _ (by omega) (by omega) (k6 _ _ h2 (gS5 _ _ ho))
    have hT7 : o.Tb s7 tb ix v c cls' cc' := ⟨Fr _ _ (List.getElem?_eq_some_iff.1 hT3.at_).1 (Ne.symm nzt) hT3.at_, Fr _ _ (by omega) (Ne.symm nz.2.2.1) hT3.cl, Fr _ _ (by omega) (Ne.symm nz.2.2.2) hT3.cc⟩
    have kr67 : o.Kr s6 s7 := fun j e xs n lo fz hj => keep7 _ _ (fun he => by rw [he, m1] at hj; cases hj) (fun he => by rw [he, m2] at hj; cases hj) hj
    have kr37 : o.Kr s3 s7 := fun j e xs n lo fz hj => Fr _ _ (List.getElem?_eq_some_iff.1 hj).1 (fun he => by rw [he, hR3.at_] at hj; cases hj) hj
    have hR7 : o.Rt s7 z iy cv2 (Qn.map o.cOf) := ⟨keep7 _ _ (by omega) (by omega) hR6.at_, o.cut_kr hR6.rd kr67⟩
    have hp17 : Pth s7 pv1 (actU u r).P := ⟨o.rd_kr hp1.1 kr37, hp1.2⟩
    have hp27 : Pth s7 pv2 (actU u r).P := ⟨o.rd_kr hp2.1 kr67, hp2.2⟩
    have v10 := keep7 _ _ (by omega) (by omega) w10
    have vu := keep7 _ _ (by omega) (by omega) wu
    have vc := keep7 _ _ (by omega) (by omega) wc
    have v4 : s7[st.length + 2]? = some (.cells [.sc (.bool false)]) := Fr _ _ (by omega) (by omega) (hg3 _ _ a4)
    have gdQn := hC3.gd gd
    have hPa := act_len u r
    clear hs7 hR6 hp2 m1 m2 q1 q2 q3 q4 q4' q5 q6 q7 q8 q9 wu wc w1 w10
    simp only [unV, chV] at v14 v15
    obtain ⟨sq, hsq⟩ : ∃ sq, sq = s7 ++ [Ob.cells [.sc (.int .i64 0)]] := ⟨_, rfl⟩
    have gq : Grw s7 sq := by rw [hsq]; exact .push _ _
    have nq : sq[s7.length]? = some (.cells [.sc (.int .i64 0)]) := by rw [hsq]; exact get_new0 _ _
    have lq : sq.length = s7.length + 1 := by rw [hsq]; simp
    have ls : t10 < s7.length := (List.getElem?_eq_some_iff.1 v10).1
    rw [← hsq]
    refine o.t_All (n := n + 13) rfl rfl ?_
    obtain ⟨sa, hsa⟩ : ∃ sa, sa = sq ++ [Ob.cells [.ref tb 0]] := ⟨_, rfl⟩
    have ga : Grw sq sa := by rw [hsa]; exact .push _ _
    have va : sa[sq.length]? = some (.cells [.ref tb 0]) := by rw [hsa]; exact get_new0 _ _
    have lsa : sa.length = sq.length + 1 := by rw [hsa]; simp
    rw [← hsa]
    simp only [f3, f4, f5, f6, f9, f10, f11, ↓zP,zV,Nat.reduceAdd,Nat.reduceMul,Nat.reduceLT,Nat.reduceEqDiff,Nat.reduceLeDiff,Int.reduceLE,Int.reduceLT,Int.reduceBNe,Int.reduceBEq,Int.reduceNeg,Int.reduceEq,Int.reduceAdd,Int.reduceGT,Int.reduceGE,reduceCtorEq]
    generalize hZ : (sa ++ [_]) = Z
    have gZ : Grw sa Z := by rw [← hZ]; exact .push _ _
    have lZ : Z.length = sa.length + 1 := by rw [← hZ]; simp
    obtain ⟨F, ps, asg, body, hcc, q10, q16, hl0⟩ : ∃ F ps asg body, frf (Tryz.f3.body.getD .skip) = some (ps, asg, body) ∧ F 10 = .ref t10 0 ∧ F 16 = .ref s7.length 0 ∧ Z[sa.length]? = some (.loop .ready none (pl 3) (ofF 138 F) ps.toList asg body) := by
      refine ⟨_, _, _, _, rfl, ?_, ?_, (by rw [← hZ]; exact get_new0 sa _)⟩
      · simp only [f10, zF,Nat.reduceEqDiff,Nat.reduceLT]
      · simp only [zF,Nat.reduceEqDiff,Nat.reduceLT]
    have gsZ : Grw s7 Z := (gq.trans ga).trans gZ
    have eL : (Qn.map o.U.id).length = Qn.length := List.length_map _
    have hmem : ∀ i, (getI i cls').isSome = true ↔ i ∈ Qn.map o.U.id := fun i => by
      rw [isSome_of, List.mem_map]
      constructor
      · rintro ⟨v, hv⟩
        obtain ⟨q, hq, he, _⟩ := (hC3.gu _ _).1 hv
        exact ⟨q, hq, he⟩
      · rintro ⟨q, hq, he⟩
        exact ⟨_, (hC3.gu _ _).2 ⟨q, hq, he, rfl⟩⟩
    refine o.t_Each (n := n + 10) (l := sa.length) (rb := sq.length) (ids := Qn.map o.U.id) (J := fun _ => False)
      (I := fun r ro k s' => s'[r]? = some ro ∧ Z.length ≤ r ∧ s'[s7.length]? = some (.cells [.sc (.int .i64 k)]) ∧ s'[sa.length]? = some (.loop .ready none (pl 3) (ofF 138 F) ps.toList asg body) ∧ s'[sq.length]? = some (.cells [.ref tb 0]) ∧ Grw s7 s')
      (hT7.grw gsZ) (gZ _ _ va) hC3.ni hmem gdQn.pw gdQn.ir (by rw [eL]; exact gdQn.len) (by omega) ?_ ?_ ?_ ?_ (fun _ h => h.elim)
    · rintro r ro k s' ⟨i1, i2, i3, i4, i5, i6⟩
      exact ⟨i5, hT7.grw i6, i1⟩
    · intro r ro s' g hr1 hr2
      exact ⟨hr2, hr1, g _ _ (gZ _ _ (ga _ _ nq)), g _ _ hl0, g _ _ (gZ _ _ va), gsZ.trans g⟩
    · rintro r ro k hil v s' K' hv ⟨i1, i2, i3, i4, i5, i6⟩ hK1 _
      have hk : k < Qn.length := by rw [eL] at hil; exact hil
      simp only [List.getElem_map] at hv ⊢
      obtain ⟨q, hq, hqe, rfl⟩ := (hC3.gu _ _).1 hv
      obtain rfl : q = Qn[k] := nodup_in hC3.rel.ids hq (List.getElem_mem hk) hqe
      refine da_yl (n := n + 12) (t10 := t10) (t16 := s7.length) (lid := sa.length) (F := F) (p := none) hcc q10 q16 (i6 _ _ v10) i3 (hR7.grw i6) hk gdQn.len i4 ?_
      intro s'' k1 k2 k3 k4
      exact hK1 _ ⟨k3 _ _ (by omega) (by omega) i1, i2, k1, k2, k3 _ _ (by omega) (by omega) i5, fun j o ho => by
        have lj : j < s7.length := (List.getElem?_eq_some_iff.1 ho).1
        exact k3 _ _ (by omega) (by omega) (i6 _ _ ho)⟩
    · rintro r' ro s' ⟨i1, i2, i3, i4, i5, i6⟩
      rw [eL] at i3
      refine rfEnd_normal i4 (by decide) ?_
      generalize hsz : s'.set sa.length _ = sz
      have kz : ∀ j o, j ≠ sa.length → s'[j]? = some o → sz[j]? = some o := fun j o hj ho => by rw [← hsz, List.getElem?_set_ne (Ne.symm hj)]; exact ho
      have gz : Grw s7 sz := fun j o ho => by
        have lj : j < s7.length := (List.getElem?_eq_some_iff.1 ho).1
        exact kz _ _ (by omega) (i6 _ _ ho)
      have n3 := kz _ _ (by omega) i3
      have z10 := gz _ _ v10
      have zu := gz _ _ vu
      have zc := gz _ _ vc
      have z14 := gz _ _ v14
      have z15 := gz _ _ v15
      have z4 := gz _ _ v4
      have hRz := hR7.grw gz
      have z3 := hRz.at_
      have eM : (Qn.map o.cOf).length = Qn.length := List.length_map _
      have alz := alen_rd hRz.rd.1 Tryz.underlying65
      rw [eM] at alz
      simp only [f3, f4, f5, f6, f9, f10, f11, n3, z10, zu, zc, z14, z15, z3, alz, o3, o4, o7, o8, ↓zP,zV,Nat.reduceAdd,Nat.reduceMul,Nat.reduceLT,Nat.reduceEqDiff,Nat.reduceLeDiff,Int.reduceLE,Int.reduceLT,Int.reduceBNe,Int.reduceBEq,Int.reduceNeg,Int.reduceEq,Int.reduceAdd,Int.reduceGT,Int.reduceGE,reduceCtorEq]
      refine r_USame (n := n + 13) (u := actU u r) (hp17.grw gz) (hp27.grw gz) (by omega) (by omega) fun s8 g8 => ?_
      have alz8 := alen_rd (hRz.grw g8).rd.1 Tryz.underlying65
      rw [eM] at alz8
      simp only [f3, f4, f5, f6, f9, f10, f11, n3, z10, zu, zc, z14, z15, z3, alz, g8 _ _ n3, g8 _ _ z10, g8 _ _ zu, g8 _ _ zc, g8 _ _ z14, g8 _ _ z15, g8 _ _ z3, alz8, o3, o4, o7, o8, cmp_choice, BEq.rfl, Bool.and_self, beq_self_eq_true, ↓zP,zV,Nat.reduceAdd,Nat.reduceMul,Nat.reduceLT,Nat.reduceEqDiff,Nat.reduceLeDiff,Int.reduceLE,Int.reduceLT,Int.reduceBNe,Int.reduceBEq,Int.reduceNeg,Int.reduceEq,Int.reduceAdd,Int.reduceGT,Int.reduceGE,reduceCtorEq]
      refine awake23 (n := n) hm fun s9 g9 => ?_
      have g89 := g8.trans g9
      have ct9 := g89 _ _ z4
      have b9 : ∀ o, (s9.set (st.length + 2) o)[st.length + 2]? = some o := fun o => get_set ct9 o
      have alz9 := alen_rd (hRz.grw g89).rd.1 Tryz.underlying65
      rw [eM] at alz9
      simp only [f3, f4, f5, f6, f9, f10, f11, n3, z10, zu, zc, z14, z15, z3, alz, g8 _ _ n3, g8 _ _ z10, g8 _ _ zu, g8 _ _ zc, g8 _ _ z14, g8 _ _ z15, g8 _ _ z3, alz8, g89 _ _ n3, g89 _ _ z10, g89 _ _ zu, g89 _ _ zc, g89 _ _ z14, g89 _ _ z15, g89 _ _ z3, alz9, ct9, b9, o3, o4, o7, o8, cmp_choice, BEq.rfl, Bool.and_self, beq_self_eq_true, ↓zP,zV,Nat.reduceAdd,Nat.reduceMul,Nat.reduceLT,Nat.reduceEqDiff,Nat.reduceLeDiff,Int.reduceLE,Int.reduceLT,Int.reduceBNe,Int.reduceBEq,Int.reduceNeg,Int.reduceEq,Int.reduceAdd,Int.reduceGT,Int.reduceGE,reduceCtorEq]
      exact hK _
end
end Go.Proofs.YtpdhoicpaonggaaGreat
