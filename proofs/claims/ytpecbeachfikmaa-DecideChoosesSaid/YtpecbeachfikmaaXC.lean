/- Chapter 23: what any unit does in any scene: the law. -/
import Derived.Test.YtpecbeachfikmaaXA
set_option linter.unusedVariables false
set_option linter.unusedSimpArgs false
set_option maxRecDepth 10000
namespace Go.Proofs.Ytpecbeachfikmaa
open Go Go.M Go.RowKit
attribute [local congr] acallF_cong aloop_cong bcase_cong resK_cong valK_cong wantK_cong callK_cong xputK_cong qputK_cong resM_cong rfK_cong
attribute [local irreducible] seqK blockK loopK nextK bcase resK valK wantK funK putK dputK xputK qputK callK aops aop acode adraw aloop acallF acall invK resM rfK rfEnd rdEnd rdMid around
/-! ### Chapter 23: what any unit does in any scene: the law. -/
namespace o
theorem cut_nil (P : Program) (s : List Ob) {e : TypeId} : Cut P s e (.tsl [] 0 true true) [] 0 := ⟨⟨rfl, ⟨fun b hb => (by cases hb), fun _ => rfl⟩, fun s _ => by simp⟩, .inl ⟨_, _, _, _, rfl⟩, fun _ => rfl⟩
def Kr (s s' : List Ob) : Prop := ∀ (j : Nat) (e : TypeId) (xs : List V) (n lo : Nat) (fz : Bool), s[j]? = some (.row e xs n lo fz) → s'[j]? = some (.row e xs n lo fz)
theorem rd_kr {P : Program} {st s : List Ob} {e : TypeId} {v : V} {xs : List V} {n : Nat} (h : Rd P st e v xs n) (k : Kr st s) : Rd P s e v xs n := by
  rcases h.cases with ⟨nil, full, rfl⟩ | ⟨id, off, full, gg, ys, m, lo, fz, sz, rfl, k1, k2, k3, hxs⟩
  · exact h
  · refine ⟨?_, h.2⟩
    have := h.1
    simp only [elems, k1, k2] at this
    simp only [elems, k _ _ _ _ _ _ k1, k2]
    exact this
theorem cut_kr {P : Program} {st s : List Ob} {e : TypeId} {v : V} {xs : List V} {n : Nat} (h : Cut P st e v xs n) (k : Kr st s) : Cut P s e v xs n := by
  refine ⟨rd_kr h.1 k, ?_, h.2.2⟩
  rcases h.2.1 with ⟨xs, n, nil, f, rfl⟩ | ⟨id, off, n, gg, rfl⟩
  · exact .inl ⟨_, _, _, _, rfl⟩
  · exact .inr ⟨_, _, _, _, rfl⟩
end o
section
variable {n m : Nat} {st s : List Ob} {K : V → List Ob → Prop} {WW HH : Int} {T : List Int} {L : List B4} {tv bv lv cv pv : V} {E : List o.U} {C : List o.K4} {u : Un}
set_option maxHeartbeats 8000000 in
theorem l23_Chooses (ht : ∀ s, Rd Try.prog s 5 tv (bs T) T.length) (hb : ∀ s, Rd Try.prog s 141 bv (L.flatMap B4.v) L.length) (ot : one tv = true ∧ cellsV tv = [tv]) (ob : one bv = true ∧ cellsV bv = [bv])
    (hm : 20000 < m) (hTm : T.length < m) (hTb : ∀ t ∈ T, 0 ≤ t ∧ t < 256) (hT : T.length ≤ 140737488355328) (hL : L.length ≤ 3518437208883)
    (he : ∀ s, Rd Try.prog s 91 lv (E.flatMap o.U.v) E.length) (hid : ∀ e ∈ E, o.inR e.id) (hEm : E.length < m) (hEl : E.length ≤ 3518437208883) (ol : M.one lv = true ∧ cellsV lv = [lv]) (hc : ∀ s, Rd Try.prog s 61 cv (C.flatMap o.K4.v) C.length) (hCm : C.length < m) (hCl : C.length ≤ 4398046511104) (oc : M.one cv = true ∧ cellsV cv = [cv]) (hp : ∀ s, Pth s pv u.P)
    (hK : ∀ s, K (.sc (.bool true)) s) : acallF Try.prog pl (n + 15) m 4 [.agg (mp WW HH tv bv), .agg (scV lv cv pv u)] st K := by
  refine acallF_inF Try.func4 rfl rfl Try.ntmps4 (by simp) ?_
  obtain ⟨op1, op2⟩ := (hp []).2
  obtain ⟨S, hS⟩ : ∃ S, S = st ++ [Ob.cells (mp WW HH tv bv), Ob.cells (scV lv cv pv u)] := ⟨_, rfl⟩
  have c0 : S[st.length]? = some (.cells (mp WW HH tv bv)) := by rw [hS]; exact get_new _ _ 0
  have c1 : S[st.length + 1]? = some (.cells (scV lv cv pv u)) := by rw [hS]; exact get_new _ _ 1
  simp only [mp, scV, unV] at hS c0 c1
  simp only [mp, scV, unV, ot.1, ot.2, ob.1, ob.2, ol.1, ol.2, oc.1, oc.2, op1, op2, get_new, get_new0, List.getElem?_cons_zero, ↓zP,zV,Nat.reduceAdd,Nat.reduceMul,Nat.reduceLT,Nat.reduceEqDiff,Nat.reduceLeDiff,Int.reduceLE,Int.reduceLT,Int.reduceBNe,Int.reduceBEq,Int.reduceNeg,Int.reduceEq,Int.reduceAdd,Int.reduceGT,Int.reduceGE,reduceCtorEq]
  rw [← hS]
  refine l6_Both (n := n + 4) ht hb ot ob (by omega) hTm hTb hT hL (fun s1 j1 => ?_) (fun wd rd s1 hw j1 => ?_)
  · simp only [↓zP,zV,Nat.reduceAdd,Nat.reduceMul,Nat.reduceLT,Nat.reduceEqDiff,Nat.reduceLeDiff,Int.reduceLE,Int.reduceLT,Int.reduceBNe,Int.reduceBEq,Int.reduceNeg,Int.reduceEq,Int.reduceAdd,Int.reduceGT,Int.reduceGE,reduceCtorEq]
    refine awake23 (n := n) hm fun s2 j2 => ?_
    simp only [↓zP,zV,Nat.reduceAdd,Nat.reduceMul,Nat.reduceLT,Nat.reduceEqDiff,Nat.reduceLeDiff,Int.reduceLE,Int.reduceLT,Int.reduceBNe,Int.reduceBEq,Int.reduceNeg,Int.reduceEq,Int.reduceAdd,Int.reduceGT,Int.reduceGE,reduceCtorEq]
    exact hK _
  have a1 := j1 _ _ c1
  have la1 := (List.getElem?_eq_some_iff.1 a1).1
  simp only [a1, ol.1, ol.2, ↓zP,zV,Nat.reduceAdd,Nat.reduceMul,Nat.reduceLT,Nat.reduceEqDiff,Nat.reduceLeDiff,Int.reduceLE,Int.reduceLT,Int.reduceBNe,Int.reduceBEq,Int.reduceNeg,Int.reduceEq,Int.reduceAdd,Int.reduceGT,Int.reduceGE,reduceCtorEq]
  refine o.l22_MadeG (n := n + 6) (E := E) (fun s _ => he s) hid hEm hEl (by omega) fun s2 ix a b tb v c z iy us os L2 sv hL2 hab huc hd hx rel gd hT2 hz hy g2 hle hzy => ?_
  have hm3 : 300 < m := by omega
  have ntm : ∀ (j : Nat) (cs : List V), s2[j]? = some (.cells cs) → j ≠ a ∧ j ≠ b ∧ j ≠ v ∧ j ≠ c := fun j cs hj =>
    ⟨(fun h => by have := hx.us; rw [← h, hj] at this; cases this), (fun h => by have := hx.os; rw [← h, hj] at this; cases this), (fun h => by have := hT2.cl; rw [← h, hj] at this; cases this), (fun h => by have := hT2.cc; rw [← h, hj] at this; cases this)⟩
  have nix := ntm _ _ hx.ix
  have nz := ntm _ _ hz
  have nzx : z ≠ ix := fun h => by have := hx.ix; rw [← h, hz] at this; cases this
  have nzt : z ≠ tb := fun h => by have := hT2.at_; rw [← h, hz] at this; cases this
  simp only [↓zP,zV,Nat.reduceAdd,Nat.reduceMul,Nat.reduceLT,Nat.reduceEqDiff,Nat.reduceLeDiff,Int.reduceLE,Int.reduceLT,Int.reduceBNe,Int.reduceBEq,Int.reduceNeg,Int.reduceEq,Int.reduceAdd,Int.reduceGT,Int.reduceGE,reduceCtorEq]
  refine aloop_forF (fun k f s => ∃ (i : Nat) (Q : List o.U) (gs cls : List (Int × V)) (cc : List ((Int × Int) × V)) (cv' : V), k + i = m ∧ i ≤ C.length ∧ o.Ix s ix a b us os ∧ o.Tb s tb ix v c cls cc ∧ o.Cr L2 Q gs cls cc ∧ o.Rt s z iy cv' (Q.map o.cOf) ∧ o.Ri s iy sv L2 ∧ Grw s1 s ∧ f 3 = .ref (st.length + 1) 0 ∧ f 5 = .ref wd 0 ∧ f 6 = .ref rd 0 ∧ f 9 = .ref tb 0 ∧ f 10 = .ref z 0 ∧ f 11 = .sc (.int .i64 i))
    ⟨0, [], [], [], [], _, by omega, by omega, hx, hT2, o.Cr.nil L2, ⟨hz, o.cut_nil _ _⟩, hy, g2, by simp only [zF,Nat.reduceEqDiff,Nat.reduceLT], by simp only [zF,Nat.reduceEqDiff,Nat.reduceLT], by simp only [zF,Nat.reduceEqDiff,Nat.reduceLT], by simp only [zF,Nat.reduceEqDiff,Nat.reduceLT], by simp only [zF,Nat.reduceEqDiff,Nat.reduceLT], by simp only [zF,Nat.reduceEqDiff,Nat.reduceLT]; rfl⟩ ?_
  clear hx hT2 hy hz g2
  rintro I' hI' k f s ⟨i, Q, gs, cls, cc, cv', hk, hil0, hx, hT2, hC, hR, hy, hg, f3, f5, f6, f9, f10, f11⟩
  refine ⟨k - 1, by omega, ?_⟩
  have al := fun s => alen_rd (hc s) Try.underlying27
  have e3 : IntKind.i64.wrap ((i : Int) + 1) = ((i + 1 : Nat) : Int) := by rw [IntWalk.i64_in _ (by omega)]; rfl
  have gdQ := hC.gd gd
  have b1 := hg _ _ a1
  by_cases hil : i < C.length
  · have d : decide ((i : Int) < C.length) = true := decide_eq_true (by omega)
    have p1 := fun s => (ix_flat (f := o.K4.v) (fun a => rfl) (hc s) Try.underlying27 sz61 ag61 (by omega) hil).1
    have p3 := fun s => (o.k_id (hc s) hil).1
    have p4 := fun s => (o.k_id (hc s) hil).2
    have p5 := fun s => (o.k_to (hc s) hil).1
    have p6 := fun s => (o.k_to (hc s) hil).2
    simp only [f3, f5, f6, f9, f10, f11, b1, al, d, p1, p3, p4, p5, p6, ↓zP,zV,Nat.reduceAdd,Nat.reduceMul,Nat.reduceLT,Nat.reduceEqDiff,Nat.reduceLeDiff,Int.reduceLE,Int.reduceLT,Int.reduceBNe,Int.reduceBEq,Int.reduceNeg,Int.reduceEq,Int.reduceAdd,Int.reduceGT,Int.reduceGE,reduceCtorEq]
    refine o.do_Claim (n := n + 6) rel hx hT2 hC huc hm3 (fun hne s5 g5 => ?_) fun he0 p gs' cls' cc' s5 hpp hpe hT5 hC5 k5 => ?_
    · have b5 := g5 _ _ b1
      simp only [f3, f5, f6, f9, f10, f11, b1, b5, al, p1, p3, p4, p5, p6, ↓zP,zV,Nat.reduceAdd,Nat.reduceMul,Nat.reduceLT,Nat.reduceEqDiff,Nat.reduceLeDiff,Int.reduceLE,Int.reduceLT,Int.reduceBNe,Int.reduceBEq,Int.reduceNeg,Int.reduceEq,Int.reduceAdd,Int.reduceGT,Int.reduceGE,reduceCtorEq]
      refine o.r_DoClaim (n := n + 6) (hy.grw g5) rel (hR.grw g5) hC hm3 gd.len gdQ.len (fun _ s6 g6 => ?_) fun he0 => absurd he0 hne
      have g56 := g5.trans g6
      simp only [f3, f5, f6, f9, f10, f11, e3, ↓zP,zV,Nat.reduceAdd,Nat.reduceMul,Nat.reduceLT,Nat.reduceEqDiff,Nat.reduceLeDiff,Int.reduceLE,Int.reduceLT,Int.reduceBNe,Int.reduceBEq,Int.reduceNeg,Int.reduceEq,Int.reduceAdd,Int.reduceGT,Int.reduceGE,reduceCtorEq]
      exact hI' _ _ _ ⟨i + 1, Q, gs, cls, cc, cv', by omega, hil, hx.grw g56, hT2.grw g56, hC, hR.grw g56, hy.grw g56, hg.trans g56, by simp only [f3, zF,Nat.reduceEqDiff,Nat.reduceLT], by simp only [f5, zF,Nat.reduceEqDiff,Nat.reduceLT], by simp only [f6, zF,Nat.reduceEqDiff,Nat.reduceLT], by simp only [f9, zF,Nat.reduceEqDiff,Nat.reduceLT], by simp only [f10, zF,Nat.reduceEqDiff,Nat.reduceLT], by simp only [zF,Nat.reduceEqDiff,Nat.reduceLT]⟩
    · have km5 := o.kp_km k5 hT2.cl hT2.cc
      have b5 := km5 _ _ (fun es he => by cases he) b1
      have hi5 : o.Ix s5 ix a b us os := ⟨k5 _ _ nix.2.2.1 nix.2.2.2 hx.ix, k5 _ _ hd.1 hd.2.1 hx.us, k5 _ _ hd.2.2.1 hd.2.2.2 hx.os⟩
      have hy5 := hy.km km5
      have hR5 : o.Rt s5 z iy cv' (Q.map o.cOf) := ⟨km5 _ _ (fun es he => by cases he) hR.at_, o.cut_km hR.rd km5⟩
      have hg5 : Grw s1 s5 := fun j o hj => by
        have lj := (List.getElem?_eq_some_iff.1 hj).1
        exact k5 _ _ (by omega) (by omega) (hg _ _ hj)
      simp only [f3, f5, f6, f9, f10, f11, b1, b5, al, p1, p3, p4, p5, p6, ↓zP,zV,Nat.reduceAdd,Nat.reduceMul,Nat.reduceLT,Nat.reduceEqDiff,Nat.reduceLeDiff,Int.reduceLE,Int.reduceLT,Int.reduceBNe,Int.reduceBEq,Int.reduceNeg,Int.reduceEq,Int.reduceAdd,Int.reduceGT,Int.reduceGE,reduceCtorEq]
      refine o.r_DoClaim (n := n + 6) hy5 rel hR5 hC hm3 gd.len gdQ.len (fun hne => absurd he0 hne) fun _ cv2 s6 hR6 k6 => ?_
      have hR6 := hR6 (o.mvU p C[i].x C[i].y) hpe rfl rfl
      have hi6 : o.Ix s6 ix a b us os := ⟨k6 _ _ (Ne.symm nzx) hi5.ix, k6 _ _ (Ne.symm nz.1) hi5.us, k6 _ _ (Ne.symm nz.2.1) hi5.os⟩
      have hT6 : o.Tb s6 tb ix v c cls' cc' := ⟨k6 _ _ (Ne.symm nzt) hT5.at_, k6 _ _ (Ne.symm nz.2.2.1) hT5.cl, k6 _ _ (Ne.symm nz.2.2.2) hT5.cc⟩
      have hy6 : o.Ri s6 iy sv L2 := ⟨k6 _ _ (Ne.symm hzy) hy5.at_, o.cut_kr hy5.rd fun j e xs n lo fz hj => k6 _ _ (fun he => by rw [he, hR5.at_] at hj; cases hj) hj⟩
      have hg6 : Grw s1 s6 := fun j o hj => by
        have lj := (List.getElem?_eq_some_iff.1 hj).1
        exact k6 _ _ (by omega) (hg5 _ _ hj)
      simp only [f3, f5, f6, f9, f10, f11, e3, ↓zP,zV,Nat.reduceAdd,Nat.reduceMul,Nat.reduceLT,Nat.reduceEqDiff,Nat.reduceLeDiff,Int.reduceLE,Int.reduceLT,Int.reduceBNe,Int.reduceBEq,Int.reduceNeg,Int.reduceEq,Int.reduceAdd,Int.reduceGT,Int.reduceGE,reduceCtorEq]
      exact hI' _ _ _ ⟨i + 1, _, gs', cls', cc', cv2, by omega, hil, hi6, hT6, hC5, hR6, hy6, hg6, by simp only [f3, zF,Nat.reduceEqDiff,Nat.reduceLT], by simp only [f5, zF,Nat.reduceEqDiff,Nat.reduceLT], by simp only [f6, zF,Nat.reduceEqDiff,Nat.reduceLT], by simp only [f9, zF,Nat.reduceEqDiff,Nat.reduceLT], by simp only [f10, zF,Nat.reduceEqDiff,Nat.reduceLT], by simp only [zF,Nat.reduceEqDiff,Nat.reduceLT]⟩
  · have d : decide ((i : Int) < C.length) = false := decide_eq_false (by omega)
    have pt : Pt s tb L2 Q := ⟨_, _, _, _, _, _, _, _, _, _, rel, hx, hT2, hC⟩
    have rq : Rq s z L2 Q := ⟨_, _, _, _, _, _, _, _, hy, rel, hR, hC, gd.len, gdQ.len⟩
    simp only [f3, f5, f6, f9, f10, f11, b1, al, d, op1, op2, ↓zP,zV,Nat.reduceAdd,Nat.reduceMul,Nat.reduceLT,Nat.reduceEqDiff,Nat.reduceLeDiff,Int.reduceLE,Int.reduceLT,Int.reduceBNe,Int.reduceBEq,Int.reduceNeg,Int.reduceEq,Int.reduceAdd,Int.reduceGT,Int.reduceGE,reduceCtorEq]
    refine c_Choose (n := n + 1) (u := u) (pv := pv) (L2 := L2) (Q := Q) (hw.grw hg) pt (hp _) hm fun s3 g3 => ?_
    have b3 := g3 _ _ b1
    simp only [f3, f5, f6, f9, f10, f11, b1, b3, op1, op2, ↓zP,zV,Nat.reduceAdd,Nat.reduceMul,Nat.reduceLT,Nat.reduceEqDiff,Nat.reduceLeDiff,Int.reduceLE,Int.reduceLT,Int.reduceBNe,Int.reduceBEq,Int.reduceNeg,Int.reduceEq,Int.reduceAdd,Int.reduceGT,Int.reduceGE,reduceCtorEq]
    refine g_Of (n := n + 7) (c := u.c) (z := u.z) (hw.grw (hg.trans g3)) hm3 fun s4 iv g4 gnd => ?_
    have b4 := g4 _ _ b3
    obtain ⟨o3, o4⟩ := gnd.one
    simp only [f3, f5, f6, f9, f10, f11, b1, b3, b4, op1, op2, o3, o4, ↓zP,zV,Nat.reduceAdd,Nat.reduceMul,Nat.reduceLT,Nat.reduceEqDiff,Nat.reduceLeDiff,Int.reduceLE,Int.reduceLT,Int.reduceBNe,Int.reduceBEq,Int.reduceNeg,Int.reduceEq,Int.reduceAdd,Int.reduceGT,Int.reduceGE,reduceCtorEq]
    refine r_Choose (n := n + 6) (u := u) (pv := pv) gnd ((rq.grw g3).grw g4) (hp _) hm fun s5 g5 => ?_
    have b5 := g5 _ _ b4
    have T5 := ((hT2.grw g3).grw g4).grw g5
    have R5 := ((hR.grw g3).grw g4).grw g5
    have z5 := R5.at_
    have al5 := alen_rd R5.rd.1 Try.underlying66
    generalize chS (standB WW HH (bs T) L u.c u.z) (o.mayC L2 Q u.id) u = r
    simp only [f3, f5, f6, f9, f10, f11, b1, b3, b4, b5, op1, op2, o3, o4, chV, cmp_choice, BEq.rfl, Bool.and_self, ↓zP,zV,Nat.reduceAdd,Nat.reduceMul,Nat.reduceLT,Nat.reduceEqDiff,Nat.reduceLeDiff,Int.reduceLE,Int.reduceLT,Int.reduceBNe,Int.reduceBEq,Int.reduceNeg,Int.reduceEq,Int.reduceAdd,Int.reduceGT,Int.reduceGE,reduceCtorEq]
    refine o.t_Len (n := n + 12) T5 ?_
    have hq : ((cls.length : Int) == ((Q.map o.cOf).length : Int)) = true := by rw [List.length_map, hC.len]; simp
    simp only [f3, f5, f6, f9, f10, f11, z5, al5, hq, ↓zP,zV,Nat.reduceAdd,Nat.reduceMul,Nat.reduceLT,Nat.reduceEqDiff,Nat.reduceLeDiff,Int.reduceLE,Int.reduceLT,Int.reduceBNe,Int.reduceBEq,Int.reduceNeg,Int.reduceEq,Int.reduceAdd,Int.reduceGT,Int.reduceGE,reduceCtorEq]
    refine awake23 (n := n) hm fun s6 j6 => ?_
    simp only [↓zP,zV,Nat.reduceAdd,Nat.reduceMul,Nat.reduceLT,Nat.reduceEqDiff,Nat.reduceLeDiff,Int.reduceLE,Int.reduceLT,Int.reduceBNe,Int.reduceBEq,Int.reduceNeg,Int.reduceEq,Int.reduceAdd,Int.reduceGT,Int.reduceGE,reduceCtorEq]
    exact hK _
end
end Go.Proofs.Ytpecbeachfikmaa
