/- Chapter 3: tests of cells and rectangles. Chapter 5: an index with units: asked, and set. Chapter 5: an index with units: set, met, put. Chapter 5: an index with units: put; awake. Chapter 5: an index with units: who is met. Chapter 3's reference: near, May, Last, Meet. Chapter 5's reference: an index that is a list: place, anybody. Chapter 5's reference: Put. Chapter 22: a table of claims: the fixed question. -/
import Derived.Test.YtpdhoicpaonggaaGreatX3
set_option linter.unusedVariables false
set_option linter.unusedSimpArgs false
set_option maxRecDepth 10000
namespace Go.Proofs.YtpdhoicpaonggaaGreat
open Go Go.M Go.RowKit
attribute [local congr] acallF_cong aloop_cong bcase_cong resK_cong valK_cong wantK_cong callK_cong xputK_cong qputK_cong resM_cong rfK_cong
attribute [local irreducible] seqK blockK loopK nextK bcase resK valK wantK funK putK dputK xputK qputK callK aops aop acode adraw aloop acallF acall invK resM rfK rfEnd rdEnd rdMid around
namespace o
section
variable {n m : Nat} {st : List Ob} {K : V → List Ob → Prop} {x y w h : Int}
inductive noIx (st : List Ob) : V → Prop where
  | nil : noIx st (.sc (.pointer none))
  | zero {id : Nat} : st[id]? = some (.cells [.sc (.map none), .sc (.map none)]) → noIx st (.ref id 0)
theorem noIx.grw {st s : List Ob} {v : V} (h : noIx st v) (k : Grw st s) : noIx s v := by
  cases h with
  | nil => exact .nil
  | zero h => exact .zero (k _ _ h)
end
end o
namespace o
structure Ix (s : List Ob) (ix a b : Nat) (us : List (Int × V)) (os : List ((Int × Int) × V)) : Prop where
  ix : s[ix]? = some (.cells [.map a, .map b])
  us : s[a]? = some (.map (esI us))
  os : s[b]? = some (.map (esC os))
section
variable {n m : Nat} {st s : List Ob} {K : V → List Ob → Prop} {ix a b : Nat} {us : List (Int × V)} {os : List ((Int × Int) × V)} {x y w h id : Int}
theorem Ix.grw (h : Ix st ix a b us os) (k : Grw st s) : Ix s ix a b us os := ⟨k _ _ h.ix, k _ _ h.us, k _ _ h.os⟩
theorem o_is1 (hi : Ix st ix a b us os) (hK : K (.sc (.bool true)) st) : acallF Tryz.prog pl (n + 1) m 48 [.ref ix 0] st K := by
  refine acallF_inF Tryz.func48 rfl rfl Tryz.ntmps48 (by simp) ?_
  have h1 := hi.ix
  simp only [h1, ↓zP,zV,Nat.reduceAdd,Nat.reduceMul,Nat.reduceLT,Nat.reduceEqDiff,Nat.reduceLeDiff,Int.reduceLE,Int.reduceLT,Int.reduceBNe,Int.reduceBEq,Int.reduceNeg,Int.reduceEq,Int.reduceAdd,Int.reduceGT,Int.reduceGE,reduceCtorEq]
  exact hK
set_option maxHeartbeats 2000000 in
theorem set_yl {ps : Array Tmp} {asg body : Code} (hc : frf (Tryz.f52.body.getD .skip) = some (ps, asg, body)) {F : Nat → V} {t3 t4 lid : Nat} {p : Option Code} (q3 : F 3 = .ref t3 0) (q4 : F 4 = .ref t4 0)
    (h3 : s[t3]? = some (.cells [.ref ix 0])) (h4 : s[t4]? = some (.cells [.sc (.int .i64 id)])) (hix : s[ix]? = some (.cells [.map a, .map b])) (hb : s[b]? = some (.map (esC os)))
    (hl : s[lid]? = some (.loop .ready p (pl 52) (ofF 22 F) ps.toList asg body))
    (hK : ∀ s', s'[b]? = some (.map (esC (putC (x, y) (.sc (.int .i64 id)) os))) → s'[lid]? = some (.loop .ready none (pl 52) (ofF 22 F) ps.toList asg body) → (∀ j o, j ≠ b → j ≠ lid → s[j]? = some o → s'[j]? = some o) → K (.sc (.bool true)) s') :
    acallF Tryz.prog pl (n + 1) m Tryz.prog.funcs.size [.yl lid, .agg (cl x y)] s K := by
  simp only [Tryz.f52, Option.getD_some, frf, Option.some.injEq, Prod.mk.injEq] at hc
  obtain ⟨rfl, rfl, rfl⟩ := hc
  have hbl : b ≠ lid := fun he => by subst he; rw [hb] at hl; cases hl
  refine acallF_yl hl rfl ?_
  rw [show (#[15] : Array Tmp).toList = [15] from rfl, aputs_one (by decide)]
  simp only [cl, ↓zP,zV,Nat.reduceAdd,Nat.reduceMul,Nat.reduceLT,Nat.reduceEqDiff,Nat.reduceLeDiff,Int.reduceLE,Int.reduceLT,Int.reduceBNe,Int.reduceBEq,Int.reduceNeg,Int.reduceEq,Int.reduceAdd,Int.reduceGT,Int.reduceGE,reduceCtorEq]
  have g0 := Grw.push s [.cells [.sc (.int .i64 x), .sc (.int .i64 y)]]
  have c6 : (s ++ [Ob.cells [V.sc (.int .i64 x), V.sc (.int .i64 y)]])[s.length]? = some (.cells [V.sc (.int .i64 x), V.sc (.int .i64 y)]) := get_new0 _ _
  refine rdMid_ok (g0 _ _ hl) ?_
  generalize hs1 : (s ++ [Ob.cells [V.sc (.int .i64 x), V.sc (.int .i64 y)]]) = s1 at g0 c6
  have nl : s.length ≠ lid := fun he => by subst he; rw [List.getElem?_eq_none (Nat.le_refl _)] at hl; cases hl
  have lt : lid < s1.length := (List.getElem?_eq_some_iff.1 (g0 _ _ hl)).1
  have n3 : t3 ≠ lid := fun he => by subst he; rw [h3] at hl; cases hl
  have n4 : t4 ≠ lid := fun he => by subst he; rw [h4] at hl; cases hl
  have ni : ix ≠ lid := fun he => by subst he; rw [hix] at hl; cases hl
  generalize hs2 : s1.set lid _ = s2
  have k : ∀ j o, j ≠ lid → s1[j]? = some o → s2[j]? = some o := fun j o hj ho => by rw [← hs2, List.getElem?_set_ne (Ne.symm hj)]; exact ho
  have d3 := k _ _ n3 (g0 _ _ h3)
  have d4 := k _ _ n4 (g0 _ _ h4)
  have di := k _ _ ni (g0 _ _ hix)
  have db := k _ _ hbl (g0 _ _ hb)
  have d6 := k _ _ nl c6
  have up := up_cell (e := 3) (v := .sc (.int .i64 id)) Tryz.underlying90 rfl db x y
  simp only [q3, q4, d3, d4, di, d6, up, ↓zP,zV,Nat.reduceAdd,Nat.reduceMul,Nat.reduceLT,Nat.reduceEqDiff,Nat.reduceLeDiff,Int.reduceLE,Int.reduceLT,Int.reduceBNe,Int.reduceBEq,Int.reduceNeg,Int.reduceEq,Int.reduceAdd,Int.reduceGT,Int.reduceGE,reduceCtorEq]
  have dl : ∀ o, s1.set lid o = s2 → s2[lid]? = some o := fun o ho => by rw [← ho]; exact List.getElem?_set_self lt
  have dl := dl _ hs2
  have lb : b < s2.length := (List.getElem?_eq_some_iff.1 db).1
  refine rdEnd_normal (by rw [List.getElem?_set_ne hbl]; exact dl) ?_
  refine hK _ ?_ ?_ ?_
  · rw [List.getElem?_set_ne (Ne.symm hbl), List.getElem?_set_self lb]
  · rw [List.getElem?_set_self (by rw [List.length_set, ← hs2, List.length_set]; exact lt)]
  · intro j o hj hjl ho
    rw [List.getElem?_set_ne (Ne.symm hjl), List.getElem?_set_ne (Ne.symm hj)]
    exact k _ _ hjl (g0 _ _ ho)
end
end o
namespace o
section
variable {n m : Nat} {st s : List Ob} {K : V → List Ob → Prop} {ix a b : Nat} {us : List (Int × V)} {os : List ((Int × Int) × V)} {x y id : Int} {W H : Nat}
theorem Ix.nixa (h : Ix st ix a b us os) : ix ≠ a := fun he => by have h1 := h.ix; rw [he, h.us] at h1; cases h1
theorem Ix.nixb (h : Ix st ix a b us os) : ix ≠ b := fun he => by have h1 := h.ix; rw [he, h.os] at h1; cases h1
set_option maxHeartbeats 1000000 in
theorem set_loop {ps : Array Tmp} {asg body : Code} (hc : frf (Tryz.f52.body.getD .skip) = some (ps, asg, body)) {F : Nat → V} {t3 t4 lid rb : Nat} (q3 : F 3 = .ref t3 0) (q4 : F 4 = .ref t4 0)
    (hmay : mayB x y W H = true) (hm : W < m) (hm2 : H < m)
    (h3 : s[t3]? = some (.cells [.ref ix 0])) (h4 : s[t4]? = some (.cells [.sc (.int .i64 id)])) (hix : s[ix]? = some (.cells [.map a, .map b])) (hb : s[b]? = some (.map (esC os))) (hr : s[rb]? = some (.cells (rc x y W H)))
    (hl : s[lid]? = some (.loop .ready none (pl 52) (ofF 22 F) ps.toList asg body))
    (hK : ∀ s', s'[b]? = some (.map (esC (fillC (.sc (.int .i64 id)) x y W os (H * W)))) → s'[lid]? = some (.loop .ready none (pl 52) (ofF 22 F) ps.toList asg body) → Kp b lid s s' → K (.tup []) s') :
    acallF Tryz.prog pl (n + 4) m 57 [.yl lid, .ref rb 0] s K := by
  have hbl : b ≠ lid := fun he => by subst he; rw [hb] at hl; cases hl
  have nb : ∀ (j : Nat) (c : List V), s[j]? = some (.cells c) → j ≠ b := fun j c hj he => by subst he; rw [hb] at hj; cases hj
  have nl : ∀ (j : Nat) (c : List V), s[j]? = some (.cells c) → j ≠ lid := fun j c hj he => by subst he; rw [hl] at hj; cases hj
  refine c_Cells1 (x := x) (y := y) (W := W) (H := H) (I := fun k s' => s'[b]? = some (.map (esC (fillC (.sc (.int .i64 id)) x y W os k))) ∧ s'[lid]? = some (.loop .ready none (pl 52) (ofF 22 F) ps.toList asg body) ∧ Kp b lid s s') (J := fun _ => False)
    hmay hm hm2 (fun k s' h => h.2.2 _ _ (nb _ _ hr) (nl _ _ hr) hr) (fun k s1 s2 h g => ⟨g _ _ h.1, g _ _ h.2.1, fun j o h1 h2 h3 => g _ _ (h.2.2 j o h1 h2 h3)⟩) ⟨hb, hl, fun j o _ _ h => h⟩ ?_ (fun s' h => hK s' h.1 h.2.1 h.2.2) (fun s' h => h.elim)
  intro j i s' K' hj hi ⟨e1, e2, e3⟩ hK1 hK2
  refine set_yl (n := n + 2) hc q3 q4 (e3 _ _ (nb _ _ h3) (nl _ _ h3) h3) (e3 _ _ (nb _ _ h4) (nl _ _ h4) h4) (e3 _ _ (nb _ _ hix) (nl _ _ hix) hix) e1 e2 ?_
  intro s2 k1 k2 k3
  refine hK1 _ ⟨?_, k2, fun j o h1 h2 h3 => k3 j o h1 h2 (e3 j o h1 h2 h3)⟩
  rw [k1]
  simp only [fillC]
  rw [show (j * W + i) % W = i by rw [Nat.mul_comm, Nat.mul_add_mod, Nat.mod_eq_of_lt hi], show (j * W + i) / W = j by rw [Nat.mul_comm, Nat.mul_add_div (by omega), Nat.div_eq_of_lt hi, Nat.add_zero]]
set_option maxHeartbeats 1000000 in
theorem o_set (hi : Ix st ix a b us os) (hab : a ≠ b) (hmay : mayB x y W H = true) (hm : W < m) (hm2 : H < m)
    (hK : ∀ s, Ix s ix a b (putI id (.agg (rc x y W H)) us) (fillC (.sc (.int .i64 id)) x y W os (H * W)) → Kp a b st s → K (.tup []) s) : acallF Tryz.prog pl (n + 5) m 52 [.ref ix 0, .sc (.int .i64 id), .agg (rc x y W H)] st K := by
  refine acallF_inF Tryz.func52 rfl rfl Tryz.ntmps52 (by simp) ?_
  have g1 := Grw.push st [Ob.cells [V.ref ix 0], Ob.cells [V.sc (Value.int IntKind.i64 id)], Ob.cells (rc x y W H)]
  have c0 : (st ++ [Ob.cells [V.ref ix 0], Ob.cells [V.sc (Value.int IntKind.i64 id)], Ob.cells (rc x y W H)])[st.length]? = some (.cells [V.ref ix 0]) := get_new0 _ _
  have c1 : (st ++ [Ob.cells [V.ref ix 0], Ob.cells [V.sc (Value.int IntKind.i64 id)], Ob.cells (rc x y W H)])[st.length + 1]? = some (.cells [V.sc (Value.int IntKind.i64 id)]) := get_new _ _ 1
  have c2 : (st ++ [Ob.cells [V.ref ix 0], Ob.cells [V.sc (Value.int IntKind.i64 id)], Ob.cells (rc x y W H)])[st.length + 2]? = some (.cells (rc x y W H)) := get_new _ _ 2
  have hi1 := hi.grw g1
  have i1 := hi1.ix
  have up := up_int (e := 75) (v := .agg (rc x y W H)) Tryz.underlying110 rfl hi1.us id
  have ha : a < st.length := (List.getElem?_eq_some_iff.1 hi.us).1
  have c2' : ∀ o, ((st ++ [Ob.cells [V.ref ix 0], Ob.cells [V.sc (Value.int IntKind.i64 id)], Ob.cells (rc x y W H)]).set a o)[st.length + 2]? = some (.cells (rc x y W H)) := fun o => by rw [List.getElem?_set_ne (by omega)]; exact c2
  simp only [rc] at c0 c1 c2 g1 i1 up hi1 c2'
  simp only [rc, c0, c1, c2, i1, up, c2', ↓zP,zV,Nat.reduceAdd,Nat.reduceMul,Nat.reduceLT,Nat.reduceEqDiff,Nat.reduceLeDiff,Int.reduceLE,Int.reduceLT,Int.reduceBNe,Int.reduceBEq,Int.reduceNeg,Int.reduceEq,Int.reduceAdd,Int.reduceGT,Int.reduceGE,reduceCtorEq]
  refine c_Cells ?_
  generalize hs3 : (st ++ [Ob.cells [V.ref ix 0], Ob.cells [V.sc (Value.int IntKind.i64 id)], Ob.cells [V.sc (.int .i64 x), V.sc (.int .i64 y), V.sc (.int .i64 W), V.sc (.int .i64 H)]]) = s3 at c0 c1 c2 g1 i1 up hi1 c2'
  simp only [↓zP,zV,Nat.reduceAdd,Nat.reduceMul,Nat.reduceLT,Nat.reduceEqDiff,Nat.reduceLeDiff,Int.reduceLE,Int.reduceLT,Int.reduceBNe,Int.reduceBEq,Int.reduceNeg,Int.reduceEq,Int.reduceAdd,Int.reduceGT,Int.reduceGE,reduceCtorEq]
  generalize hs4 : s3.set a _ = s4
  have lt3 : st.length + 3 = s3.length := by rw [← hs3]; simp
  have k4 : ∀ j o, j ≠ a → s3[j]? = some o → s4[j]? = some o := fun j o hj ho => by rw [← hs4, List.getElem?_set_ne (Ne.symm hj)]; exact ho
  have u4 : s4[a]? = some (.map (esI (putI id (.agg (rc x y W H)) us))) := by rw [← hs4, List.getElem?_set_self (by omega)]; rfl
  have g5 := fun X => Grw.push s4 X
  refine set_loop (n := n) rfl (t3 := st.length) (t4 := st.length + 1) (ix := ix) (a := a) (b := b) (os := os) (id := id) (by simp only [zF,Nat.reduceEqDiff,Nat.reduceLT]) (by simp only [zF,Nat.reduceEqDiff,Nat.reduceLT]) hmay hm hm2 (g5 _ _ _ (k4 _ _ (by omega) c0)) (g5 _ _ _ (k4 _ _ (by omega) c1)) (g5 _ _ _ (k4 _ _ hi.nixa i1)) (g5 _ _ _ (k4 _ _ (Ne.symm hab) hi1.os)) (get_new0 _ _) (get_new _ _ 1) ?_
  intro s' j1 j2 j3
  refine rfEnd_normal j2 (by decide) ?_
  simp only [↓zP,zV,Nat.reduceAdd,Nat.reduceMul,Nat.reduceLT,Nat.reduceEqDiff,Nat.reduceLeDiff,Int.reduceLE,Int.reduceLT,Int.reduceBNe,Int.reduceBEq,Int.reduceNeg,Int.reduceEq,Int.reduceAdd,Int.reduceGT,Int.reduceGE,reduceCtorEq]
  have ls : st.length ≤ s4.length := by rw [← hs4, List.length_set, ← hs3]; simp
  have hb : b < st.length := (List.getElem?_eq_some_iff.1 hi.os).1
  have hx : ix < st.length := (List.getElem?_eq_some_iff.1 hi.ix).1
  have fin : ∀ (z : Ob) j o, j ≠ s4.length + 1 → s'[j]? = some o → (s'.set (s4.length + 1) z)[j]? = some o := fun z j o hj ho => by rw [List.getElem?_set_ne (Ne.symm hj)]; exact ho
  refine hK _ ⟨fin _ _ _ (by omega) (j3 _ _ hi.nixb (by omega) (g5 _ _ _ (k4 _ _ hi.nixa i1))), fin _ _ _ (by omega) (j3 _ _ hab (by omega) (g5 _ _ _ u4)), fin _ _ _ (by omega) j1⟩ ?_
  intro j o ja jb hj
  have lj : j < st.length := (List.getElem?_eq_some_iff.1 hj).1
  exact fin _ _ _ (by omega) (j3 _ _ jb (by omega) (g5 _ _ _ (k4 _ _ ja (g1 _ _ hj))))
end
end o
namespace o
section
variable {n m : Nat} {st s : List Ob} {K : V → List Ob → Prop} {ix a b : Nat} {us : List (Int × V)} {os : List ((Int × Int) × V)} {x y id : Int} {W H : Nat}
theorem o_New (hK : ∀ s, Ix s (st.length + 2) st.length (st.length + 1) [] [] → Grw st s → K (.ref (st.length + 2) 0) s) : acallF Tryz.prog pl (n + 1) m 17 [] st K := by
  refine acallF_inF Tryz.func17 rfl rfl Tryz.ntmps17 (by simp) ?_
  simp only [↓zP,zV,Nat.reduceAdd,Nat.reduceMul,Nat.reduceLT,Nat.reduceEqDiff,Nat.reduceLeDiff,Int.reduceLE,Int.reduceLT,Int.reduceBNe,Int.reduceBEq,Int.reduceNeg,Int.reduceEq,Int.reduceAdd,Int.reduceGT,Int.reduceGE,reduceCtorEq]
  exact hK _ ⟨get_new _ _ 2, get_new _ _ 0, get_new _ _ 1⟩ (Grw.push _ _)
end
end o
namespace o
def hitB (sb : Int → Bool) (os : List ((Int × Int) × V)) (c : Int × Int) : Bool := match getC c os with
  | some (.sc (.int .i64 i)) => sb i
  | _ => false
section
variable {n m : Nat} {st s : List Ob} {K : V → List Ob → Prop} {ix a b : Nat} {us : List (Int × V)} {os : List ((Int × Int) × V)} {x y id : Int} {W H : Nat} {sb : Int → Bool} {g : FuncId} {caps : List V}
set_option maxHeartbeats 2000000 in
theorem meets_ylG {ps : Array Tmp} {asg body : Code} (hc : frf (Tryz.f50.body.getD .skip) = some (ps, asg, body)) {F : Nat → V} {t3 t5 t6 lid : Nat} {p : Option Code} (q3 : F 3 = .ref t3 0) (q5 : F 5 = .ref t5 0) (q6 : F 6 = .ref t6 0)
    (hgs : g ≠ Tryz.prog.funcs.size) (hint : ∀ c v, getC c os = some v → ∃ i, v = .sc (.int .i64 i))
    (h3 : s[t3]? = some (.cells [.ref ix 0])) (h5 : s[t5]? = some (.cells [.fn (.func g) caps])) (h6 : s[t6]? = some (.cells [.sc (.bool false)])) (hix : s[ix]? = some (.cells [.map a, .map b])) (hb : s[b]? = some (.map (esC os)))
    (hl : s[lid]? = some (.loop .ready p (pl 50) (ofF 60 F) ps.toList asg body))
    (hso : ∀ i s2, (∀ j o, j ≠ lid → s[j]? = some o → s2[j]? = some o) → ∀ K' : V → List Ob → Prop, K' (.sc (.bool (sb i))) s2 → acallF Tryz.prog pl n m g (.sc (.int .i64 i) :: caps) s2 K')
    (hK : hitB sb os (x, y) = false → ∀ s', s'[lid]? = some (.loop .ready none (pl 50) (ofF 60 F) ps.toList asg body) → (∀ j o, j ≠ lid → s[j]? = some o → s'[j]? = some o) → K (.sc (.bool true)) s')
    (hK2 : hitB sb os (x, y) = true → ∀ s', s'[lid]? = some (.loop .done (some .ret) (pl 50) (ofF 60 F) ps.toList asg body) → s'[t6]? = some (.cells [.sc (.bool true)]) → (∀ j o, j ≠ lid → j ≠ t6 → s[j]? = some o → s'[j]? = some o) → K (.sc (.bool false)) s') :
    acallF Tryz.prog pl (n + 1) m Tryz.prog.funcs.size [.yl lid, .agg (cl x y)] s K := by
  simp only [Tryz.f50, Option.getD_some, frf, Option.some.injEq, Prod.mk.injEq] at hc
  obtain ⟨rfl, rfl, rfl⟩ := hc
  have hbl : b ≠ lid := fun he => by subst he; rw [hb] at hl; cases hl
  refine acallF_yl hl rfl ?_
  rw [show (#[22] : Array Tmp).toList = [22] from rfl, aputs_one (by decide)]
  simp only [cl, ↓zP,zV,Nat.reduceAdd,Nat.reduceMul,Nat.reduceLT,Nat.reduceEqDiff,Nat.reduceLeDiff,Int.reduceLE,Int.reduceLT,Int.reduceBNe,Int.reduceBEq,Int.reduceNeg,Int.reduceEq,Int.reduceAdd,Int.reduceGT,Int.reduceGE,reduceCtorEq]
  have g0 := Grw.push s [.cells [.sc (.int .i64 x), .sc (.int .i64 y)]]
  have c6 : (s ++ [Ob.cells [V.sc (.int .i64 x), V.sc (.int .i64 y)]])[s.length]? = some (.cells [V.sc (.int .i64 x), V.sc (.int .i64 y)]) := get_new0 _ _
  refine rdMid_ok (g0 _ _ hl) ?_
  generalize hs1 : (s ++ [Ob.cells [V.sc (.int .i64 x), V.sc (.int .i64 y)]]) = s1 at g0 c6
  have nl : s.length ≠ lid := fun he => by subst he; rw [List.getElem?_eq_none (Nat.le_refl _)] at hl; cases hl
  have lt : lid < s1.length := (List.getElem?_eq_some_iff.1 (g0 _ _ hl)).1
  have nc : ∀ (j : Nat) (c : List V), s[j]? = some (.cells c) → j ≠ lid := fun j c hj he => by subst he; rw [hl] at hj; cases hj
  generalize hs2 : s1.set lid _ = s2
  have k : ∀ j o, j ≠ lid → s1[j]? = some o → s2[j]? = some o := fun j o hj ho => by rw [← hs2, List.getElem?_set_ne (Ne.symm hj)]; exact ho
  have d3 := k _ _ (nc _ _ h3) (g0 _ _ h3)
  have d5 := k _ _ (nc _ _ h5) (g0 _ _ h5)
  have d6' := k _ _ (nc _ _ h6) (g0 _ _ h6)
  have di := k _ _ (nc _ _ hix) (g0 _ _ hix)
  have db := k _ _ hbl (g0 _ _ hb)
  have d6 := k _ _ nl c6
  have look := lk_cell (e := 3) (z := .sc (.int .i64 0)) Tryz.underlying90 (by kernel_rfl) db x y
  have dl : ∀ o, s1.set lid o = s2 → s2[lid]? = some o := fun o ho => by rw [← ho]; exact List.getElem?_set_self lt
  have dl := dl _ hs2
  have ll : lid < s2.length := (List.getElem?_eq_some_iff.1 dl).1
  have fr : ∀ j o, j ≠ lid → s[j]? = some o → s2[j]? = some o := fun j o hj ho => k _ _ hj (g0 _ _ ho)
  cases hq : getC (x, y) os with
  | none =>
    rw [hq] at look
    simp only [q3, d3, di, d6, look, ↓zP,zV,Nat.reduceAdd,Nat.reduceMul,Nat.reduceLT,Nat.reduceEqDiff,Nat.reduceLeDiff,Int.reduceLE,Int.reduceLT,Int.reduceBNe,Int.reduceBEq,Int.reduceNeg,Int.reduceEq,Int.reduceAdd,Int.reduceGT,Int.reduceGE,reduceCtorEq]
    refine rdEnd_normal dl ?_
    refine hK (by simp only [hitB, hq]) _ ?_ ?_
    · rw [List.getElem?_set_self ll]
    · intro j o hjl ho
      rw [List.getElem?_set_ne (Ne.symm hjl)]
      exact fr _ _ hjl ho
  | some v =>
    obtain ⟨i, rfl⟩ := hint _ _ hq
    rw [hq] at look
    simp only [q3, q5, d3, d5, di, d6, look, ↓zP,zV,Nat.reduceAdd,Nat.reduceMul,Nat.reduceLT,Nat.reduceEqDiff,Nat.reduceLeDiff,Int.reduceLE,Int.reduceLT,Int.reduceBNe,Int.reduceBEq,Int.reduceNeg,Int.reduceEq,Int.reduceAdd,Int.reduceGT,Int.reduceGE,reduceCtorEq]
    rw [callK_fn hgs]
    refine hso i s2 fr _ ?_
    cases hi : sb i with
    | false =>
      simp only [↓zP,zV,Nat.reduceAdd,Nat.reduceMul,Nat.reduceLT,Nat.reduceEqDiff,Nat.reduceLeDiff,Int.reduceLE,Int.reduceLT,Int.reduceBNe,Int.reduceBEq,Int.reduceNeg,Int.reduceEq,Int.reduceAdd,Int.reduceGT,Int.reduceGE,reduceCtorEq]
      refine rdEnd_normal dl ?_
      refine hK (by simp only [hitB, hq, hi]) _ ?_ ?_
      · rw [List.getElem?_set_self ll]
      · intro j o hjl ho
        rw [List.getElem?_set_ne (Ne.symm hjl)]
        exact fr _ _ hjl ho
    | true =>
      have l6 : t6 < s2.length := (List.getElem?_eq_some_iff.1 d6').1
      have n6 := nc _ _ h6
      simp only [q6, d6', ↓zP,zV,Nat.reduceAdd,Nat.reduceMul,Nat.reduceLT,Nat.reduceEqDiff,Nat.reduceLeDiff,Int.reduceLE,Int.reduceLT,Int.reduceBNe,Int.reduceBEq,Int.reduceNeg,Int.reduceEq,Int.reduceAdd,Int.reduceGT,Int.reduceGE,reduceCtorEq]
      refine rdEnd_ret (by rw [List.getElem?_set_ne n6]; exact dl) ?_
      refine hK2 (by simp only [hitB, hq, hi]) _ ?_ ?_ ?_
      · rw [List.getElem?_set_self (by rw [List.length_set]; exact ll)]
      · rw [List.getElem?_set_ne (Ne.symm n6), List.getElem?_set_self l6]
      · intro j o hjl hj6 ho
        rw [List.getElem?_set_ne (Ne.symm hjl), List.getElem?_set_ne (Ne.symm hj6)]
        exact fr _ _ hjl ho
def anyB (sb : Int → Bool) (os : List ((Int × Int) × V)) (x y : Int) (W k : Nat) : Bool := (List.range k).any fun q => hitB sb os (x + (q % W : Nat), y + (q / W : Nat))
theorem anyB_succ (k : Nat) : anyB sb os x y W (k + 1) = (anyB sb os x y W k || hitB sb os (x + (k % W : Nat), y + (k / W : Nat))) := by
  simp only [anyB, List.range_succ, List.any_append, List.any_cons, List.any_nil, Bool.or_false]
theorem anyB_le {k k' : Nat} (h : k ≤ k') (ha : anyB sb os x y W k = true) : anyB sb os x y W k' = true := by
  simp only [anyB, List.any_eq_true, List.mem_range] at ha ⊢
  obtain ⟨q, h1, h2⟩ := ha
  exact ⟨q, by omega, h2⟩
set_option maxHeartbeats 1000000 in
theorem meets_loopG {ps : Array Tmp} {asg body : Code} (hc : frf (Tryz.f50.body.getD .skip) = some (ps, asg, body)) {F : Nat → V} {t3 t5 t6 lid rb : Nat} (q3 : F 3 = .ref t3 0) (q5 : F 5 = .ref t5 0) (q6 : F 6 = .ref t6 0)
    (hgs : g ≠ Tryz.prog.funcs.size) (hint : ∀ c v, getC c os = some v → ∃ i, v = .sc (.int .i64 i))
    (hmay : mayB x y W H = true) (hm : W < m) (hm2 : H < m)
    (h3 : s[t3]? = some (.cells [.ref ix 0])) (h5 : s[t5]? = some (.cells [.fn (.func g) caps])) (h6 : s[t6]? = some (.cells [.sc (.bool false)])) (hix : s[ix]? = some (.cells [.map a, .map b])) (hb : s[b]? = some (.map (esC os))) (hr : s[rb]? = some (.cells (rc x y W H)))
    (hl : s[lid]? = some (.loop .ready none (pl 50) (ofF 60 F) ps.toList asg body))
    (hso : ∀ i s2, (∀ j o, j ≠ lid → s[j]? = some o → s2[j]? = some o) → ∀ K' : V → List Ob → Prop, K' (.sc (.bool (sb i))) s2 → acallF Tryz.prog pl (n + 2) m g (.sc (.int .i64 i) :: caps) s2 K')
    (hK : anyB sb os x y W (H * W) = false → ∀ s', s'[lid]? = some (.loop .ready none (pl 50) (ofF 60 F) ps.toList asg body) → (∀ j o, j ≠ lid → s[j]? = some o → s'[j]? = some o) → K (.tup []) s')
    (hK2 : anyB sb os x y W (H * W) = true → ∀ s', s'[lid]? = some (.loop .done (some .ret) (pl 50) (ofF 60 F) ps.toList asg body) → s'[t6]? = some (.cells [.sc (.bool true)]) → (∀ j o, j ≠ lid → j ≠ t6 → s[j]? = some o → s'[j]? = some o) → K (.tup []) s') :
    acallF Tryz.prog pl (n + 4) m 57 [.yl lid, .ref rb 0] s K := by
  have nl : ∀ (j : Nat) (c : List V), s[j]? = some (.cells c) → j ≠ lid := fun j c hj he => by subst he; rw [hl] at hj; cases hj
  have hbl : b ≠ lid := fun he => by subst he; rw [hb] at hl; cases hl
  refine c_Cells1 (x := x) (y := y) (W := W) (H := H) (I := fun k s' => anyB sb os x y W k = false ∧ s'[lid]? = some (.loop .ready none (pl 50) (ofF 60 F) ps.toList asg body) ∧ (∀ j o, j ≠ lid → s[j]? = some o → s'[j]? = some o))
    (J := fun s' => anyB sb os x y W (H * W) = true ∧ s'[lid]? = some (.loop .done (some .ret) (pl 50) (ofF 60 F) ps.toList asg body) ∧ s'[t6]? = some (.cells [.sc (.bool true)]) ∧ (∀ j o, j ≠ lid → j ≠ t6 → s[j]? = some o → s'[j]? = some o))
    hmay hm hm2 (fun k s' h => h.2.2 _ _ (nl _ _ hr) hr) (fun k s1 s2 h g => ⟨h.1, g _ _ h.2.1, fun j o h1 h3 => g _ _ (h.2.2 j o h1 h3)⟩) ⟨rfl, hl, fun j o _ h => h⟩ ?_ (fun s' h => hK h.1 s' h.2.1 h.2.2) (fun s' h => hK2 h.1 s' h.2.1 h.2.2.1 h.2.2.2)
  intro j i s' K' hj hi ⟨e1, e2, e3⟩ hK1 hK3
  have hmod : (j * W + i) % W = i := by rw [Nat.mul_comm, Nat.mul_add_mod, Nat.mod_eq_of_lt hi]
  have hdiv : (j * W + i) / W = j := by rw [Nat.mul_comm, Nat.mul_add_div (by omega), Nat.div_eq_of_lt hi, Nat.add_zero]
  refine meets_ylG (n := n + 2) (sb := sb) hc q3 q5 q6 hgs hint (e3 _ _ (nl _ _ h3) h3) (e3 _ _ (nl _ _ h5) h5) (e3 _ _ (nl _ _ h6) h6) (e3 _ _ (nl _ _ hix) hix) (e3 _ _ hbl hb) e2 (fun i s2 h => hso i s2 fun j o hj ho => h j o hj (e3 j o hj ho)) ?_ ?_
  · intro hh s2 k2 k3
    refine hK1 _ ⟨?_, k2, fun j o h2 h3 => k3 j o h2 (e3 j o h2 h3)⟩
    rw [anyB_succ, e1, hmod, hdiv, hh]
    rfl
  · intro hh s2 k2 k4 k3
    refine hK3 _ ⟨anyB_le (k := j * W + i + 1) ?_ (by rw [anyB_succ, hmod, hdiv, hh, Bool.or_true]), k2, k4, fun j o h2 h4 h3 => k3 j o h2 h4 (e3 j o h2 h3)⟩
    have := Nat.mul_le_mul_right W (show j + 1 ≤ H from hj)
    rw [Nat.add_mul, Nat.one_mul] at this
    omega
set_option maxHeartbeats 1000000 in
theorem o_meets (hgs : g ≠ Tryz.prog.funcs.size) (hint : ∀ c v, getC c os = some v → ∃ i, v = .sc (.int .i64 i)) (hi : Ix st ix a b us os) (hsm : W * H ≤ 64) (hmay : mayB x y W H = true) (hm : W < m) (hm2 : H < m)
    (hso : ∀ i s2, Grw st s2 → ∀ K' : V → List Ob → Prop, K' (.sc (.bool (sb i))) s2 → acallF Tryz.prog pl (n + 2) m g (.sc (.int .i64 i) :: caps) s2 K')
    (hK : ∀ s, Grw st s → K (.sc (.bool (anyB sb os x y W (H * W)))) s) : acallF Tryz.prog pl (n + 5) m 50 [.ref ix 0, .agg (rc x y W H), .fn (.func g) caps] st K := by
  refine acallF_inF Tryz.func50 rfl rfl Tryz.ntmps50 (by simp) ?_
  have g1 := Grw.push st [Ob.cells [V.ref ix 0], Ob.cells (rc x y W H), Ob.cells [.fn (.func g) caps], Ob.cells [.sc (.bool false)]]
  have c0 : (st ++ [Ob.cells [V.ref ix 0], Ob.cells (rc x y W H), Ob.cells [.fn (.func g) caps], Ob.cells [.sc (.bool false)]])[st.length]? = some (.cells [V.ref ix 0]) := get_new0 _ _
  have c1 : (st ++ [Ob.cells [V.ref ix 0], Ob.cells (rc x y W H), Ob.cells [.fn (.func g) caps], Ob.cells [.sc (.bool false)]])[st.length + 1]? = some (.cells (rc x y W H)) := get_new _ _ 1
  have c2 : (st ++ [Ob.cells [V.ref ix 0], Ob.cells (rc x y W H), Ob.cells [.fn (.func g) caps], Ob.cells [.sc (.bool false)]])[st.length + 2]? = some (.cells [.fn (.func g) caps]) := get_new _ _ 2
  have c3 : (st ++ [Ob.cells [V.ref ix 0], Ob.cells (rc x y W H), Ob.cells [.fn (.func g) caps], Ob.cells [.sc (.bool false)]])[st.length + 3]? = some (.cells [.sc (.bool false)]) := get_new _ _ 3
  have hi1 := hi.grw g1
  have i1 := hi1.ix
  have e1 : IntKind.i64.wrap ((W : Int) * H) = ((W * H : Nat) : Int) := by rw [show (W : Int) * H = ((W * H : Nat) : Int) from (Int.natCast_mul _ _).symm, IntWalk.i64_in _ (by omega)]
  have d1 : decide (((W * H : Nat) : Int) ≤ 64) = true := decide_eq_true (by omega)
  simp only [rc] at c0 c1 c2 c3 g1 i1 hi1
  simp only [rc, c0, c1, c3, i1, e1, d1, ↓zP,zV,Nat.reduceAdd,Nat.reduceMul,Nat.reduceLT,Nat.reduceEqDiff,Nat.reduceLeDiff,Int.reduceLE,Int.reduceLT,Int.reduceBNe,Int.reduceBEq,Int.reduceNeg,Int.reduceEq,Int.reduceAdd,Int.reduceGT,Int.reduceGE,reduceCtorEq]
  refine c_Cells ?_
  generalize hs3 : (st ++ [Ob.cells [V.ref ix 0], Ob.cells [V.sc (.int .i64 x), V.sc (.int .i64 y), V.sc (.int .i64 W), V.sc (.int .i64 H)], Ob.cells [.fn (.func g) caps], Ob.cells [.sc (.bool false)]]) = s3 at c0 c1 c2 c3 g1 i1 hi1
  simp only [↓zP,zV,Nat.reduceAdd,Nat.reduceMul,Nat.reduceLT,Nat.reduceEqDiff,Nat.reduceLeDiff,Int.reduceLE,Int.reduceLT,Int.reduceBNe,Int.reduceBEq,Int.reduceNeg,Int.reduceEq,Int.reduceAdd,Int.reduceGT,Int.reduceGE,reduceCtorEq]
  have lt3 : st.length + 4 = s3.length := by rw [← hs3]; simp
  have g5 := fun X => Grw.push s3 X
  have hold : ∀ s', (∀ j o, j ≠ s3.length + 1 → j ≠ st.length + 3 → ∀ X, (s3 ++ X)[j]? = some o → s'[j]? = some o) → Grw st s' := fun s' h j o hj => by
    have lj : j < st.length := (List.getElem?_eq_some_iff.1 hj).1
    exact h j o (by omega) (by omega) [] (by rw [List.append_nil]; exact g1 _ _ hj)
  have fin : ∀ (s' : List Ob) (z : Ob) j o, j ≠ s3.length + 1 → s'[j]? = some o → (s'.set (s3.length + 1) z)[j]? = some o := fun s' z j o hj ho => by rw [List.getElem?_set_ne (Ne.symm hj)]; exact ho
  refine meets_loopG (n := n) (sb := sb) (g := g) (caps := caps) rfl (t3 := st.length) (t5 := st.length + 2) (t6 := st.length + 3) (ix := ix) (a := a) (b := b) (os := os) (by simp only [zF,Nat.reduceEqDiff,Nat.reduceLT]) (by simp only [zF,Nat.reduceEqDiff,Nat.reduceLT]) (by simp only [zF,Nat.reduceEqDiff,Nat.reduceLT]) hgs hint hmay hm hm2 (g5 _ _ _ c0) (g5 _ _ _ c2) (g5 _ _ _ c3) (g5 _ _ _ i1) (g5 _ _ _ hi1.os) (get_new0 _ _) (get_new _ _ 1) ?_ ?_ ?_
  · intro i s2 h
    exact hso i s2 fun j o hj => by
      have lj : j < st.length := (List.getElem?_eq_some_iff.1 hj).1
      exact h j o (by omega) (g5 _ _ _ (g1 _ _ hj))
  · intro ha s' j2 j3
    refine rfEnd_normal j2 (by decide) ?_
    generalize hs6 : s'.set (s3.length + 1) _ = s6
    have c6 : s6[st.length + 3]? = some (.cells [.sc (.bool false)]) := by rw [← hs6]; exact fin _ _ _ _ (by omega) (j3 _ _ (by omega) (g5 _ _ _ c3))
    have l6 : st.length + 3 < s6.length := (List.getElem?_eq_some_iff.1 c6).1
    have c7 : ∀ o, (s6.set (st.length + 3) o)[st.length + 3]? = some o := fun o => List.getElem?_set_self l6
    rw [ha] at hK
    simp only [c6, c7, ↓zP,zV,Nat.reduceAdd,Nat.reduceMul,Nat.reduceLT,Nat.reduceEqDiff,Nat.reduceLeDiff,Int.reduceLE,Int.reduceLT,Int.reduceBNe,Int.reduceBEq,Int.reduceNeg,Int.reduceEq,Int.reduceAdd,Int.reduceGT,Int.reduceGE,reduceCtorEq]
    refine hK _ ?_
    intro j o hj
    have lj : j < st.length := (List.getElem?_eq_some_iff.1 hj).1
    rw [List.getElem?_set_ne (by omega), ← hs6]
    exact fin _ _ _ _ (by omega) (j3 _ _ (by omega) (g5 _ _ _ (g1 _ _ hj)))
  · intro ha s' j2 j4 j3
    refine rfEnd_ret j2 (by decide) ?_
    generalize hs6 : s'.set (s3.length + 1) _ = s6
    have c6 : s6[st.length + 3]? = some (.cells [.sc (.bool true)]) := by rw [← hs6]; exact fin _ _ _ _ (by omega) j4
    rw [ha] at hK
    simp only [c6, ↓zP,zV,Nat.reduceAdd,Nat.reduceMul,Nat.reduceLT,Nat.reduceEqDiff,Nat.reduceLeDiff,Int.reduceLE,Int.reduceLT,Int.reduceBNe,Int.reduceBEq,Int.reduceNeg,Int.reduceEq,Int.reduceAdd,Int.reduceGT,Int.reduceGE,reduceCtorEq]
    refine hK _ ?_
    intro j o hj
    have lj : j < st.length := (List.getElem?_eq_some_iff.1 hj).1
    rw [← hs6]
    exact fin _ _ _ _ (by omega) (j3 _ _ (by omega) (by omega) (g5 _ _ _ (g1 _ _ hj)))
end
end o
namespace o
section
variable {n m : Nat} {st : List Ob} {K : V → List Ob → Prop} {x y w h x2 y2 w2 h2 : Int}
set_option maxHeartbeats 1000000 in
theorem r_meet (hK : ∀ s, Grw st s → K (.sc (.bool (meetB x y w h x2 y2 w2 h2))) s) : acallF Tryz.prog pl (n + 5) m 99 [.agg (rc x y w h), .agg (rc x2 y2 w2 h2)] st K := by
  refine acallF_inF Tryz.func99 rfl rfl Tryz.ntmps99 (by simp) ?_
  have g0 := Grw.push st [.cells (rc x y w h), .cells (rc x2 y2 w2 h2)]
  have x0 : (st ++ [Ob.cells (rc x y w h), .cells (rc x2 y2 w2 h2)])[st.length]? = some (.cells (rc x y w h)) := get_new _ _ 0
  have x0' : (st ++ [Ob.cells (rc x y w h), .cells (rc x2 y2 w2 h2)])[st.length + 1]? = some (.cells (rc x2 y2 w2 h2)) := get_new _ _ 1
  simp only [rc] at g0 x0 x0'
  simp only [rc, x0, x0', ↓zP,zV,Nat.reduceAdd,Nat.reduceMul,Nat.reduceLT,Nat.reduceEqDiff,Nat.reduceLeDiff,Int.reduceLE,Int.reduceLT,Int.reduceBNe,Int.reduceBEq,Int.reduceNeg,Int.reduceEq,Int.reduceAdd,Int.reduceGT,Int.reduceGE,reduceCtorEq]
  refine r_Meet (n := n) fun a b c d s1 j1 => ?_
  simp only [rc, ↓zP,zV,Nat.reduceAdd,Nat.reduceMul,Nat.reduceLT,Nat.reduceEqDiff,Nat.reduceLeDiff,Int.reduceLE,Int.reduceLT,Int.reduceBNe,Int.reduceBEq,Int.reduceNeg,Int.reduceEq,Int.reduceAdd,Int.reduceGT,Int.reduceGE,reduceCtorEq]
  exact hK _ ((g0.trans j1).trans (.push _ _))
end
end o
namespace o
structure U where
  id : Int
  x : Int
  y : Int
  w : Int
  h : Int
def U.v (u : U) : List V := .sc (.int .i64 u.id) :: rc u.x u.y u.w u.h
structure Ri (s : List Ob) (y : Nat) (sv : V) (L : List U) : Prop where
  at_ : s[y]? = some (.cells [sv])
  rd : Cut Tryz.prog s 134 sv (L.flatMap U.v) L.length
def placeI (id : Int) : List U → Nat → Int
  | [], _ => -1
  | u :: L, j => if u.id == id then j else placeI id L (j + 1)
def meetsR (x y w h : Int) (u : U) : Bool := meetB u.x u.y u.w u.h x y w h
section
variable {n m : Nat} {st s : List Ob} {K : V → List Ob → Prop} {x y w h id : Int} {sv : V} {L : List U} {iy : Nat}
theorem Ri.grw (h : Ri st iy sv L) (k : Grw st s) : Ri s iy sv L := ⟨k _ _ h.at_, h.rd.grw k⟩
theorem u_id (hv : Rd Tryz.prog s 134 sv (L.flatMap U.v) L.length) {i : Nat} (hi : i < L.length) : afa Tryz.prog s 134 0 (ixp 5 sv i 0) = some (ixp 5 sv i 0, s) ∧ ald Tryz.prog s 3 (ixp 5 sv i 0) = some (.sc (.int .i64 L[i].id), s) := by
  refine ⟨afa_ix hv (i := 0) (off := 0) (k := 1) (ft := 3) (by kernel_rfl) (by omega) i 0, ?_⟩
  rw [ald_ix hv sz134 sz3 (by omega) hi (by omega)]
  simp only [aload, ag3, Nat.add_zero]
  rw [flatMap_at (f := U.v) (s := 5) (fun a => rfl) L i hi]
  rfl
theorem u_r (hv : Rd Tryz.prog s 134 sv (L.flatMap U.v) L.length) {i : Nat} (hi : i < L.length) : afa Tryz.prog s 134 1 (ixp 5 sv i 0) = some (ixp 5 sv i 1, s) ∧ ald Tryz.prog s 75 (ixp 5 sv i 1) = some (.agg (rc L[i].x L[i].y L[i].w L[i].h), s) := by
  refine ⟨afa_ix hv (i := 1) (off := 1) (k := 4) (ft := 75) (by kernel_rfl) (by omega) i 0, ?_⟩
  rw [ald_ix hv sz134 sz75 (by omega) hi (by omega)]
  have e : (L.flatMap U.v).drop (i * 5 + 1) = rc L[i].x L[i].y L[i].w L[i].h ++ (L.drop (i + 1)).flatMap U.v := by
    rw [← List.drop_drop, flatMap_at (f := U.v) (s := 5) (fun a => rfl) L i hi]
    rfl
  rw [e]
  simp only [aload, ag75, sz75]
  rw [if_pos (by simp [rc])]
  rfl
set_option maxHeartbeats 1000000 in
theorem r_place (hy : Ri st iy sv L) (hm : L.length < m) (hl : L.length < 1000000) (hK : K (.sc (.int .i64 (placeI id L 0))) st) : acallF Tryz.prog pl (n + 1) m 54 [.ref iy 0, .sc (.int .i64 id)] st K := by
  refine acallF_inF Tryz.func54 rfl rfl Tryz.ntmps54 (by simp) ?_
  have y1 := hy.at_
  have hv := hy.rd.1
  have hal := alen_rd hv Tryz.underlying82
  simp only [↓zP,zV,Nat.reduceAdd,Nat.reduceMul,Nat.reduceLT,Nat.reduceEqDiff,Nat.reduceLeDiff,Int.reduceLE,Int.reduceLT,Int.reduceBNe,Int.reduceBEq,Int.reduceNeg,Int.reduceEq,Int.reduceAdd,Int.reduceGT,Int.reduceGE,reduceCtorEq]
  refine aloop_forF (fun k f s => s = st ∧ ∃ i : Nat, k + i = m ∧ i ≤ L.length ∧ placeI id L 0 = placeI id (L.drop i) i ∧ f 0 = .ref iy 0 ∧ f 1 = .sc (.int .i64 id) ∧ f 5 = .sc (.int .i64 i)) ⟨rfl, 0, by omega, by omega, rfl, by simp only [zF,Nat.reduceEqDiff,Nat.reduceLT], by simp only [zF,Nat.reduceEqDiff,Nat.reduceLT], by simp only [zF,Nat.reduceEqDiff,Nat.reduceLT]; rfl⟩ ?_
  rintro I' hI' k f s ⟨rfl, i, hk, hi, hp, f0, f1, f5⟩
  refine ⟨k - 1, by omega, ?_⟩
  by_cases hil : i < L.length
  · have d : decide ((i : Int) < L.length) = true := decide_eq_true (by omega)
    obtain ⟨p1, p2⟩ := ix_flat (f := U.v) (fun a => rfl) hv Tryz.underlying82 sz134 ag134 (by omega) hil
    have e3 : IntKind.i64.wrap ((i : Int) + 1) = ((i + 1 : Nat) : Int) := by rw [IntWalk.i64_in _ (by omega)]; rfl
    have hd : L.drop i = L[i] :: L.drop (i + 1) := List.drop_eq_getElem_cons hil
    rw [hd] at hp
    simp only [placeI] at hp
    obtain ⟨p3, p4⟩ := u_id hv hil
    cases q : (L[i].id == id)
    · rw [q] at hp
      simp only [f0, f1, f5, y1, hal, d, p1, p3, p4, q, e3, ↓zP,zV,Nat.reduceAdd,Nat.reduceMul,Nat.reduceLT,Nat.reduceEqDiff,Nat.reduceLeDiff,Int.reduceLE,Int.reduceLT,Int.reduceBNe,Int.reduceBEq,Int.reduceNeg,Int.reduceEq,Int.reduceAdd,Int.reduceGT,Int.reduceGE,reduceCtorEq]
      exact hI' _ _ _ ⟨rfl, i + 1, by omega, hil, hp, by simp only [f0, zF,Nat.reduceEqDiff,Nat.reduceLT], by simp only [f1, zF,Nat.reduceEqDiff,Nat.reduceLT], by simp only [zF,Nat.reduceEqDiff,Nat.reduceLT]⟩
    · rw [q] at hp
      simp only [if_true] at hp
      rw [hp] at hK
      simp only [f0, f1, f5, y1, hal, d, p1, p3, p4, q, e3, ↓zP,zV,Nat.reduceAdd,Nat.reduceMul,Nat.reduceLT,Nat.reduceEqDiff,Nat.reduceLeDiff,Int.reduceLE,Int.reduceLT,Int.reduceBNe,Int.reduceBEq,Int.reduceNeg,Int.reduceEq,Int.reduceAdd,Int.reduceGT,Int.reduceGE,reduceCtorEq]
      exact hK
  · have d : decide ((i : Int) < L.length) = false := decide_eq_false (by omega)
    obtain rfl : i = L.length := by omega
    rw [List.drop_length] at hp
    simp only [placeI] at hp
    rw [hp] at hK
    simp only [f0, f1, f5, y1, hal, d, ↓zP,zV,Nat.reduceAdd,Nat.reduceMul,Nat.reduceLT,Nat.reduceEqDiff,Nat.reduceLeDiff,Int.reduceLE,Int.reduceLT,Int.reduceBNe,Int.reduceBEq,Int.reduceNeg,Int.reduceEq,Int.reduceAdd,Int.reduceGT,Int.reduceGE,reduceCtorEq]
    exact hK
set_option maxHeartbeats 1000000 in
theorem r_anybody (hy : Ri st iy sv L) (hm : L.length < m) (hl : L.length < 1000000) (hK : ∀ s, Grw st s → K (.sc (.bool (L.any (meetsR x y w h)))) s) : acallF Tryz.prog pl (n + 6) m 55 [.ref iy 0, .agg (rc x y w h)] st K := by
  refine acallF_inF Tryz.func55 rfl rfl Tryz.ntmps55 (by simp) ?_
  have g0 := Grw.push st [.cells (rc x y w h)]
  have c0 : (st ++ [Ob.cells (rc x y w h)])[st.length]? = some (.cells (rc x y w h)) := get_new _ _ 0
  simp only [rc] at g0 c0
  simp only [rc, ↓zP,zV,Nat.reduceAdd,Nat.reduceMul,Nat.reduceLT,Nat.reduceEqDiff,Nat.reduceLeDiff,Int.reduceLE,Int.reduceLT,Int.reduceBNe,Int.reduceBEq,Int.reduceNeg,Int.reduceEq,Int.reduceAdd,Int.reduceGT,Int.reduceGE,reduceCtorEq]
  refine aloop_forF (fun k f s => ∃ i : Nat, Grw st s ∧ s[st.length]? = some (.cells (rc x y w h)) ∧ k + i = m ∧ i ≤ L.length ∧ L.any (meetsR x y w h) = (L.drop i).any (meetsR x y w h) ∧ f 0 = .ref iy 0 ∧ f 3 = .ref st.length 0 ∧ f 5 = .sc (.int .i64 i)) ⟨0, g0, c0, by omega, by omega, rfl, by simp only [zF,Nat.reduceEqDiff,Nat.reduceLT], by simp only [zF,Nat.reduceEqDiff,Nat.reduceLT], by simp only [zF,Nat.reduceEqDiff,Nat.reduceLT]; rfl⟩ ?_
  rintro I' hI' k f s ⟨i, gs, cs, hk, hi, hp, f0, f3, f5⟩
  refine ⟨k - 1, by omega, ?_⟩
  have hys := hy.grw gs
  have y1 := hys.at_
  have hv := hys.rd.1
  have hal := alen_rd hv Tryz.underlying82
  simp only [rc] at cs
  by_cases hil : i < L.length
  · have d : decide ((i : Int) < L.length) = true := decide_eq_true (by omega)
    obtain ⟨p1, p2⟩ := ix_flat (f := U.v) (fun a => rfl) hv Tryz.underlying82 sz134 ag134 (by omega) hil
    have e3 : IntKind.i64.wrap ((i : Int) + 1) = ((i + 1 : Nat) : Int) := by rw [IntWalk.i64_in _ (by omega)]; rfl
    have hd : L.drop i = L[i] :: L.drop (i + 1) := List.drop_eq_getElem_cons hil
    rw [hd, List.any_cons] at hp
    obtain ⟨p3, p4⟩ := u_r hv hil
    simp only [f0, f3, f5, y1, hal, d, p1, p3, p4, cs, ↓zP,zV,Nat.reduceAdd,Nat.reduceMul,Nat.reduceLT,Nat.reduceEqDiff,Nat.reduceLeDiff,Int.reduceLE,Int.reduceLT,Int.reduceBNe,Int.reduceBEq,Int.reduceNeg,Int.reduceEq,Int.reduceAdd,Int.reduceGT,Int.reduceGE,reduceCtorEq]
    refine r_meet (n := n) fun s2 j2 => ?_
    have cs2 := j2 _ _ cs
    cases q : meetB L[i].x L[i].y L[i].w L[i].h x y w h
    · simp only [meetsR, q, Bool.false_or] at hp
      simp only [f0, f3, f5, e3, ↓zP,zV,Nat.reduceAdd,Nat.reduceMul,Nat.reduceLT,Nat.reduceEqDiff,Nat.reduceLeDiff,Int.reduceLE,Int.reduceLT,Int.reduceBNe,Int.reduceBEq,Int.reduceNeg,Int.reduceEq,Int.reduceAdd,Int.reduceGT,Int.reduceGE,reduceCtorEq]
      exact hI' _ _ _ ⟨i + 1, gs.trans j2, cs2, by omega, hil, hp, by simp only [f0, zF,Nat.reduceEqDiff,Nat.reduceLT], by simp only [f3, zF,Nat.reduceEqDiff,Nat.reduceLT], by simp only [zF,Nat.reduceEqDiff,Nat.reduceLT]⟩
    · simp only [meetsR, q, Bool.true_or] at hp
      simp only [meetsR, hp] at hK
      simp only [↓zP,zV,Nat.reduceAdd,Nat.reduceMul,Nat.reduceLT,Nat.reduceEqDiff,Nat.reduceLeDiff,Int.reduceLE,Int.reduceLT,Int.reduceBNe,Int.reduceBEq,Int.reduceNeg,Int.reduceEq,Int.reduceAdd,Int.reduceGT,Int.reduceGE,reduceCtorEq]
      exact hK _ (gs.trans j2)
  · have d : decide ((i : Int) < L.length) = false := decide_eq_false (by omega)
    obtain rfl : i = L.length := by omega
    rw [List.drop_length] at hp
    rw [hp] at hK
    simp only [f0, f3, f5, y1, hal, d, ↓zP,zV,Nat.reduceAdd,Nat.reduceMul,Nat.reduceLT,Nat.reduceEqDiff,Nat.reduceLeDiff,Int.reduceLE,Int.reduceLT,Int.reduceBNe,Int.reduceBEq,Int.reduceNeg,Int.reduceEq,Int.reduceAdd,Int.reduceGT,Int.reduceGE,reduceCtorEq]
    exact hK _ gs
end
end o
namespace o
def atI' (id : Int) : List U → Nat
  | [] => 0
  | u :: L => if u.id < id then atI' id L + 1 else 0
theorem atI'_le (id : Int) : ∀ L : List U, atI' id L ≤ L.length
  | [] => Nat.le_refl _
  | u :: L => by
    simp only [atI', List.length_cons]
    have := atI'_le id L
    split <;> omega
theorem atI'_lt (id : Int) : ∀ (L : List U) (i : Nat) (h : i < L.length), (∀ j (h : j < i), L[j].id < id) → (L[i].id < id ↔ i < atI' id L)
  | [], i, h, _ => by simp at h
  | u :: L, 0, h, _ => by
    simp only [List.getElem_cons_zero, atI']
    split <;> simp_all
  | u :: L, i + 1, h, k => by
    have h0 := k 0 (by omega)
    simp only [List.getElem_cons_zero] at h0
    simp only [List.getElem_cons_succ, atI', h0, if_true]
    rw [atI'_lt id L i (by simpa using h) fun j hj => by have := k (j + 1) (by omega); simpa using this]
    omega
def insU (u : U) (L : List U) : List U := L.take (atI' u.id L) ++ u :: L.drop (atI' u.id L)
theorem flat_take (L : List U) (k : Nat) : (L.flatMap U.v).take (k * 5) = (L.take k).flatMap U.v := by
  induction L generalizing k with
  | nil => simp
  | cons u L ih =>
    cases k with
    | zero => simp
    | succ k =>
      have := ih k
      simp only [List.flatMap_cons, List.take_succ_cons, U.v, rc, List.cons_append, List.nil_append, Nat.succ_mul, this]
theorem closed_us : ∀ L : List U, closedL (L.flatMap U.v) = true
  | [] => rfl
  | u :: L => by
    have := closed_us L
    simp only [List.flatMap_cons, U.v, rc, List.cons_append, List.nil_append, closedL, closed, Bool.true_and]
    exact this
theorem aslice_grw {P : Program} {s s' : List Ob} {t : TypeId} {v r : V} {lo hi mx : Option V} (k : Grw s s') (h : aslice P s t v lo hi mx = some r) : aslice P s' t v lo hi mx = some r := by
  cases v with
  | sl id off n full gg =>
    rw [aslice_sl] at h ⊢
    split at h
    · split at h
      · rename_i h1 h2
        rw [k _ _ h1]
        simp only [h2]
        exact h
      · cases h
    · cases h
  | tsl xs n nil full => rw [aslice_tsl] at h ⊢; exact h
  | sc x =>
    cases x with
    | string b => rw [aslice_str] at h ⊢; exact h
    | _ => exact h
  | _ => exact h
theorem own_app {P : Program} {s : List Ob} {e t : TypeId} {A zs : List V} {a k : Nat} {o : Ob} {x : V} (ht : P.underlying t = some (.slice e)) {sz by_ : Nat} {z : Value} (hs : szOf P e = some sz) (hb : bytesOf P e = some by_) (hz : zeroOf P e = some z) (h0 : 0 < sz) (hzs : z.cells.size = sz)
    (hx : elems P (s ++ [.row e A a 0 false, o]) e x = some (zs, k)) (hc : closedL zs = true) (hl : zs.length = k * sz) (h1 : (a + k) * by_ ≤ 140737488355328) (h2 : a + k ≤ 9223372036854775807) :
    aappend P (s ++ [.row e A a 0 false, o]) t (.sl s.length 0 a false a) x = some (.sl s.length 0 (a + k) false (a + k), s ++ [.row e (A ++ zs) (a + k) 0 false, o]) := by
  have := append_own (st := s ++ [.row e A a 0 false, o]) (id := s.length) (get_new0 _ _) (Nat.zero_le _) ht hs hb hz h0 hzs hx hc hl h1 h2
  rw [this, M.set_new0]
  rfl
section
variable {n m : Nat} {st s : List Ob} {K : V → List Ob → Prop} {x y w h id : Int} {sv : V} {L : List U} {iy : Nat}
set_option maxHeartbeats 2000000 in
theorem r_Put (hy : Ri st iy sv L) (hm : L.length < m) (hl : L.length < 1000000)
    (h1 : (mayB x y w h = false ∨ w > 4 ∨ h > 4) → ∀ s, Grw st s → K (.sc (.int .i64 1)) s)
    (h8 : mayB x y w h = true → w ≤ 4 → h ≤ 4 → placeI id L 0 ≥ 0 → ∀ s, Grw st s → K (.sc (.int .i64 8)) s)
    (h2 : mayB x y w h = true → w ≤ 4 → h ≤ 4 → placeI id L 0 < 0 → 256 ≤ L.length → ∀ s, Grw st s → K (.sc (.int .i64 2)) s)
    (h6 : mayB x y w h = true → w ≤ 4 → h ≤ 4 → placeI id L 0 < 0 → L.length < 256 → L.any (meetsR x y w h) = true → ∀ s, Grw st s → K (.sc (.int .i64 6)) s)
    (h0 : mayB x y w h = true → w ≤ 4 → h ≤ 4 → placeI id L 0 < 0 → L.length < 256 → L.any (meetsR x y w h) = false → ∀ sv' s, Ri s iy sv' (insU ⟨id, x, y, w, h⟩ L) → (∀ j o, j ≠ iy → st[j]? = some o → s[j]? = some o) → K (.sc (.int .i64 0)) s) :
    acallF Tryz.prog pl (n + 7) m 19 [.ref iy 0, .sc (.int .i64 id), .agg (rc x y w h)] st K := by
  refine acallF_inF Tryz.func19 rfl rfl Tryz.ntmps19 (by simp) ?_
  have g0 := Grw.push st [.cells (rc x y w h)]
  have c0 : (st ++ [Ob.cells (rc x y w h)])[st.length]? = some (.cells (rc x y w h)) := get_new _ _ 0
  simp only [rc] at g0 c0
  simp only [rc, c0, ↓zP,zV,Nat.reduceAdd,Nat.reduceMul,Nat.reduceLT,Nat.reduceEqDiff,Nat.reduceLeDiff,Int.reduceLE,Int.reduceLT,Int.reduceBNe,Int.reduceBEq,Int.reduceNeg,Int.reduceEq,Int.reduceAdd,Int.reduceGT,Int.reduceGE,reduceCtorEq]
  refine r_May (n := n + 3) fun s1 j1 => ?_
  have c1 := j1 _ _ c0
  have g1 := g0.trans j1
  cases e1 : mayB x y w h
  · simp only [c1, ↓zP,zV,Nat.reduceAdd,Nat.reduceMul,Nat.reduceLT,Nat.reduceEqDiff,Nat.reduceLeDiff,Int.reduceLE,Int.reduceLT,Int.reduceBNe,Int.reduceBEq,Int.reduceNeg,Int.reduceEq,Int.reduceAdd,Int.reduceGT,Int.reduceGE,reduceCtorEq]
    exact h1 (.inl e1) _ g1
  cases e2 : decide (w > 4)
  case true =>
    simp only [c1, e2, ↓zP,zV,Nat.reduceAdd,Nat.reduceMul,Nat.reduceLT,Nat.reduceEqDiff,Nat.reduceLeDiff,Int.reduceLE,Int.reduceLT,Int.reduceBNe,Int.reduceBEq,Int.reduceNeg,Int.reduceEq,Int.reduceAdd,Int.reduceGT,Int.reduceGE,reduceCtorEq]
    exact h1 (.inr (.inl (of_decide_eq_true e2))) _ g1
  cases e3 : decide (h > 4)
  case true =>
    simp only [c1, e2, e3, ↓zP,zV,Nat.reduceAdd,Nat.reduceMul,Nat.reduceLT,Nat.reduceEqDiff,Nat.reduceLeDiff,Int.reduceLE,Int.reduceLT,Int.reduceBNe,Int.reduceBEq,Int.reduceNeg,Int.reduceEq,Int.reduceAdd,Int.reduceGT,Int.reduceGE,reduceCtorEq]
    exact h1 (.inr (.inr (of_decide_eq_true e3))) _ g1
  have w4 : w ≤ 4 := by have := of_decide_eq_false e2; omega
  have h4 : h ≤ 4 := by have := of_decide_eq_false e3; omega
  simp only [c1, e2, e3, ↓zP,zV,Nat.reduceAdd,Nat.reduceMul,Nat.reduceLT,Nat.reduceEqDiff,Nat.reduceLeDiff,Int.reduceLE,Int.reduceLT,Int.reduceBNe,Int.reduceBEq,Int.reduceNeg,Int.reduceEq,Int.reduceAdd,Int.reduceGT,Int.reduceGE,reduceCtorEq]
  have hy1 := hy.grw g1
  refine r_place (n := n + 5) hy1 hm hl ?_
  cases e4 : decide (placeI id L 0 ≥ 0)
  case true =>
    simp only [c1, e4, ↓zP,zV,Nat.reduceAdd,Nat.reduceMul,Nat.reduceLT,Nat.reduceEqDiff,Nat.reduceLeDiff,Int.reduceLE,Int.reduceLT,Int.reduceBNe,Int.reduceBEq,Int.reduceNeg,Int.reduceEq,Int.reduceAdd,Int.reduceGT,Int.reduceGE,reduceCtorEq]
    exact h8 e1 w4 h4 (of_decide_eq_true e4) _ g1
  have p4 : placeI id L 0 < 0 := by have := of_decide_eq_false e4; omega
  have y1 := hy1.at_
  have hal := alen_rd hy1.rd.1 Tryz.underlying82
  cases e5 : decide ((L.length : Int) ≥ 256)
  case true =>
    simp only [c1, y1, hal, e4, e5, ↓zP,zV,Nat.reduceAdd,Nat.reduceMul,Nat.reduceLT,Nat.reduceEqDiff,Nat.reduceLeDiff,Int.reduceLE,Int.reduceLT,Int.reduceBNe,Int.reduceBEq,Int.reduceNeg,Int.reduceEq,Int.reduceAdd,Int.reduceGT,Int.reduceGE,reduceCtorEq]
    exact h2 e1 w4 h4 p4 (by have := of_decide_eq_true e5; omega) _ g1
  have p5 : L.length < 256 := by have := of_decide_eq_false e5; omega
  simp only [c1, y1, hal, e4, e5, ↓zP,zV,Nat.reduceAdd,Nat.reduceMul,Nat.reduceLT,Nat.reduceEqDiff,Nat.reduceLeDiff,Int.reduceLE,Int.reduceLT,Int.reduceBNe,Int.reduceBEq,Int.reduceNeg,Int.reduceEq,Int.reduceAdd,Int.reduceGT,Int.reduceGE,reduceCtorEq]
  refine r_anybody (n := n) hy1 hm hl fun s2 j2 => ?_
  have c2 := j2 _ _ c1
  have g2 := g1.trans j2
  cases e6 : L.any (meetsR x y w h)
  case true =>
    simp only [↓zP,zV,Nat.reduceAdd,Nat.reduceMul,Nat.reduceLT,Nat.reduceEqDiff,Nat.reduceLeDiff,Int.reduceLE,Int.reduceLT,Int.reduceBNe,Int.reduceBEq,Int.reduceNeg,Int.reduceEq,Int.reduceAdd,Int.reduceGT,Int.reduceGE,reduceCtorEq]
    exact h6 e1 w4 h4 p4 p5 e6 _ g2
  simp only [↓zP,zV,Nat.reduceAdd,Nat.reduceMul,Nat.reduceLT,Nat.reduceEqDiff,Nat.reduceLeDiff,Int.reduceLE,Int.reduceLT,Int.reduceBNe,Int.reduceBEq,Int.reduceNeg,Int.reduceEq,Int.reduceAdd,Int.reduceGT,Int.reduceGE,reduceCtorEq]
  refine aloop_forF (fun k f s => s = s2 ∧ ∃ i : Nat, k + i = m ∧ i ≤ atI' id L ∧ (∀ j (h : j < L.length), j < i → L[j].id < id) ∧ f 0 = .ref iy 0 ∧ f 1 = .sc (.int .i64 id) ∧ f 5 = .ref st.length 0 ∧ f 7 = .sc (.int .i64 i)) ⟨rfl, 0, by omega, by omega, fun j _ h => by omega, by simp only [zF,Nat.reduceEqDiff,Nat.reduceLT], by simp only [zF,Nat.reduceEqDiff,Nat.reduceLT], by simp only [zF,Nat.reduceEqDiff,Nat.reduceLT], by simp only [zF,Nat.reduceEqDiff,Nat.reduceLT]; rfl⟩ ?_
  rintro I' hI' k f s ⟨rfl, i, hk, hi, hp, f0, f1, f5, f7⟩
  have hle := atI'_le id L
  refine ⟨k - 1, by omega, ?_⟩
  have hy2 := hy1.grw j2
  have y2 := hy2.at_
  have hv := hy2.rd.1
  have hal2 := alen_rd hv Tryz.underlying82
  have e9 : IntKind.i64.wrap ((i : Int) + 1) = ((i + 1 : Nat) : Int) := by rw [IntWalk.i64_in _ (by omega)]; rfl
  have next : ∀ hil : i < L.length, L[i].id < id → i < atI' id L := fun hil h => (atI'_lt id L i hil fun j hj => hp j (by omega) hj).1 h
  have stop : (i = L.length ∨ ∃ hil : i < L.length, ¬ L[i].id < id) → i = atI' id L := by
    rintro (h | ⟨hil, h⟩)
    · omega
    · have := (atI'_lt id L i hil fun j hj => hp j (by omega) hj)
      omega
  have y3 : ∀ X, (s ++ X)[iy]? = some (.cells [sv]) := fun X => Grw.push s X _ _ y2
  have c3 := fun X => Grw.push s X _ _ c2
  obtain ⟨va, ka, na⟩ := slice_start hy2.rd Tryz.underlying82 sz134 (atI'_le id L)
  obtain ⟨vb, kb, nb⟩ := slice_end hy2.rd Tryz.underlying82 sz134 (atI'_le id L)
  have ka' := fun X => aslice_grw (Grw.push s X) ka
  have kb' := fun X => aslice_grw (Grw.push s X) kb
  have a1 := own_app (A := []) (a := 0) (o := Ob.gone) Tryz.underlying82 sz134 by134 ze134 (by omega) rfl (na.1.grw (.push s _)).1 (by rw [flat_take]; exact closed_us _) (na.1.2.2 _ sz134) (by omega) (by omega)
  have a2 := own_app (s := s) (P := Tryz.prog) (A := [] ++ (L.flatMap U.v).take (atI' id L * 5)) (a := 0 + atI' id L) (o := Ob.row 134 (U.v ⟨id, x, y, w, h⟩) 1 0 false) (zs := U.v ⟨id, x, y, w, h⟩) (k := 1) (x := .sl (s.length + 1) 0 1 false 1) Tryz.underlying82 sz134 by134 ze134 (by omega) rfl (by simp only [elems, get_new, sz134]; rfl) rfl rfl (by omega) (by omega)
  have a3 := own_app (s := s) (P := Tryz.prog) (A := (L.flatMap U.v).take (atI' id L * 5) ++ U.v ⟨id, x, y, w, h⟩) (a := atI' id L + 1) (o := Ob.row 134 (U.v ⟨id, x, y, w, h⟩) 1 0 false) Tryz.underlying82 sz134 by134 ze134 (by omega) rfl (nb.1.grw (.push s _)).1 (by rw [flatMap_drop (f := U.v) (s := 5) fun _ => rfl]; exact closed_us _) (nb.1.2.2 _ sz134) (by omega) (by omega)
  simp only [Nat.zero_add, List.nil_append, U.v, rc] at a1 a2 a3
  have hiy : iy < s.length := (List.getElem?_eq_some_iff.1 y2).1
  have so : ∀ X o, (s ++ X).set iy o = s.set iy o ++ X := fun X o => M.set_old hiy X o
  have q1 : ∀ o X, (s.set iy o ++ X)[s.length]? = X[0]? := fun o X => by have := get_new0 (s.set iy o) X; rwa [List.length_set] at this
  have q2 : ∀ o X, (s.set iy o ++ X)[s.length + 1]? = X[1]? := fun o X => by have := get_new (s.set iy o) X 1; rwa [List.length_set] at this
  have last : i = atI' id L → ∀ S, S = s.set iy (Ob.cells [V.sl s.length 0 (atI' id L + 1 + (L.length - atI' id L)) false (atI' id L + 1 + (L.length - atI' id L))]) ++ [Ob.row 134 ((L.flatMap U.v).take (atI' id L * 5) ++ V.sc (.int .i64 id) :: V.sc (.int .i64 x) :: V.sc (.int .i64 y) :: V.sc (.int .i64 w) :: V.sc (.int .i64 h) :: (L.flatMap U.v).drop (atI' id L * 5)) (atI' id L + 1 + (L.length - atI' id L)) 0 false, Ob.row 134 [V.sc (.int .i64 id), V.sc (.int .i64 x), V.sc (.int .i64 y), V.sc (.int .i64 w), V.sc (.int .i64 h)] 1 0 false] → K (.sc (.int .i64 0)) S := by
    rintro rfl S rfl
    have hlen : (insU ⟨id, x, y, w, h⟩ L).length = atI' id L + 1 + (L.length - atI' id L) := by simp only [insU, List.length_append, List.length_take, List.length_cons, List.length_drop]; omega
    have hfl : (insU ⟨id, x, y, w, h⟩ L).flatMap U.v = (L.flatMap U.v).take (atI' id L * 5) ++ V.sc (.int .i64 id) :: V.sc (.int .i64 x) :: V.sc (.int .i64 y) :: V.sc (.int .i64 w) :: V.sc (.int .i64 h) :: (L.flatMap U.v).drop (atI' id L * 5) := by
      simp only [insU, List.flatMap_append, List.flatMap_cons, U.v, rc, List.cons_append, List.nil_append]
      rw [show (L.flatMap U.v).drop (atI' id L * 5) = (L.drop (atI' id L)).flatMap U.v from flatMap_drop (f := U.v) (s := 5) (fun _ => rfl) _ _, flat_take]
    refine h0 e1 w4 h4 p4 p5 e6 (.sl s.length 0 (atI' id L + 1 + (L.length - atI' id L)) false (atI' id L + 1 + (L.length - atI' id L))) _ ⟨?_, ?_⟩ ?_
    · rw [List.getElem?_append_left (by rw [List.length_set]; exact hiy), List.getElem?_set_self hiy]
    · rw [hlen, hfl]
      refine ⟨⟨?_, ⟨fun b hb => (by cases hb), fun hh => by cases hh⟩, fun s' hs' => ?_⟩, .inr ⟨_, _, _, _, rfl⟩, fun hh => by cases hh⟩
      · simp only [elems, q1, sz134, List.getElem?_cons_zero]
        rw [if_pos ⟨trivial, Nat.zero_le _, by omega⟩, Nat.zero_mul, List.drop_zero, ← hfl, ← hlen, ← flatMap_len (f := U.v) (s := 5) (fun _ => rfl), List.take_length]
      · rw [sz134] at hs'
        cases hs'
        rw [← hfl, ← hlen, flatMap_len (f := U.v) (s := 5) (fun _ => rfl)]
    · intro j o hj ho
      have := (g2 _ _ ho)
      have lj : j < s.length := (List.getElem?_eq_some_iff.1 this).1
      rw [List.getElem?_append_left (by rw [List.length_set]; exact lj), List.getElem?_set_ne (Ne.symm hj)]
      exact this
  by_cases hil : i < L.length
  · have d : decide ((i : Int) < L.length) = true := decide_eq_true (by omega)
    obtain ⟨p1, p2⟩ := ix_flat (f := U.v) (fun a => rfl) hv Tryz.underlying82 sz134 ag134 (by omega) hil
    obtain ⟨p3, p4⟩ := u_id hv hil
    cases q : decide (L[i].id < id)
    · obtain rfl := stop (.inr ⟨hil, of_decide_eq_false q⟩)
      simp only [f0, f1, f5, f7, y2, hal2, d, p1, p3, p4, q, y3, c3, ka', kb', a1, a2, a3, so, q1, q2, ↓zP,zV,Nat.reduceAdd,Nat.reduceMul,Nat.reduceLT,Nat.reduceEqDiff,Nat.reduceLeDiff,Int.reduceLE,Int.reduceLT,Int.reduceBNe,Int.reduceBEq,Int.reduceNeg,Int.reduceEq,Int.reduceAdd,Int.reduceGT,Int.reduceGE,reduceCtorEq]
      exact last rfl _ rfl
    · simp only [f0, f1, f5, f7, y2, hal2, d, p1, p3, p4, q, e9, ↓zP,zV,Nat.reduceAdd,Nat.reduceMul,Nat.reduceLT,Nat.reduceEqDiff,Nat.reduceLeDiff,Int.reduceLE,Int.reduceLT,Int.reduceBNe,Int.reduceBEq,Int.reduceNeg,Int.reduceEq,Int.reduceAdd,Int.reduceGT,Int.reduceGE,reduceCtorEq]
      have hn := next hil (of_decide_eq_true q)
      refine hI' _ _ _ ⟨rfl, i + 1, by omega, by omega, fun j h hj => ?_, by simp only [f0, zF,Nat.reduceEqDiff,Nat.reduceLT], by simp only [f1, zF,Nat.reduceEqDiff,Nat.reduceLT], by simp only [f5, zF,Nat.reduceEqDiff,Nat.reduceLT], by simp only [zF,Nat.reduceEqDiff,Nat.reduceLT]⟩
      by_cases hji : j = i
      · subst hji; exact of_decide_eq_true q
      · exact hp j h (by omega)
  · have d : decide ((i : Int) < L.length) = false := decide_eq_false (by omega)
    obtain rfl := stop (.inl (by omega))
    simp only [f0, f1, f5, f7, y2, hal2, d, y3, c3, ka', kb', a1, a2, a3, so, q1, q2, ↓zP,zV,Nat.reduceAdd,Nat.reduceMul,Nat.reduceLT,Nat.reduceEqDiff,Nat.reduceLeDiff,Int.reduceLE,Int.reduceLT,Int.reduceBNe,Int.reduceBEq,Int.reduceNeg,Int.reduceEq,Int.reduceAdd,Int.reduceGT,Int.reduceGE,reduceCtorEq]
    exact last rfl _ rfl
end
end o
namespace o
def Km (s s' : List Ob) : Prop := ∀ (j : Nat) (o : Ob), (∀ es, o ≠ Ob.map es) → s[j]? = some o → s'[j]? = some o
theorem kp_km {a b : Nat} {s s' : List Ob} {x y : List (Value × V)} (h : Kp a b s s') (ha : s[a]? = some (.map x)) (hb : s[b]? = some (.map y)) : Km s s' := fun j o hn hj =>
  h j o (fun he => by subst he; rw [ha] at hj; cases hj; exact hn _ rfl) (fun he => by subst he; rw [hb] at hj; cases hj; exact hn _ rfl) hj
theorem rd_km {P : Program} {st s : List Ob} {e : TypeId} {v : V} {xs : List V} {n : Nat} (h : Rd P st e v xs n) (k : Km st s) : Rd P s e v xs n := by
  rcases h.cases with ⟨nil, full, rfl⟩ | ⟨id, off, full, gg, ys, m, lo, fz, sz, rfl, k1, k2, k3, hxs⟩
  · exact h
  · refine ⟨?_, h.2⟩
    have := h.1
    simp only [elems, k1, k2] at this
    simp only [elems, k _ _ (fun es he => by cases he) k1, k2]
    exact this
theorem cut_km {P : Program} {st s : List Ob} {e : TypeId} {v : V} {xs : List V} {n : Nat} (h : Cut P st e v xs n) (k : Km st s) : Cut P s e v xs n := by
  refine ⟨rd_km h.1 k, ?_, h.2.2⟩
  rcases h.2.1 with ⟨xs, n, nil, f, rfl⟩ | ⟨id, off, n, gg, rfl⟩
  · exact .inl ⟨_, _, _, _, rfl⟩
  · exact .inr ⟨_, _, _, _, rfl⟩
section
variable {n m : Nat} {st s : List Ob} {K : V → List Ob → Prop} {ix a b : Nat} {us : List (Int × V)} {os : List ((Int × Int) × V)} {x y w h id : Int} {W H : Nat} {sv : V} {L : List U} {iy : Nat}
theorem Ri.km (h : Ri st iy sv L) (k : Km st s) : Ri s iy sv L := ⟨k _ _ (fun es he => by cases he) h.at_, cut_km h.rd k⟩
theorem Ix.fr (h : Ix st ix a b us os) (hy : st[iy]? = some (.cells [sv])) (k : ∀ j o, j ≠ iy → st[j]? = some o → s[j]? = some o) : Ix s ix a b us os :=
  ⟨k _ _ (fun he => by have h1 := h.ix; rw [he, hy] at h1; cases h1) h.ix, k _ _ (fun he => by have h1 := h.us; rw [he, hy] at h1; cases h1) h.us, k _ _ (fun he => by have h1 := h.os; rw [he, hy] at h1; cases h1) h.os⟩
theorem o_Find1 (hi : Ix st ix a b us os) (hg : getI id us = some (.agg (rc x y w h))) (hK : ∀ s, Grw st s → K (.tup [.agg (rc x y w h), .sc (.bool true)]) s) : acallF Tryz.prog pl (n + 2) m 22 [.ref ix 0, .sc (.int .i64 id)] st K := by
  refine acallF_inF Tryz.func22 rfl rfl Tryz.ntmps22 (by simp) ?_
  have g1 := fun X => hi.grw (Grw.push st X)
  have i1 := fun X => (g1 X).ix
  have l1 := fun X => lk_int (e := 75) (z := .agg (rc 0 0 0 0)) Tryz.underlying110 (by kernel_rfl) (g1 X).us id
  simp only [hg, rc] at i1 l1
  simp only [rc, ↓zP,zV,Nat.reduceAdd,Nat.reduceMul,Nat.reduceLT,Nat.reduceEqDiff,Nat.reduceLeDiff,Int.reduceLE,Int.reduceLT,Int.reduceBNe,Int.reduceBEq,Int.reduceNeg,Int.reduceEq,Int.reduceAdd,Int.reduceGT,Int.reduceGE,reduceCtorEq]
  refine o_is1 (g1 _) ?_
  simp only [i1, l1, get_new, get_new0, M.set_new0, ↓zP,zV,Nat.reduceAdd,Nat.reduceMul,Nat.reduceLT,Nat.reduceEqDiff,Nat.reduceLeDiff,Int.reduceLE,Int.reduceLT,Int.reduceBNe,Int.reduceBEq,Int.reduceNeg,Int.reduceEq,Int.reduceAdd,Int.reduceGT,Int.reduceGE,reduceCtorEq]
  exact hK _ (Grw.push _ _)
theorem o_Free1 (hint : ∀ c v, getC c os = some v → ∃ i, v = .sc (.int .i64 i)) (hi : Ix st ix a b us os) (hsm : W * H ≤ 64) (hm : W < m) (hm2 : H < m)
    (hK : ∀ s, Grw st s → K (.sc (.bool (mayB x y W H && !anyB (fun i => i != id) os x y W (H * W)))) s) : acallF Tryz.prog pl (n + 6) m 56 [.ref ix 0, .agg (rc x y W H), .sc (.int .i64 id)] st K := by
  refine acallF_inF Tryz.func56 rfl rfl Tryz.ntmps56 (by simp) ?_
  have g1 := fun X => hi.grw (Grw.push st X)
  simp only [rc, ↓zP,zV,Nat.reduceAdd,Nat.reduceMul,Nat.reduceLT,Nat.reduceEqDiff,Nat.reduceLeDiff,Int.reduceLE,Int.reduceLT,Int.reduceBNe,Int.reduceBEq,Int.reduceNeg,Int.reduceEq,Int.reduceAdd,Int.reduceGT,Int.reduceGE,reduceCtorEq]
  refine o_is1 (n := n + 4) (g1 _) ?_
  simp only [get_new, get_new0, ↓zP,zV,Nat.reduceAdd,Nat.reduceMul,Nat.reduceLT,Nat.reduceEqDiff,Nat.reduceLeDiff,Int.reduceLE,Int.reduceLT,Int.reduceBNe,Int.reduceBEq,Int.reduceNeg,Int.reduceEq,Int.reduceAdd,Int.reduceGT,Int.reduceGE,reduceCtorEq]
  refine c_May (n := n + 2) fun s1 j1 => ?_
  have j1' := j1
  have k0 := j1 _ _ (get_new0 _ _)
  have k1 := j1 _ _ (get_new _ _ 1)
  cases hmay : mayB x y W H
  · simp only [hmay, Bool.false_and] at hK
    simp only [↓zP,zV,Nat.reduceAdd,Nat.reduceMul,Nat.reduceLT,Nat.reduceEqDiff,Nat.reduceLeDiff,Int.reduceLE,Int.reduceLT,Int.reduceBNe,Int.reduceBEq,Int.reduceNeg,Int.reduceEq,Int.reduceAdd,Int.reduceGT,Int.reduceGE,reduceCtorEq]
    exact hK _ ((Grw.push _ _).trans j1)
  simp only [k0, k1, ↓zP,zV,Nat.reduceAdd,Nat.reduceMul,Nat.reduceLT,Nat.reduceEqDiff,Nat.reduceLeDiff,Int.reduceLE,Int.reduceLT,Int.reduceBNe,Int.reduceBEq,Int.reduceNeg,Int.reduceEq,Int.reduceAdd,Int.reduceGT,Int.reduceGE,reduceCtorEq]
  refine o_meets (n := n) (sb := fun i => i != id) (by rw [fsz]; decide) hint ((g1 _).grw j1) hsm hmay hm hm2 ?_ fun s2 j2 => ?_
  · intro i s3 j3 K' hK'
    have k2 := j3 _ _ k1
    refine acallF_inF Tryz.func100 rfl rfl Tryz.ntmps100 (by simp) ?_
    simp only [k2, ↓zP,zV,Nat.reduceAdd,Nat.reduceMul,Nat.reduceLT,Nat.reduceEqDiff,Nat.reduceLeDiff,Int.reduceLE,Int.reduceLT,Int.reduceBNe,Int.reduceBEq,Int.reduceNeg,Int.reduceEq,Int.reduceAdd,Int.reduceGT,Int.reduceGE,reduceCtorEq]
    exact hK'
  · simp only [hmay, Bool.true_and] at hK
    simp only [↓zP,zV,Nat.reduceAdd,Nat.reduceMul,Nat.reduceLT,Nat.reduceEqDiff,Nat.reduceLeDiff,Int.reduceLE,Int.reduceLT,Int.reduceBNe,Int.reduceBEq,Int.reduceNeg,Int.reduceEq,Int.reduceAdd,Int.reduceGT,Int.reduceGE,reduceCtorEq]
    exact hK _ (((Grw.push _ _).trans j1).trans j2)
end
end o
end Go.Proofs.YtpdhoicpaonggaaGreat
