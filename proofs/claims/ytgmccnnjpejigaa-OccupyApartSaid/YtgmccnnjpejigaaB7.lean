/- Chapter 5: an index with units: set, met, put. -/
import Derived.Test.YtgmccnnjpejigaaB6
set_option linter.unusedVariables false
set_option linter.unusedSimpArgs false
set_option maxRecDepth 10000
namespace Go.Proofs.Ytgmccnnjpejigaa
open Go Go.M Go.RowKit
attribute [local congr] acallF_cong aloop_cong bcase_cong resK_cong valK_cong wantK_cong callK_cong xputK_cong qputK_cong resM_cong rfK_cong
attribute [local irreducible] seqK blockK loopK nextK bcase resK valK wantK funK putK dputK xputK qputK callK aops aop acode adraw aloop acallF acall invK resM rfK rfEnd rdEnd rdMid around
/-- Cells filled, row by row. -/
def fillC (v : V) (x y : Int) (W : Nat) (os : List ((Int × Int) × V)) : Nat → List ((Int × Int) × V)
  | 0 => os
  | k + 1 => putC (x + (k % W : Nat), y + (k / W : Nat)) v (fillC v x y W os k)
/-- Nothing has turned but two. -/
def Kp (a b : Nat) (s s' : List Ob) : Prop := ∀ j o, j ≠ a → j ≠ b → s[j]? = some o → s'[j]? = some o
section
variable {n m : Nat} {st s : List Ob} {K : V → List Ob → Prop} {ix a b : Nat} {us : List (Int × V)} {os : List ((Int × Int) × V)} {x y id : Int} {W H : Nat}
theorem Ix.nixa (h : Ix st ix a b us os) : ix ≠ a := fun he => by have h1 := h.ix; rw [he, h.us] at h1; cases h1
theorem Ix.nixb (h : Ix st ix a b us os) : ix ≠ b := fun he => by have h1 := h.ix; rw [he, h.os] at h1; cases h1
set_option maxHeartbeats 1000000 in
theorem set_loop {ps : Array Tmp} {asg body : Code} (hc : frf (Try.f60.body.getD .skip) = some (ps, asg, body)) {F : Nat → V} {t3 t4 lid rb : Nat} (q3 : F 3 = .ref t3 0) (q4 : F 4 = .ref t4 0)
    (hmay : mayB x y W H = true) (hm : W < m) (hm2 : H < m)
    (h3 : s[t3]? = some (.cells [.ref ix 0])) (h4 : s[t4]? = some (.cells [.sc (.int .i64 id)])) (hix : s[ix]? = some (.cells [.map a, .map b])) (hb : s[b]? = some (.map (esC os))) (hr : s[rb]? = some (.cells (rc x y W H)))
    (hl : s[lid]? = some (.loop .ready none (pl 60) (ofF 22 F) ps.toList asg body))
    (hK : ∀ s', s'[b]? = some (.map (esC (fillC (.sc (.int .i64 id)) x y W os (H * W)))) → s'[lid]? = some (.loop .ready none (pl 60) (ofF 22 F) ps.toList asg body) → Kp b lid s s' → K (.tup []) s') :
    acallF Try.prog pl (n + 4) m 106 [.yl lid, .ref rb 0] s K := by
  have hbl : b ≠ lid := fun he => by subst he; rw [hb] at hl; cases hl
  have nb : ∀ (j : Nat) (c : List V), s[j]? = some (.cells c) → j ≠ b := fun j c hj he => by subst he; rw [hb] at hj; cases hj
  have nl : ∀ (j : Nat) (c : List V), s[j]? = some (.cells c) → j ≠ lid := fun j c hj he => by subst he; rw [hl] at hj; cases hj
  refine c_Cells1 (x := x) (y := y) (W := W) (H := H) (I := fun k s' => s'[b]? = some (.map (esC (fillC (.sc (.int .i64 id)) x y W os k))) ∧ s'[lid]? = some (.loop .ready none (pl 60) (ofF 22 F) ps.toList asg body) ∧ Kp b lid s s') (J := fun _ => False)
    hmay hm hm2 (fun k s' h => h.2.2 _ _ (nb _ _ hr) (nl _ _ hr) hr) (fun k s1 s2 h g => ⟨g _ _ h.1, g _ _ h.2.1, fun j o h1 h2 h3 => g _ _ (h.2.2 j o h1 h2 h3)⟩) ⟨hb, hl, fun j o _ _ h => h⟩ ?_ (fun s' h => hK s' h.1 h.2.1 h.2.2) (fun s' h => h.elim)
  intro j i s' K' hj hi ⟨e1, e2, e3⟩ hK1 hK2
  refine set_yl (n := n + 2) hc q3 q4 (e3 _ _ (nb _ _ h3) (nl _ _ h3) h3) (e3 _ _ (nb _ _ h4) (nl _ _ h4) h4) (e3 _ _ (nb _ _ hix) (nl _ _ hix) hix) e1 e2 ?_
  intro s2 k1 k2 k3
  refine hK1 _ ⟨?_, k2, fun j o h1 h2 h3 => k3 j o h1 h2 (e3 j o h1 h2 h3)⟩
  rw [k1]
  simp only [fillC]
  rw [show (j * W + i) % W = i by rw [Nat.mul_comm, Nat.mul_add_mod, Nat.mod_eq_of_lt hi], show (j * W + i) / W = j by rw [Nat.mul_comm, Nat.mul_add_div (by omega), Nat.div_eq_of_lt hi, Nat.add_zero]]
set_option maxHeartbeats 1000000 in
theorem o_set (hi : Ix st ix a b us os) (hab : a ≠ b) (hmay : mayB x y W H = true) (hm : W < m) (hm2 : H < m)
    (hK : ∀ s, Ix s ix a b (putI id (.agg (rc x y W H)) us) (fillC (.sc (.int .i64 id)) x y W os (H * W)) → Kp a b st s → K (.tup []) s) : acallF Try.prog pl (n + 5) m 60 [.ref ix 0, .sc (.int .i64 id), .agg (rc x y W H)] st K := by
  refine acallF_inF Try.func60 rfl rfl Try.ntmps60 (by simp) ?_
  have g1 := Grw.push st [Ob.cells [V.ref ix 0], Ob.cells [V.sc (Value.int IntKind.i64 id)], Ob.cells (rc x y W H)]
  have c0 : (st ++ [Ob.cells [V.ref ix 0], Ob.cells [V.sc (Value.int IntKind.i64 id)], Ob.cells (rc x y W H)])[st.length]? = some (.cells [V.ref ix 0]) := get_new0 _ _
  have c1 : (st ++ [Ob.cells [V.ref ix 0], Ob.cells [V.sc (Value.int IntKind.i64 id)], Ob.cells (rc x y W H)])[st.length + 1]? = some (.cells [V.sc (Value.int IntKind.i64 id)]) := get_new _ _ 1
  have c2 : (st ++ [Ob.cells [V.ref ix 0], Ob.cells [V.sc (Value.int IntKind.i64 id)], Ob.cells (rc x y W H)])[st.length + 2]? = some (.cells (rc x y W H)) := get_new _ _ 2
  have hi1 := hi.grw g1
  have i1 := hi1.ix
  have up := up_int (e := 34) (v := .agg (rc x y W H)) Try.underlying59 rfl hi1.us id
  have ha : a < st.length := (List.getElem?_eq_some_iff.1 hi.us).1
  have c2' : ∀ o, ((st ++ [Ob.cells [V.ref ix 0], Ob.cells [V.sc (Value.int IntKind.i64 id)], Ob.cells (rc x y W H)]).set a o)[st.length + 2]? = some (.cells (rc x y W H)) := fun o => by rw [List.getElem?_set_ne (by omega)]; exact c2
  simp only [rc] at c0 c1 c2 g1 i1 up hi1 c2'
  simp only [rc, c0, c1, c2, i1, up, c2', evf,↓evp,evq,evr,fxa0,fxa1,fxa2,fxa3,fxa4,fxu,fxn,fxl,↓fxp,lgc,absL,fitL,flatL,ares,ares1,ofVal,unSc,aload,afill,splice,abound,asI,elems,IntKind.bits,sortT,eqNil,closedL,allByte,patch,pendOK,numA,Value.cells,Value.oneCell',ibin,List.replicate,Option.elim,Nat.reduceAdd,Nat.reduceSub,Nat.reduceMul,Nat.reduceLT,Nat.reduceEqDiff,Nat.reduceLeDiff,Nat.reduceBEq,Int.reduceLE,Int.reduceLT,Int.reduceToNat,Int.reduceBNe,Int.reduceBEq,Int.reduceNeg,Int.reduceEq,Int.reduceNe,Nat.reduceBNe,Int.reduceAdd,Int.reduceSub,Int.reduceMul,Int.reducePow,Nat.reducePow,Int.reduceGT,Int.reduceGE,if_true,if_false,ite_true,ite_false,beq_self_eq_true,BEq.rfl,reduceCtorEq,eq_self,ne_eq,Function.comp_def,beq_iff_eq]
  refine c_Cells ?_
  generalize hs3 : (st ++ [Ob.cells [V.ref ix 0], Ob.cells [V.sc (Value.int IntKind.i64 id)], Ob.cells [V.sc (.int .i64 x), V.sc (.int .i64 y), V.sc (.int .i64 W), V.sc (.int .i64 H)]]) = s3 at c0 c1 c2 g1 i1 up hi1 c2'
  simp only [evf,↓evp,evq,evr,fxa0,fxa1,fxa2,fxa3,fxa4,fxu,fxn,fxl,↓fxp,lgc,absL,fitL,flatL,ares,ares1,ofVal,unSc,aload,afill,splice,abound,asI,elems,IntKind.bits,sortT,eqNil,closedL,allByte,patch,pendOK,numA,Value.cells,Value.oneCell',ibin,List.replicate,Option.elim,Nat.reduceAdd,Nat.reduceSub,Nat.reduceMul,Nat.reduceLT,Nat.reduceEqDiff,Nat.reduceLeDiff,Nat.reduceBEq,Int.reduceLE,Int.reduceLT,Int.reduceToNat,Int.reduceBNe,Int.reduceBEq,Int.reduceNeg,Int.reduceEq,Int.reduceNe,Nat.reduceBNe,Int.reduceAdd,Int.reduceSub,Int.reduceMul,Int.reducePow,Nat.reducePow,Int.reduceGT,Int.reduceGE,if_true,if_false,ite_true,ite_false,beq_self_eq_true,BEq.rfl,reduceCtorEq,eq_self,ne_eq,Function.comp_def,beq_iff_eq]
  generalize hs4 : s3.set a _ = s4
  have lt3 : st.length + 3 = s3.length := by rw [← hs3]; simp
  have k4 : ∀ j o, j ≠ a → s3[j]? = some o → s4[j]? = some o := fun j o hj ho => by rw [← hs4, List.getElem?_set_ne (Ne.symm hj)]; exact ho
  have u4 : s4[a]? = some (.map (esI (putI id (.agg (rc x y W H)) us))) := by rw [← hs4, List.getElem?_set_self (by omega)]; rfl
  have g5 := fun X => Grw.push s4 X
  refine set_loop (n := n) rfl (t3 := st.length) (t4 := st.length + 1) (ix := ix) (a := a) (b := b) (os := os) (id := id) (by simp only [evf, ne_eq, Nat.reduceEqDiff, Nat.reduceLT, not_false_eq_true]) (by simp only [evf, ne_eq, Nat.reduceEqDiff, Nat.reduceLT, not_false_eq_true]) hmay hm hm2 (g5 _ _ _ (k4 _ _ (by omega) c0)) (g5 _ _ _ (k4 _ _ (by omega) c1)) (g5 _ _ _ (k4 _ _ hi.nixa i1)) (g5 _ _ _ (k4 _ _ (Ne.symm hab) hi1.os)) (get_new0 _ _) (get_new _ _ 1) ?_
  intro s' j1 j2 j3
  refine rfEnd_normal j2 (by decide) ?_
  simp only [evf,↓evp,evq,evr,fxa0,fxa1,fxa2,fxa3,fxa4,fxu,fxn,fxl,↓fxp,lgc,absL,fitL,flatL,ares,ares1,ofVal,unSc,aload,afill,splice,abound,asI,elems,IntKind.bits,sortT,eqNil,closedL,allByte,patch,pendOK,numA,Value.cells,Value.oneCell',ibin,List.replicate,Option.elim,Nat.reduceAdd,Nat.reduceSub,Nat.reduceMul,Nat.reduceLT,Nat.reduceEqDiff,Nat.reduceLeDiff,Nat.reduceBEq,Int.reduceLE,Int.reduceLT,Int.reduceToNat,Int.reduceBNe,Int.reduceBEq,Int.reduceNeg,Int.reduceEq,Int.reduceNe,Nat.reduceBNe,Int.reduceAdd,Int.reduceSub,Int.reduceMul,Int.reducePow,Nat.reducePow,Int.reduceGT,Int.reduceGE,if_true,if_false,ite_true,ite_false,beq_self_eq_true,BEq.rfl,reduceCtorEq,eq_self,ne_eq,Function.comp_def,beq_iff_eq]
  have ls : st.length ≤ s4.length := by rw [← hs4, List.length_set, ← hs3]; simp
  have hb : b < st.length := (List.getElem?_eq_some_iff.1 hi.os).1
  have hx : ix < st.length := (List.getElem?_eq_some_iff.1 hi.ix).1
  have fin : ∀ (z : Ob) j o, j ≠ s4.length + 1 → s'[j]? = some o → (s'.set (s4.length + 1) z)[j]? = some o := fun z j o hj ho => by rw [List.getElem?_set_ne (Ne.symm hj)]; exact ho
  refine hK _ ⟨fin _ _ _ (by omega) (j3 _ _ hi.nixb (by omega) (g5 _ _ _ (k4 _ _ hi.nixa i1))), fin _ _ _ (by omega) (j3 _ _ hab (by omega) (g5 _ _ _ u4)), fin _ _ _ (by omega) j1⟩ ?_
  intro j o ja jb hj
  have lj : j < st.length := (List.getElem?_eq_some_iff.1 hj).1
  exact fin _ _ _ (by omega) (j3 _ _ jb (by omega) (g5 _ _ _ (k4 _ _ ja (g1 _ _ hj))))
end
end Go.Proofs.Ytgmccnnjpejigaa
