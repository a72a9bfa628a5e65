/- Chapter 4: lists of one's own that grow; a building is placed. -/
import Derived.Test.YtndjhaeeldegfaaG6
set_option linter.unusedVariables false
set_option linter.unusedSimpArgs false
set_option maxRecDepth 10000
namespace Go.Proofs.Ytndjhaeeldegfaa
open Go Go.M Go.RowKit
attribute [local congr] acallF_cong aloop_cong bcase_cong resK_cong valK_cong wantK_cong callK_cong xputK_cong qputK_cong resM_cong rfK_cong
attribute [local irreducible] seqK blockK loopK nextK bcase resK valK wantK funK putK dputK xputK qputK callK aops aop acode adraw aloop acallF acall invK resM rfK rfEnd rdEnd rdMid around
def rowOf : V → Option Nat
  | .sl id _ _ _ _ => some id
  | _ => none
/-- A list of one's own, whole: none, or a row. -/
def Gl (s : List Ob) (e : TypeId) (v : V) (xs : List V) (n : Nat) : Prop :=
  (v = .tsl [] 0 true true ∧ xs = [] ∧ n = 0) ∨ ∃ id lo, v = .sl id 0 n false n ∧ s[id]? = some (.row e xs n lo false) ∧ lo ≤ n
theorem Gl.of {s s' : List Ob} {e : TypeId} {v : V} {xs : List V} {n : Nat} (h : Gl s e v xs n) (k : ∀ j o, rowOf v = some j → s[j]? = some o → s'[j]? = some o) : Gl s' e v xs n := by
  rcases h with h | ⟨id, lo, rfl, h1, h2⟩
  · exact .inl h
  · exact .inr ⟨id, lo, rfl, k _ _ rfl h1, h2⟩
theorem Gl.grw {s s' : List Ob} {e : TypeId} {v : V} {xs : List V} {n : Nat} (h : Gl s e v xs n) (k : Grw s s') : Gl s' e v xs n := h.of fun j o _ => k j o
theorem Gl.rd {P : Program} {s : List Ob} {e : TypeId} {v : V} {xs : List V} {n sz : Nat} (h : Gl s e v xs n) (hs : szOf P e = some sz) (hl : xs.length = n * sz) : Rd P s e v xs n := by
  rcases h with ⟨rfl, rfl, rfl⟩ | ⟨id, lo, rfl, h1, h2⟩
  · exact ⟨rfl, ⟨fun b hb => (by cases hb), fun _ => rfl⟩, fun s' hs' => by simp⟩
  · refine ⟨?_, ⟨fun b hb => (by cases hb), fun hh => by cases hh⟩, fun s' hs' => by rw [hs] at hs'; cases hs'; exact hl⟩
    simp only [elems, h1, hs]
    rw [if_pos ⟨trivial, h2, by omega⟩, Nat.zero_mul, List.drop_zero, ← hl, List.take_length]
theorem Gl.cut {P : Program} {s : List Ob} {e : TypeId} {v : V} {xs : List V} {n sz : Nat} (h : Gl s e v xs n) (hs : szOf P e = some sz) (hl : xs.length = n * sz) : Cut P s e v xs n := by
  refine ⟨h.rd hs hl, ?_, ?_⟩
  · rcases h with ⟨rfl, rfl, rfl⟩ | ⟨id, lo, rfl, h1, h2⟩
    · exact .inl ⟨_, _, _, _, rfl⟩
    · exact .inr ⟨_, _, _, _, rfl⟩
  · rcases h with ⟨rfl, rfl, rfl⟩ | ⟨id, lo, rfl, h1, h2⟩
    · exact fun _ => rfl
    · exact fun h => by cases h
theorem Gl.one {s : List Ob} {e : TypeId} {v : V} {xs : List V} {n : Nat} (h : Gl s e v xs n) : M.one v = true ∧ cellsV v = [v] := by
  rcases h with ⟨rfl, rfl, rfl⟩ | ⟨id, lo, rfl, h1, h2⟩ <;> exact ⟨rfl, rfl⟩
/-- One's own row has turned, nothing else. -/
def Tr (v : V) (s s' : List Ob) : Prop := s.length ≤ s'.length ∧ ∀ j o, rowOf v ≠ some j → s[j]? = some o → s'[j]? = some o
theorem gl_app {P : Program} {s : List Ob} {e t : TypeId} {v x : V} {xs zs : List V} {n k : Nat} (h : Gl s e v xs n) (ht : P.underlying t = some (.slice e)) {sz by_ : Nat} {z : Value} (hs : szOf P e = some sz) (hb : bytesOf P e = some by_) (hz : zeroOf P e = some z) (h0 : 0 < sz) (hzs : z.cells.size = sz)
    (hl0 : xs.length = n * sz) (hx : elems P s e x = some (zs, k)) (hc : closedL zs = true) (hl : zs.length = k * sz) (h1 : (n + k) * by_ ≤ 140737488355328) (h2 : n + k ≤ 9223372036854775807) :
    ∃ v' s', aappend P s t v x = some (v', s') ∧ Gl s' e v' (xs ++ zs) (n + k) ∧ Tr v s s' ∧ (∀ j, rowOf v' = some j → rowOf v = some j ∨ s.length ≤ j) := by
  rcases h with ⟨rfl, rfl, rfl⟩ | ⟨id, lo, rfl, e1, e2⟩
  · have hr : Rd P s e (.tsl [] 0 true true) [] 0 := ⟨rfl, ⟨fun b hb => (by cases hb), fun _ => rfl⟩, fun s' hs' => by simp⟩
    by_cases hk : k = 0
    · subst hk
      have : zs = [] := by simpa using hl
      subst this
      exact ⟨_, _, append_full0 hr rfl ht hs hb hz h0 hzs hx (by omega) (by omega), .inl ⟨rfl, rfl, rfl⟩, ⟨Nat.le_refl _, fun j o _ h => h⟩, fun j h => .inl h⟩
    · refine ⟨_, _, append_full hr rfl ht hs hb hz h0 hzs hx hc hl h1 h2 (by omega), .inr ⟨_, 0, rfl, get_new0 _ _, Nat.zero_le _⟩, ⟨by simp, fun j o _ h => Grw.push s _ _ _ h⟩, fun j h => .inr ?_⟩
      simp only [rowOf, Option.some.injEq] at h
      omega
  · have hlt := (List.getElem?_eq_some_iff.1 e1).1
    refine ⟨_, _, append_own e1 e2 ht hs hb hz h0 hzs hx hc hl h1 h2, .inr ⟨id, lo, rfl, get_set e1 _, by omega⟩, ⟨by rw [List.length_set]; exact Nat.le_refl _, fun j o hj h => ?_⟩, fun j h => .inl h⟩
    rw [List.getElem?_set_ne (fun he => hj (by rw [he]; rfl))]
    exact h
section
variable {n m : Nat} {st s : List Ob} {K : V → List Ob → Prop} {wd a b : Nat} {WW HH : Int} {tv dv : V} {us : List (Int × V)} {os : List ((Int × Int) × V)} {x y id : Int} {W H : Nat}
set_option maxHeartbeats 2000000 in
/-- A round of 'Place'. -/
theorem place_yl {ps : Array Tmp} {asg body : Code} (hc : frf (Try.f42.body.getD .skip) = some (ps, asg, body)) {F : Nat → V} {t2 t3 lid : Nat} {p : Option Code} {rr : List V} (q2 : F 2 = .ref t2 0) (q3 : F 3 = .ref t3 0)
    (h2 : s[t2]? = some (.cells [.ref wd 0])) (h3 : s[t3]? = some (.cells (.sc (.int .i64 id) :: rr))) (hix : s[wd]? = some (.cells [.sc (.int .i64 WW), .sc (.int .i64 HH), tv, .map a, .map b, dv])) (hb : s[b]? = some (.map (esC os)))
    (hl : s[lid]? = some (.loop .ready p (pl 42) (ofF 43 F) ps.toList asg body))
    (hK : ∀ s', s'[b]? = some (.map (esC (putC (x, y) (.sc (.int .i64 id)) os))) → s'[lid]? = some (.loop .ready none (pl 42) (ofF 43 F) ps.toList asg body) → (∀ j o, j ≠ b → j ≠ lid → s[j]? = some o → s'[j]? = some o) → K (.sc (.bool true)) s') :
    acallF Try.prog pl (n + 1) m Try.prog.funcs.size [.yl lid, .agg (cl x y)] s K := by
  simp only [Try.f42, Option.getD_some, frf, Option.some.injEq, Prod.mk.injEq] at hc
  obtain ⟨rfl, rfl, rfl⟩ := hc
  have hbl : b ≠ lid := fun he => by subst he; rw [hb] at hl; cases hl
  refine acallF_yl hl rfl ?_
  rw [show (#[24] : Array Tmp).toList = [24] from rfl, aputs_one (by decide)]
  simp only [cl, evf,↓evp,evq,evr,fxa0,fxa1,fxa2,fxa3,fxa4,fxu,fxn,fxl,↓fxp,lgc,absL,fitL,flatL,ares,ares1,ofVal,unSc,aload,afill,splice,abound,asI,elems,IntKind.bits,sortT,eqNil,closedL,allByte,patch,pendOK,numA,Value.cells,Value.oneCell',ibin,List.replicate,Option.elim,Nat.reduceAdd,Nat.reduceSub,Nat.reduceMul,Nat.reduceLT,Nat.reduceEqDiff,Nat.reduceLeDiff,Nat.reduceBEq,Int.reduceLE,Int.reduceLT,Int.reduceToNat,Int.reduceBNe,Int.reduceBEq,Int.reduceNeg,Int.reduceEq,Int.reduceNe,Nat.reduceBNe,Int.reduceAdd,Int.reduceSub,Int.reduceMul,Int.reducePow,Nat.reducePow,Int.reduceGT,Int.reduceGE,if_true,if_false,ite_true,ite_false,beq_self_eq_true,BEq.rfl,reduceCtorEq,eq_self,ne_eq,Function.comp_def,beq_iff_eq]
  have g0 := Grw.push s [.cells [.sc (.int .i64 x), .sc (.int .i64 y)]]
  have c6 : (s ++ [Ob.cells [V.sc (.int .i64 x), V.sc (.int .i64 y)]])[s.length]? = some (.cells [V.sc (.int .i64 x), V.sc (.int .i64 y)]) := get_new0 _ _
  refine rdMid_ok (g0 _ _ hl) ?_
  generalize hs1 : (s ++ [Ob.cells [V.sc (.int .i64 x), V.sc (.int .i64 y)]]) = s1 at g0 c6
  have nl : s.length ≠ lid := fun he => by subst he; rw [List.getElem?_eq_none (Nat.le_refl _)] at hl; cases hl
  have lt : lid < s1.length := (List.getElem?_eq_some_iff.1 (g0 _ _ hl)).1
  have nc : ∀ (j : Nat) (c : List V), s[j]? = some (.cells c) → j ≠ lid := fun j c hj he => by subst he; rw [hl] at hj; cases hj
  generalize hs2 : s1.set lid _ = s2
  have k : ∀ j o, j ≠ lid → s1[j]? = some o → s2[j]? = some o := fun j o hj ho => by rw [← hs2, List.getElem?_set_ne (Ne.symm hj)]; exact ho
  have d2 := k _ _ (nc _ _ h2) (g0 _ _ h2)
  have d3 := k _ _ (nc _ _ h3) (g0 _ _ h3)
  have di := k _ _ (nc _ _ hix) (g0 _ _ hix)
  have db := k _ _ hbl (g0 _ _ hb)
  have d6 := k _ _ nl c6
  have up := up_cell (e := 3) (v := .sc (.int .i64 id)) Try.underlying105 rfl db x y
  simp only [q2, q3, d2, d3, di, d6, up, evf,↓evp,evq,evr,fxa0,fxa1,fxa2,fxa3,fxa4,fxu,fxn,fxl,↓fxp,lgc,absL,fitL,flatL,ares,ares1,ofVal,unSc,aload,afill,splice,abound,asI,elems,IntKind.bits,sortT,eqNil,closedL,allByte,patch,pendOK,numA,Value.cells,Value.oneCell',ibin,List.replicate,Option.elim,Nat.reduceAdd,Nat.reduceSub,Nat.reduceMul,Nat.reduceLT,Nat.reduceEqDiff,Nat.reduceLeDiff,Nat.reduceBEq,Int.reduceLE,Int.reduceLT,Int.reduceToNat,Int.reduceBNe,Int.reduceBEq,Int.reduceNeg,Int.reduceEq,Int.reduceNe,Nat.reduceBNe,Int.reduceAdd,Int.reduceSub,Int.reduceMul,Int.reducePow,Nat.reducePow,Int.reduceGT,Int.reduceGE,if_true,if_false,ite_true,ite_false,beq_self_eq_true,BEq.rfl,reduceCtorEq,eq_self,ne_eq,Function.comp_def,beq_iff_eq]
  have dl : ∀ o, s1.set lid o = s2 → s2[lid]? = some o := fun o ho => by rw [← ho]; exact List.getElem?_set_self lt
  have dl := dl _ hs2
  have lb : b < s2.length := (List.getElem?_eq_some_iff.1 db).1
  refine rdEnd_normal (by rw [List.getElem?_set_ne hbl]; exact dl) ?_
  refine hK _ ?_ ?_ ?_
  · rw [List.getElem?_set_ne (Ne.symm hbl), List.getElem?_set_self lb]
  · rw [List.getElem?_set_self (by rw [List.length_set, ← hs2, List.length_set]; exact lt)]
  · intro j o hj hjl ho
    rw [List.getElem?_set_ne (Ne.symm hjl), List.getElem?_set_ne (Ne.symm hj)]
    exact k _ _ hjl (g0 _ _ ho)
set_option maxHeartbeats 1000000 in
theorem place_loop {ps : Array Tmp} {asg body : Code} (hc : frf (Try.f42.body.getD .skip) = some (ps, asg, body)) {F : Nat → V} {t2 t3 lid rb : Nat} {rr : List V} (q2 : F 2 = .ref t2 0) (q3 : F 3 = .ref t3 0)
    (hmay : mayB x y W H = true) (hm : W < m) (hm2 : H < m)
    (h2 : s[t2]? = some (.cells [.ref wd 0])) (h3 : s[t3]? = some (.cells (.sc (.int .i64 id) :: rr))) (hix : s[wd]? = some (.cells [.sc (.int .i64 WW), .sc (.int .i64 HH), tv, .map a, .map b, dv])) (hb : s[b]? = some (.map (esC os))) (hr : s[rb]? = some (.cells (rc x y W H)))
    (hl : s[lid]? = some (.loop .ready none (pl 42) (ofF 43 F) ps.toList asg body))
    (hK : ∀ s', s'[b]? = some (.map (esC (fillC (.sc (.int .i64 id)) x y W os (H * W)))) → s'[lid]? = some (.loop .ready none (pl 42) (ofF 43 F) ps.toList asg body) → Kp b lid s s' → K (.tup []) s') :
    acallF Try.prog pl (n + 4) m 94 [.yl lid, .ref rb 0] s K := by
  have hbl : b ≠ lid := fun he => by subst he; rw [hb] at hl; cases hl
  have nb : ∀ (j : Nat) (c : List V), s[j]? = some (.cells c) → j ≠ b := fun j c hj he => by subst he; rw [hb] at hj; cases hj
  have nl : ∀ (j : Nat) (c : List V), s[j]? = some (.cells c) → j ≠ lid := fun j c hj he => by subst he; rw [hl] at hj; cases hj
  refine c_Cells1 (x := x) (y := y) (W := W) (H := H) (I := fun k s' => s'[b]? = some (.map (esC (fillC (.sc (.int .i64 id)) x y W os k))) ∧ s'[lid]? = some (.loop .ready none (pl 42) (ofF 43 F) ps.toList asg body) ∧ Kp b lid s s') (J := fun _ => False)
    hmay hm hm2 (fun k s' h => h.2.2 _ _ (nb _ _ hr) (nl _ _ hr) hr) (fun k s1 s2 h g => ⟨g _ _ h.1, g _ _ h.2.1, fun j o h1 h2 h3 => g _ _ (h.2.2 j o h1 h2 h3)⟩) ⟨hb, hl, fun j o _ _ h => h⟩ ?_ (fun s' h => hK s' h.1 h.2.1 h.2.2) (fun s' h => h.elim)
  intro j i s' K' hj hi ⟨e1, e2, e3⟩ hK1 hK2
  refine place_yl (n := n + 2) hc q2 q3 (e3 _ _ (nb _ _ h2) (nl _ _ h2) h2) (e3 _ _ (nb _ _ h3) (nl _ _ h3) h3) (e3 _ _ (nb _ _ hix) (nl _ _ hix) hix) e1 e2 ?_
  intro s2 k1 k2 k3
  refine hK1 _ ⟨?_, k2, fun j o h1 h2 h3 => k3 j o h1 h2 (e3 j o h1 h2 h3)⟩
  rw [k1]
  simp only [fillC]
  rw [show (j * W + i) % W = i by rw [Nat.mul_comm, Nat.mul_add_mod, Nat.mod_eq_of_lt hi], show (j * W + i) / W = j by rw [Nat.mul_comm, Nat.mul_add_div (by omega), Nat.div_eq_of_lt hi, Nat.add_zero]]
end
end Go.Proofs.Ytndjhaeeldegfaa
