/- Chapter 4: both worlds; an edit in both, and what it does. -/
import Derived.Test.YtndjhaeeldegfaaG20
set_option linter.unusedVariables false
set_option linter.unusedSimpArgs false
set_option maxRecDepth 10000
namespace Go.Proofs.Ytndjhaeeldegfaa
open Go Go.M Go.RowKit
attribute [local congr] acallF_cong aloop_cong bcase_cong resK_cong valK_cong wantK_cong callK_cong xputK_cong qputK_cong resM_cong rfK_cong
attribute [local irreducible] seqK blockK loopK nextK bcase resK valK wantK funK putK dputK xputK qputK callK aops aop acode adraw aloop acallF acall invK resM rfK rfEnd rdEnd rdMid around
/-- Variables stay, but two. -/
def FC (wd rd : Nat) (s s' : List Ob) : Prop := ∀ j cs, j ≠ wd → j ≠ rd → s[j]? = some (.cells cs) → s'[j]? = some (.cells cs)
theorem Gl.lt {s : List Ob} {e : TypeId} {v : V} {xs : List V} {n : Nat} (h : Gl s e v xs n) : ∀ j, rowOf v = some j → j < s.length := by
  intro j hj
  rcases h with ⟨rfl, _, _⟩ | ⟨id, lo, rfl, h1, _⟩
  · cases hj
  · simp only [rowOf, Option.some.injEq] at hj
    have := (List.getElem?_eq_some_iff.1 h1).1
    omega
/-- Both worlds. -/
structure Bo (s : List Ob) (wd a b rd : Nat) (WW HH : Int) (tv tv2 dv bv ev : V) (T : List Int) (us : List (Int × V)) (os : List ((Int × Int) × V)) (L : List B4) (ds : List R4) : Prop where
  p : Wg s wd a b WW HH tv dv (bs T) us os ds
  r : Wr s rd WW HH tv2 bv ev (bs T) L ds
  rel : Rel WW HH us os L
  srt : Srt L
  ne : wd ≠ rd
  nr : ∀ j, rowOf dv = some j → rowOf ev ≠ some j
section
variable {n m : Nat} {st s : List Ob} {K : V → List Ob → Prop} {wd a b rd : Nat} {WW HH : Int} {tv tv2 dv bv ev dv' bv' ev' : V} {T : List Int} {us us' : List (Int × V)} {os os' : List ((Int × Int) × V)} {L L' : List B4} {ds ds' : List R4} {x y w h id : Int}
theorem Bo.grw (h : Bo st wd a b rd WW HH tv tv2 dv bv ev T us os L ds) (k : Grw st s) : Bo s wd a b rd WW HH tv tv2 dv bv ev T us os L ds := ⟨h.p.grw k, h.r.grw k, h.rel, h.srt, h.ne, h.nr⟩
theorem grw_fc (h : Grw st s) : FC wd rd st s := fun j cs _ _ hj => h _ _ hj
theorem FC.trans {s2 : List Ob} (h : FC wd rd st s) (k : FC wd rd s s2) : FC wd rd st s2 := fun j cs h1 h2 h3 => k _ _ h1 h2 (h _ _ h1 h2 h3)
theorem Wg.fc {ts : List V} (p : Wg st wd a b WW HH tv dv ts us os ds) (k : PK wd a b dv st s) : FC wd rd st s := fun j cs h1 h2 h3 =>
  k.2 _ _ h1 (fun hh => by subst hh; rw [p.wd.us] at h3; cases h3) (fun hh => by subst hh; rw [p.wd.os] at h3; cases h3) (p.dl.ncells h3) h3
theorem Wr.fc {ts : List V} (r : Wr st rd WW HH tv2 bv ev ts L ds) (k : PR rd bv ev st s) : FC wd rd st s := fun j cs h1 h2 h3 =>
  k.2 _ _ h2 (r.bl.ncells h3) (r.el.ncells h3) h3
/-- The document's world behind a turn of the program's. -/
theorem keepR {ts ts' : List V} {ds2 : List R4} {WW2 HH2 : Int} (p : Wg st wd a b WW HH tv dv ts us os ds) (r : Wr st rd WW2 HH2 tv2 bv ev ts' L ds2) (ne : wd ≠ rd) (nr : ∀ j, rowOf dv = some j → rowOf ev ≠ some j) (k : PK wd a b dv st s) : Wr s rd WW2 HH2 tv2 bv ev ts' L ds2 := by
  have hrow : ∀ {e : TypeId} {v : V} {xs : List V} {q : Nat}, Gl st e v xs q → (∀ j, rowOf v = some j → rowOf dv ≠ some j) → Gl s e v xs q := fun hg hn => hg.of fun j o hj ho =>
    k.2 _ _ (fun hh => hg.ncells p.wd.w (by rw [← hh]; exact hj)) (fun hh => hg.nmap p.wd.us (by rw [← hh]; exact hj)) (fun hh => hg.nmap p.wd.os (by rw [← hh]; exact hj)) (hn j hj) ho
  exact ⟨k.2 _ _ (Ne.symm ne) (fun hh => by have := r.w; rw [hh, p.wd.us] at this; cases this) (fun hh => by have := r.w; rw [hh, p.wd.os] at this; cases this) (p.dl.ncells r.w) r.w,
    hrow r.tl (r.tl.nrow p.dl (by decide)), hrow r.bl (r.bl.nrow p.dl (by decide)), hrow r.el (fun j hj hh => nr j hh hj)⟩
/-- The program's world behind a turn of the document's. -/
theorem keepP {ts ts' : List V} {ds2 : List R4} {WW2 HH2 : Int} (p : Wg st wd a b WW HH tv dv ts us os ds) (r : Wr st rd WW2 HH2 tv2 bv ev ts' L ds2) (ne : wd ≠ rd) (nr : ∀ j, rowOf dv = some j → rowOf ev ≠ some j) (k : PR rd bv ev st s) : Wg s wd a b WW HH tv dv ts us os ds := by
  have hrow : ∀ {e : TypeId} {v : V} {xs : List V} {q : Nat}, Gl st e v xs q → (∀ j, rowOf v = some j → rowOf bv ≠ some j) → (∀ j, rowOf v = some j → rowOf ev ≠ some j) → Gl s e v xs q := fun hg h1 h2 => hg.of fun j o hj ho =>
    k.2 _ _ (fun hh => hg.ncells r.w (by rw [← hh]; exact hj)) (h1 j hj) (h2 j hj) ho
  have hmap : ∀ {j : Nat} {es : List (Value × V)}, st[j]? = some (.map es) → s[j]? = some (.map es) := fun hj => k.2 _ _ (fun hh => by subst hh; rw [r.w] at hj; cases hj) (r.bl.nmap hj) (r.el.nmap hj) hj
  exact ⟨⟨k.2 _ _ ne (r.bl.ncells p.wd.w) (r.el.ncells p.wd.w) p.wd.w, hmap p.wd.us, hmap p.wd.os⟩,
    hrow p.tl (p.tl.nrow r.bl (by decide)) (p.tl.nrow r.el (by decide)), hrow p.dl (p.dl.nrow r.bl (by decide)) nr, p.ne, p.ab, p.rcs⟩
end
structure E4 where
  rz : Bool
  u : B4
def E4.v (e : E4) : List V := .sc (.bool e.rz) :: B4.v e.u
/-- What an edit does to a world's maps. -/
def edW (WW HH : Int) (us : List (Int × V)) (os : List ((Int × Int) × V)) (ds : List R4) (e : E4) : List (Int × V) × List ((Int × Int) × V) × List R4 :=
  if e.rz = true then (match getI e.u.id us with
    | some (.agg [.sc (.int _ x), .sc (.int _ y), .sc (.int _ w), .sc (.int _ h)]) => (delI e.u.id us, cutC x y w.toNat os (h.toNat * w.toNat), ds ++ [⟨x, y, w, h⟩])
    | _ => (us, os, ds))
  else if mayE us os WW HH e.u.id e.u.x e.u.y e.u.w e.u.h = 0 then (putI e.u.id (.agg (rc e.u.x e.u.y e.u.w e.u.h)) us, fillC (.sc (.int .i64 e.u.id)) e.u.x e.u.y e.u.w.toNat os (e.u.h.toNat * e.u.w.toNat), ds ++ [⟨e.u.x, e.u.y, e.u.w, e.u.h⟩])
  else (us, os, ds)
/-- All stays but an edit's own places. -/
def FX (wd a b rd : Nat) (dv bv ev : V) (s s' : List Ob) : Prop := ∀ j o, j ≠ wd → j ≠ a → j ≠ b → j ≠ rd → rowOf dv ≠ some j → rowOf bv ≠ some j → rowOf ev ≠ some j → s[j]? = some o → s'[j]? = some o
theorem grw_fx {wd a b rd : Nat} {dv bv ev : V} {s s' : List Ob} (h : Grw s s') : FX wd a b rd dv bv ev s s' := fun j o _ _ _ _ _ _ _ hj => h _ _ hj
/-- Rows are the elder ones or new. -/
def NW (dv bv ev dv' bv' ev' : V) (n : Nat) : Prop := ∀ j, (rowOf dv' = some j ∨ rowOf bv' = some j ∨ rowOf ev' = some j) → (rowOf dv = some j ∨ rowOf bv = some j ∨ rowOf ev = some j) ∨ n ≤ j
theorem NW.refl {dv bv ev : V} {n : Nat} : NW dv bv ev dv bv ev n := fun _ h => .inl h
theorem NW.of {dv bv ev dv' bv' ev' : V} {n : Nat} (h1 : ∀ j, rowOf dv' = some j → rowOf dv = some j ∨ n ≤ j) (h2 : ∀ j, rowOf bv' = some j → rowOf bv = some j ∨ n ≤ j) (h3 : ∀ j, rowOf ev' = some j → rowOf ev = some j ∨ n ≤ j) : NW dv bv ev dv' bv' ev' n := fun j h => by
  rcases h with h | h | h
  · exact (h1 j h).imp_left .inl
  · exact (h2 j h).imp_left fun h => .inr (.inl h)
  · exact (h3 j h).imp_left fun h => .inr (.inr h)
section
variable {n m : Nat} {st s : List Ob} {K : V → List Ob → Prop} {wd a b rd : Nat} {WW HH : Int} {tv tv2 dv bv ev dv' bv' ev' : V} {T : List Int} {us us' : List (Int × V)} {os os' : List ((Int × Int) × V)} {L L' : List B4} {ds ds' : List R4} {x y w h id : Int}
set_option maxHeartbeats 4000000000000 in
theorem l_PlayRe (hb : Bo st wd a b rd WW HH tv tv2 dv bv ev T us os L ds) (hL : L.length ≤ 256) (hdl : ds.length < 4000000000000) (hm : 300 < m)
    (hK : ∀ dv' bv' ev' us' os' L' ds' s, edW WW HH us os ds ⟨true, ⟨id, x, y, w, h⟩⟩ = (us', os', ds') → Bo s wd a b rd WW HH tv tv2 dv' bv' ev' T us' os' L' ds' → L'.length ≤ 256 → ds'.length ≤ ds.length + 1 → FC wd rd st s → st.length ≤ s.length → FX wd a b rd dv bv ev st s → NW dv bv ev dv' bv' ev' st.length → K (.sc (.bool true)) s) :
    acallF Try.prog pl (n + 9) m 47 [.agg [.ref wd 0, .ref rd 0], .agg (.sc (.bool true) :: bd id x y w h)] st K := by
  refine acallF_inF Try.func47 rfl rfl Try.ntmps47 (by simp) ?_
  obtain ⟨s1, hs1⟩ : ∃ s1, s1 = st ++ [Ob.cells [.ref wd 0, .ref rd 0], Ob.cells (.sc (.bool true) :: bd id x y w h)] := ⟨_, rfl⟩
  have g1 : Grw st s1 := by rw [hs1]; exact .push _ _
  have c1 : s1[st.length]? = some (.cells [.ref wd 0, .ref rd 0]) := by rw [hs1]; exact get_new _ _ 0
  have x1 : s1[st.length + 1]? = some (.cells (.sc (.bool true) :: bd id x y w h)) := by rw [hs1]; exact get_new _ _ 1
  have hw0 : wd < st.length := (List.getElem?_eq_some_iff.1 hb.p.wd.w).1
  have hr0 : rd < st.length := (List.getElem?_eq_some_iff.1 hb.r.w).1
  have hb1 := hb.grw g1
  simp only [bd, rc] at hs1 x1
  simp only [bd, rc, evf,↓evp,evq,evr,fxa0,fxa1,fxa2,fxa3,fxa4,fxu,fxn,fxl,↓fxp,lgc,absL,fitL,flatL,ares,ares1,ofVal,unSc,aload,afill,splice,abound,asI,elems,IntKind.bits,sortT,eqNil,closedL,allByte,patch,pendOK,numA,Value.cells,Value.oneCell',ibin,List.replicate,Option.elim,Nat.reduceAdd,Nat.reduceSub,Nat.reduceMul,Nat.reduceLT,Nat.reduceEqDiff,Nat.reduceLeDiff,Nat.reduceBEq,Int.reduceLE,Int.reduceLT,Int.reduceToNat,Int.reduceBNe,Int.reduceBEq,Int.reduceNeg,Int.reduceEq,Int.reduceNe,Nat.reduceBNe,Int.reduceAdd,Int.reduceSub,Int.reduceMul,Int.reducePow,Nat.reducePow,Int.reduceGT,Int.reduceGE,if_true,if_false,ite_true,ite_false,beq_self_eq_true,BEq.rfl,reduceCtorEq,eq_self,ne_eq,Function.comp_def,beq_iff_eq]
  rw [← hs1]
  rcases hb.rel.find id with ⟨f1, f2⟩ | ⟨i, hi, f1, f2, f3⟩
  · refine w_Raze1 (n := n) hb1.p hb1.rel.ni hb1.rel.rcs hdl (by omega) (fun _ s2 g2 => ?_) fun _ _ _ _ hg => by rw [f1] at hg; cases hg
    have g3 := g2.trans (Grw.push s2 [Ob.cells (rc 0 0 0 0)])
    have c3 := g3 _ _ c1
    have x3 := g3 _ _ x1
    have d3 : (s2 ++ [Ob.cells (rc 0 0 0 0)])[s2.length]? = some (.cells (rc 0 0 0 0)) := get_new0 _ _
    have hb3 := hb1.grw g3
    simp only [rc, evf,↓evp,evq,evr,fxa0,fxa1,fxa2,fxa3,fxa4,fxu,fxn,fxl,↓fxp,lgc,absL,fitL,flatL,ares,ares1,ofVal,unSc,aload,afill,splice,abound,asI,elems,IntKind.bits,sortT,eqNil,closedL,allByte,patch,pendOK,numA,Value.cells,Value.oneCell',ibin,List.replicate,Option.elim,Nat.reduceAdd,Nat.reduceSub,Nat.reduceMul,Nat.reduceLT,Nat.reduceEqDiff,Nat.reduceLeDiff,Nat.reduceBEq,Int.reduceLE,Int.reduceLT,Int.reduceToNat,Int.reduceBNe,Int.reduceBEq,Int.reduceNeg,Int.reduceEq,Int.reduceNe,Nat.reduceBNe,Int.reduceAdd,Int.reduceSub,Int.reduceMul,Int.reducePow,Nat.reducePow,Int.reduceGT,Int.reduceGE,if_true,if_false,ite_true,ite_false,beq_self_eq_true,BEq.rfl,reduceCtorEq,eq_self,ne_eq,Function.comp_def,beq_iff_eq]
    simp only [rc] at c3 x3 d3 hb3 g3
    generalize (s2 ++ [Ob.cells _]) = s3 at c3 x3 d3 hb3 g3
    simp only [c3, x3, evf,↓evp,evq,evr,fxa0,fxa1,fxa2,fxa3,fxa4,fxu,fxn,fxl,↓fxp,lgc,absL,fitL,flatL,ares,ares1,ofVal,unSc,aload,afill,splice,abound,asI,elems,IntKind.bits,sortT,eqNil,closedL,allByte,patch,pendOK,numA,Value.cells,Value.oneCell',ibin,List.replicate,Option.elim,Nat.reduceAdd,Nat.reduceSub,Nat.reduceMul,Nat.reduceLT,Nat.reduceEqDiff,Nat.reduceLeDiff,Nat.reduceBEq,Int.reduceLE,Int.reduceLT,Int.reduceToNat,Int.reduceBNe,Int.reduceBEq,Int.reduceNeg,Int.reduceEq,Int.reduceNe,Nat.reduceBNe,Int.reduceAdd,Int.reduceSub,Int.reduceMul,Int.reducePow,Nat.reducePow,Int.reduceGT,Int.reduceGE,if_true,if_false,ite_true,ite_false,beq_self_eq_true,BEq.rfl,reduceCtorEq,eq_self,ne_eq,Function.comp_def,beq_iff_eq]
    refine q_Raze (n := n + 6) hb3.r hm hL hdl (fun _ s4 g4 => ?_) fun i hi hf => by rw [f2] at hf; omega
    have d4 := g4 _ _ d3
    have d5 := fun X => Grw.push s4 X _ _ d4
    have eq : eqR 0 0 0 0 0 0 0 0 = true := rfl
    simp only [rc, d5, get_new, get_new0, M.set_new, M.set_new0, cmp_rect, eq, List.append_eq, evf,↓evp,evq,evr,fxa0,fxa1,fxa2,fxa3,fxa4,fxu,fxn,fxl,↓fxp,lgc,absL,fitL,flatL,ares,ares1,ofVal,unSc,aload,afill,splice,abound,asI,elems,IntKind.bits,sortT,eqNil,closedL,allByte,patch,pendOK,numA,Value.cells,Value.oneCell',ibin,List.replicate,Option.elim,Nat.reduceAdd,Nat.reduceSub,Nat.reduceMul,Nat.reduceLT,Nat.reduceEqDiff,Nat.reduceLeDiff,Nat.reduceBEq,Int.reduceLE,Int.reduceLT,Int.reduceToNat,Int.reduceBNe,Int.reduceBEq,Int.reduceNeg,Int.reduceEq,Int.reduceNe,Nat.reduceBNe,Int.reduceAdd,Int.reduceSub,Int.reduceMul,Int.reducePow,Nat.reducePow,Int.reduceGT,Int.reduceGE,if_true,if_false,ite_true,ite_false,beq_self_eq_true,BEq.rfl,reduceCtorEq,eq_self,ne_eq,Function.comp_def,beq_iff_eq]
    exact hK _ _ _ _ _ _ _ _ (by simp only [edW, if_true, f1]) (hb3.grw (g4.trans (Grw.push s4 _))) hL (by omega) (grw_fc ((g1.trans g3).trans (g4.trans (Grw.push s4 _)))) ((g1.trans g3).trans (g4.trans (Grw.push s4 _))).le (grw_fx ((g1.trans g3).trans (g4.trans (Grw.push s4 _)))) NW.refl
  · refine w_Raze1 (n := n) hb1.p hb1.rel.ni hb1.rel.rcs hdl (by omega) (fun hg => by rw [f3] at hg; cases hg) fun x' y' w' h' hg dv' s2 w2 k2 nw2 => ?_
    rw [f3] at hg
    simp only [rc, Option.some.injEq, V.agg.injEq, List.cons.injEq, V.sc.injEq, Value.int.injEq, true_and, and_true] at hg
    obtain ⟨rfl, rfl, rfl, rfl⟩ := hg
    have fc2 : FC wd rd s1 s2 := hb1.p.fc k2
    have r2 := keepR hb1.p hb1.r hb1.ne hb1.nr k2
    have nr2 : ∀ j, rowOf dv' = some j → rowOf ev ≠ some j := fun j h1 h2 => by
      rcases nw2 j h1 with h3 | h3
      · exact hb.nr j h3 h2
      · have := hb1.r.el.lt j h2; omega
    have g3 := Grw.push s2 [Ob.cells (rc L[i].x L[i].y L[i].w L[i].h)]
    have c3 := g3 _ _ (fc2 _ _ (by omega) (by omega) c1)
    have x3 := g3 _ _ (fc2 _ _ (by omega) (by omega) x1)
    have d3 : (s2 ++ [Ob.cells (rc L[i].x L[i].y L[i].w L[i].h)])[s2.length]? = some (.cells (rc L[i].x L[i].y L[i].w L[i].h)) := get_new0 _ _
    have r3 := r2.grw g3
    have w3 := w2.grw g3
    have fc3 : FC wd rd st _ := ((grw_fc g1).trans fc2).trans (grw_fc g3)
    have le3 := Nat.le_trans (Nat.le_trans g1.le k2.1) g3.le
    simp only [rc, evf,↓evp,evq,evr,fxa0,fxa1,fxa2,fxa3,fxa4,fxu,fxn,fxl,↓fxp,lgc,absL,fitL,flatL,ares,ares1,ofVal,unSc,aload,afill,splice,abound,asI,elems,IntKind.bits,sortT,eqNil,closedL,allByte,patch,pendOK,numA,Value.cells,Value.oneCell',ibin,List.replicate,Option.elim,Nat.reduceAdd,Nat.reduceSub,Nat.reduceMul,Nat.reduceLT,Nat.reduceEqDiff,Nat.reduceLeDiff,Nat.reduceBEq,Int.reduceLE,Int.reduceLT,Int.reduceToNat,Int.reduceBNe,Int.reduceBEq,Int.reduceNeg,Int.reduceEq,Int.reduceNe,Nat.reduceBNe,Int.reduceAdd,Int.reduceSub,Int.reduceMul,Int.reducePow,Nat.reducePow,Int.reduceGT,Int.reduceGE,if_true,if_false,ite_true,ite_false,beq_self_eq_true,BEq.rfl,reduceCtorEq,eq_self,ne_eq,Function.comp_def,beq_iff_eq]
    simp only [rc] at c3 x3 d3 r3 w3 g3 fc3 le3
    generalize hs3 : (s2 ++ [Ob.cells _]) = s3 at c3 x3 d3 r3 w3 g3 fc3 le3
    simp only [c3, x3, evf,↓evp,evq,evr,fxa0,fxa1,fxa2,fxa3,fxa4,fxu,fxn,fxl,↓fxp,lgc,absL,fitL,flatL,ares,ares1,ofVal,unSc,aload,afill,splice,abound,asI,elems,IntKind.bits,sortT,eqNil,closedL,allByte,patch,pendOK,numA,Value.cells,Value.oneCell',ibin,List.replicate,Option.elim,Nat.reduceAdd,Nat.reduceSub,Nat.reduceMul,Nat.reduceLT,Nat.reduceEqDiff,Nat.reduceLeDiff,Nat.reduceBEq,Int.reduceLE,Int.reduceLT,Int.reduceToNat,Int.reduceBNe,Int.reduceBEq,Int.reduceNeg,Int.reduceEq,Int.reduceNe,Nat.reduceBNe,Int.reduceAdd,Int.reduceSub,Int.reduceMul,Int.reducePow,Nat.reducePow,Int.reduceGT,Int.reduceGE,if_true,if_false,ite_true,ite_false,beq_self_eq_true,BEq.rfl,reduceCtorEq,eq_self,ne_eq,Function.comp_def,beq_iff_eq]
    refine q_Raze (n := n + 6) r3 hm hL hdl (fun hf => by rw [f1] at hf; omega) fun i' hi' hf bv' ev' s4 r4 k4 nb4 ne4 => ?_
    have : i' = i := by rw [f1] at hf; omega
    subst this
    have rel4 := hb.rel.take i' hi
    rw [f2] at rel4
    have l23 : s2.length < s3.length := by rw [← hs3]; simp
    have fc4 : FC wd rd s3 s4 := r3.fc k4
    have lw2 : wd < s2.length := (List.getElem?_eq_some_iff.1 w2.wd.w).1
    have lr2 : rd < s2.length := (List.getElem?_eq_some_iff.1 r2.w).1
    have d4 := fc4 _ _ (by omega) (by omega) d3
    have p4 := keepP w3 r3 hb.ne nr2 k4
    have d5 := fun X => Grw.push s4 X _ _ d4
    have eq : eqR L[i'].x L[i'].y L[i'].w L[i'].h L[i'].x L[i'].y L[i'].w L[i'].h = true := eqR_true.2 ⟨rfl, rfl, rfl, rfl⟩
    have nr4 : ∀ j, rowOf dv' = some j → rowOf ev' ≠ some j := fun j h1 h2 => by
      rcases ne4 j h2 with h3 | h3
      · exact nr2 j h1 h3
      · have := w3.dl.lt j h1; omega
    have bo4 : Bo s4 wd a b rd WW HH tv tv2 dv' bv' ev' T _ _ _ _ := ⟨p4, r4, rel4, hb.srt.take i', hb.ne, nr4⟩
    simp only [rc, d5, get_new, get_new0, M.set_new, M.set_new0, cmp_rect, eq, List.append_eq, evf,↓evp,evq,evr,fxa0,fxa1,fxa2,fxa3,fxa4,fxu,fxn,fxl,↓fxp,lgc,absL,fitL,flatL,ares,ares1,ofVal,unSc,aload,afill,splice,abound,asI,elems,IntKind.bits,sortT,eqNil,closedL,allByte,patch,pendOK,numA,Value.cells,Value.oneCell',ibin,List.replicate,Option.elim,Nat.reduceAdd,Nat.reduceSub,Nat.reduceMul,Nat.reduceLT,Nat.reduceEqDiff,Nat.reduceLeDiff,Nat.reduceBEq,Int.reduceLE,Int.reduceLT,Int.reduceToNat,Int.reduceBNe,Int.reduceBEq,Int.reduceNeg,Int.reduceEq,Int.reduceNe,Nat.reduceBNe,Int.reduceAdd,Int.reduceSub,Int.reduceMul,Int.reducePow,Nat.reducePow,Int.reduceGT,Int.reduceGE,if_true,if_false,ite_true,ite_false,beq_self_eq_true,BEq.rfl,reduceCtorEq,eq_self,ne_eq,Function.comp_def,beq_iff_eq]
    refine hK _ _ _ _ _ _ _ _ (by simp only [edW, if_true, f3, rc]) (bo4.grw (Grw.push s4 _)) ?_ (by simp) ((fc3.trans fc4).trans (grw_fc (Grw.push s4 _))) (Nat.le_trans (Nat.le_trans le3 k4.1) (Grw.push s4 _).le) (fun j o h1 h2 h3 h4 h5 h6 h7 hj => Grw.push s4 _ _ _ (k4.2 _ _ h4 h6 h7 (g3 _ _ (k2.2 _ _ h1 h2 h3 h5 (g1 _ _ hj))))) (NW.of (fun j hj => (nw2 j hj).imp_right fun h => Nat.le_trans g1.le h) (fun j hj => .inr (Nat.le_trans le3 (nb4 j hj))) (fun j hj => (ne4 j hj).imp_right fun h => Nat.le_trans le3 h))
    rw [List.length_append, List.length_take, List.length_drop]; omega
set_option maxHeartbeats 4000000000000 in
theorem l_PlayPe (hb : Bo st wd a b rd WW HH tv tv2 dv bv ev T us os L ds) (hL : L.length ≤ 256) (hdl : ds.length < 4000000000000) (hm : 300 < m)
    (hK : ∀ dv' bv' ev' us' os' L' ds' s, edW WW HH us os ds ⟨false, ⟨id, x, y, w, h⟩⟩ = (us', os', ds') → Bo s wd a b rd WW HH tv tv2 dv' bv' ev' T us' os' L' ds' → L'.length ≤ 256 → ds'.length ≤ ds.length + 1 → FC wd rd st s → st.length ≤ s.length → FX wd a b rd dv bv ev st s → NW dv bv ev dv' bv' ev' st.length → K (.sc (.bool true)) s) :
    acallF Try.prog pl (n + 9) m 47 [.agg [.ref wd 0, .ref rd 0], .agg (.sc (.bool false) :: bd id x y w h)] st K := by
  refine acallF_inF Try.func47 rfl rfl Try.ntmps47 (by simp) ?_
  obtain ⟨s1, hs1⟩ : ∃ s1, s1 = st ++ [Ob.cells [.ref wd 0, .ref rd 0], Ob.cells (.sc (.bool false) :: bd id x y w h)] := ⟨_, rfl⟩
  have g1 : Grw st s1 := by rw [hs1]; exact .push _ _
  have c1 : s1[st.length]? = some (.cells [.ref wd 0, .ref rd 0]) := by rw [hs1]; exact get_new _ _ 0
  have x1 : s1[st.length + 1]? = some (.cells (.sc (.bool false) :: bd id x y w h)) := by rw [hs1]; exact get_new _ _ 1
  have hw0 : wd < st.length := (List.getElem?_eq_some_iff.1 hb.p.wd.w).1
  have hr0 : rd < st.length := (List.getElem?_eq_some_iff.1 hb.r.w).1
  have hb1 := hb.grw g1
  simp only [bd, rc] at hs1 x1
  simp only [bd, rc, evf,↓evp,evq,evr,fxa0,fxa1,fxa2,fxa3,fxa4,fxu,fxn,fxl,↓fxp,lgc,absL,fitL,flatL,ares,ares1,ofVal,unSc,aload,afill,splice,abound,asI,elems,IntKind.bits,sortT,eqNil,closedL,allByte,patch,pendOK,numA,Value.cells,Value.oneCell',ibin,List.replicate,Option.elim,Nat.reduceAdd,Nat.reduceSub,Nat.reduceMul,Nat.reduceLT,Nat.reduceEqDiff,Nat.reduceLeDiff,Nat.reduceBEq,Int.reduceLE,Int.reduceLT,Int.reduceToNat,Int.reduceBNe,Int.reduceBEq,Int.reduceNeg,Int.reduceEq,Int.reduceNe,Nat.reduceBNe,Int.reduceAdd,Int.reduceSub,Int.reduceMul,Int.reducePow,Nat.reducePow,Int.reduceGT,Int.reduceGE,if_true,if_false,ite_true,ite_false,beq_self_eq_true,BEq.rfl,reduceCtorEq,eq_self,ne_eq,Function.comp_def,beq_iff_eq]
  rw [← hs1]
  have hul : us.length < 1000000 := by rw [hb.rel.len]; omega
  refine w_May1 (n := n + 1) (id := id) (x := x) (y := y) (w := w) (h := h) hb1.p.wd hb1.p.rcs hul (by omega) fun s2 g2 => ?_
  have c2 := g2 _ _ c1
  have x2 := g2 _ _ x1
  have hb2 := hb1.grw g2
  simp only [c1, x1, c2, x2, g2, evf,↓evp,evq,evr,fxa0,fxa1,fxa2,fxa3,fxa4,fxu,fxn,fxl,↓fxp,lgc,absL,fitL,flatL,ares,ares1,ofVal,unSc,aload,afill,splice,abound,asI,elems,IntKind.bits,sortT,eqNil,closedL,allByte,patch,pendOK,numA,Value.cells,Value.oneCell',ibin,List.replicate,Option.elim,Nat.reduceAdd,Nat.reduceSub,Nat.reduceMul,Nat.reduceLT,Nat.reduceEqDiff,Nat.reduceLeDiff,Nat.reduceBEq,Int.reduceLE,Int.reduceLT,Int.reduceToNat,Int.reduceBNe,Int.reduceBEq,Int.reduceNeg,Int.reduceEq,Int.reduceNe,Nat.reduceBNe,Int.reduceAdd,Int.reduceSub,Int.reduceMul,Int.reducePow,Nat.reducePow,Int.reduceGT,Int.reduceGE,if_true,if_false,ite_true,ite_false,beq_self_eq_true,BEq.rfl,reduceCtorEq,eq_self,ne_eq,Function.comp_def,beq_iff_eq]
  refine q_May (n := n + 1) (id := id) (x := x) (y := y) (w := w) (h := h) hb2.r (by omega) (by omega) fun s3 g3 => ?_
  have c3 := g3 _ _ c2
  have x3 := g3 _ _ x2
  have hb3 := hb2.grw g3
  have hme := hb.rel.may ⟨id, x, y, w, h⟩
  simp only at hme
  have e0 : (mayE us os WW HH id x y w h == mayR L WW HH id x y w h) = true := by rw [hme]; simp
  have g13 := (g1.trans g2).trans g3
  simp only [c1, x1, c2, x2, c3, x3, g2, g3, e0, evf,↓evp,evq,evr,fxa0,fxa1,fxa2,fxa3,fxa4,fxu,fxn,fxl,↓fxp,lgc,absL,fitL,flatL,ares,ares1,ofVal,unSc,aload,afill,splice,abound,asI,elems,IntKind.bits,sortT,eqNil,closedL,allByte,patch,pendOK,numA,Value.cells,Value.oneCell',ibin,List.replicate,Option.elim,Nat.reduceAdd,Nat.reduceSub,Nat.reduceMul,Nat.reduceLT,Nat.reduceEqDiff,Nat.reduceLeDiff,Nat.reduceBEq,Int.reduceLE,Int.reduceLT,Int.reduceToNat,Int.reduceBNe,Int.reduceBEq,Int.reduceNeg,Int.reduceEq,Int.reduceNe,Nat.reduceBNe,Int.reduceAdd,Int.reduceSub,Int.reduceMul,Int.reducePow,Nat.reducePow,Int.reduceGT,Int.reduceGE,if_true,if_false,ite_true,ite_false,beq_self_eq_true,BEq.rfl,reduceCtorEq,eq_self,ne_eq,Function.comp_def,beq_iff_eq]
  refine w_Place1 (n := n) (id := id) (x := x) (y := y) (w := w) (h := h) hb3.p hul hdl (by omega) (fun hne s4 g4 => ?_) fun he dv' s4 w4 k4 nw4 => ?_
  · have c4 := g4 _ _ c3
    have x4 := g4 _ _ x3
    have hb4 := hb3.grw g4
    have hneR : mayR L WW HH id x y w h ≠ 0 := hme ▸ hne
    simp only [c1, x1, c2, x2, c3, x3, c4, x4, g2, g3, g4, e0, evf,↓evp,evq,evr,fxa0,fxa1,fxa2,fxa3,fxa4,fxu,fxn,fxl,↓fxp,lgc,absL,fitL,flatL,ares,ares1,ofVal,unSc,aload,afill,splice,abound,asI,elems,IntKind.bits,sortT,eqNil,closedL,allByte,patch,pendOK,numA,Value.cells,Value.oneCell',ibin,List.replicate,Option.elim,Nat.reduceAdd,Nat.reduceSub,Nat.reduceMul,Nat.reduceLT,Nat.reduceEqDiff,Nat.reduceLeDiff,Nat.reduceBEq,Int.reduceLE,Int.reduceLT,Int.reduceToNat,Int.reduceBNe,Int.reduceBEq,Int.reduceNeg,Int.reduceEq,Int.reduceNe,Nat.reduceBNe,Int.reduceAdd,Int.reduceSub,Int.reduceMul,Int.reducePow,Nat.reducePow,Int.reduceGT,Int.reduceGE,if_true,if_false,ite_true,ite_false,beq_self_eq_true,BEq.rfl,reduceCtorEq,eq_self,ne_eq,Function.comp_def,beq_iff_eq]
    refine q_Place (n := n) (id := id) (x := x) (y := y) (w := w) (h := h) hb4.r hm hL hdl (fun _ s5 g5 => ?_) fun hz => absurd hz hneR
    have c5 := g5 _ _ c4
    have x5 := g5 _ _ x4
    simp only [c1, x1, c2, x2, c3, x3, c4, x4, c5, x5, g2, g3, g4, g5, e0, evf,↓evp,evq,evr,fxa0,fxa1,fxa2,fxa3,fxa4,fxu,fxn,fxl,↓fxp,lgc,absL,fitL,flatL,ares,ares1,ofVal,unSc,aload,afill,splice,abound,asI,elems,IntKind.bits,sortT,eqNil,closedL,allByte,patch,pendOK,numA,Value.cells,Value.oneCell',ibin,List.replicate,Option.elim,Nat.reduceAdd,Nat.reduceSub,Nat.reduceMul,Nat.reduceLT,Nat.reduceEqDiff,Nat.reduceLeDiff,Nat.reduceBEq,Int.reduceLE,Int.reduceLT,Int.reduceToNat,Int.reduceBNe,Int.reduceBEq,Int.reduceNeg,Int.reduceEq,Int.reduceNe,Nat.reduceBNe,Int.reduceAdd,Int.reduceSub,Int.reduceMul,Int.reducePow,Nat.reducePow,Int.reduceGT,Int.reduceGE,if_true,if_false,ite_true,ite_false,beq_self_eq_true,BEq.rfl,reduceCtorEq,eq_self,ne_eq,Function.comp_def,beq_iff_eq]
    exact hK _ _ _ _ _ _ _ _ (by simp only [edW, Bool.false_eq_true, if_false, if_neg hne]) (hb4.grw g5) hL (by omega) (grw_fc ((g13.trans g4).trans g5)) ((g13.trans g4).trans g5).le (grw_fx ((g13.trans g4).trans g5)) NW.refl
  · have heR : mayR L WW HH id x y w h = 0 := hme ▸ he
    have fc4 : FC wd rd s3 s4 := hb3.p.fc k4
    have c4 := fc4 _ _ (by omega) (by omega) c3
    have x4 := fc4 _ _ (by omega) (by omega) x3
    have r4 := keepR hb3.p hb3.r hb.ne hb.nr k4
    have l3 : st.length ≤ s3.length := g13.le
    have nr4 : ∀ j, rowOf dv' = some j → rowOf ev ≠ some j := fun j h1 h2 => by
      rcases nw4 j h1 with h3 | h3
      · exact hb.nr j h3 h2
      · have := hb3.r.el.lt j h2; omega
    have w3w := hb3.p.wd.w
    simp only [c1, x1, c2, x2, c3, x3, c4, x4, g2, g3, e0, evf,↓evp,evq,evr,fxa0,fxa1,fxa2,fxa3,fxa4,fxu,fxn,fxl,↓fxp,lgc,absL,fitL,flatL,ares,ares1,ofVal,unSc,aload,afill,splice,abound,asI,elems,IntKind.bits,sortT,eqNil,closedL,allByte,patch,pendOK,numA,Value.cells,Value.oneCell',ibin,List.replicate,Option.elim,Nat.reduceAdd,Nat.reduceSub,Nat.reduceMul,Nat.reduceLT,Nat.reduceEqDiff,Nat.reduceLeDiff,Nat.reduceBEq,Int.reduceLE,Int.reduceLT,Int.reduceToNat,Int.reduceBNe,Int.reduceBEq,Int.reduceNeg,Int.reduceEq,Int.reduceNe,Nat.reduceBNe,Int.reduceAdd,Int.reduceSub,Int.reduceMul,Int.reducePow,Nat.reducePow,Int.reduceGT,Int.reduceGE,if_true,if_false,ite_true,ite_false,beq_self_eq_true,BEq.rfl,reduceCtorEq,eq_self,ne_eq,Function.comp_def,beq_iff_eq]
    refine q_Place (n := n) (id := id) (x := x) (y := y) (w := w) (h := h) r4 hm hL hdl (fun hne => absurd heR hne) fun _ p bv' ev' s5 hp hp1 hp2 r5 k5 nb5 ne5 => ?_
    have fc5 : FC wd rd s4 s5 := r4.fc k5
    have c5 := fc5 _ _ (by omega) (by omega) c4
    have x5 := fc5 _ _ (by omega) (by omega) x4
    have p5 := keepP w4 r4 hb.ne nr4 k5
    have nr5 : ∀ j, rowOf dv' = some j → rowOf ev' ≠ some j := fun j h1 h2 => by
      rcases ne5 j h2 with h3 | h3
      · exact nr4 j h1 h3
      · have := w4.dl.lt j h1; omega
    have rel5 := hb.rel.place ⟨id, x, y, w, h⟩ p he
    have e5 : (mayE us os WW HH id x y w h == 0) = true := by rw [he]; rfl
    simp only [c1, x1, c2, x2, c3, x3, c4, x4, c5, x5, g2, g3, e0, evf,↓evp,evq,evr,fxa0,fxa1,fxa2,fxa3,fxa4,fxu,fxn,fxl,↓fxp,lgc,absL,fitL,flatL,ares,ares1,ofVal,unSc,aload,afill,splice,abound,asI,elems,IntKind.bits,sortT,eqNil,closedL,allByte,patch,pendOK,numA,Value.cells,Value.oneCell',ibin,List.replicate,Option.elim,Nat.reduceAdd,Nat.reduceSub,Nat.reduceMul,Nat.reduceLT,Nat.reduceEqDiff,Nat.reduceLeDiff,Nat.reduceBEq,Int.reduceLE,Int.reduceLT,Int.reduceToNat,Int.reduceBNe,Int.reduceBEq,Int.reduceNeg,Int.reduceEq,Int.reduceNe,Nat.reduceBNe,Int.reduceAdd,Int.reduceSub,Int.reduceMul,Int.reducePow,Nat.reducePow,Int.reduceGT,Int.reduceGE,if_true,if_false,ite_true,ite_false,beq_self_eq_true,BEq.rfl,reduceCtorEq,eq_self,ne_eq,Function.comp_def,beq_iff_eq]
    refine hK _ _ _ _ _ _ _ _ (by simp only [edW, Bool.false_eq_true, if_false, if_pos he]) ⟨p5, r5, rel5, hb.srt.insAt ⟨id, x, y, w, h⟩ p hp hp1 hp2 (hb.rel.new ⟨id, x, y, w, h⟩ he), hb.ne, nr5⟩ ?_ (by simp) (((grw_fc g13).trans fc4).trans fc5) (Nat.le_trans (Nat.le_trans l3 k4.1) k5.1) (fun j o h1 h2 h3 h4 h5 h6 h7 hj => k5.2 _ _ h4 h6 h7 (k4.2 _ _ h1 h2 h3 h5 (g13 _ _ hj))) (NW.of (fun j hj => (nw4 j hj).imp_right fun h => Nat.le_trans l3 h) (fun j hj => (nb5 j hj).imp_right fun h => Nat.le_trans (Nat.le_trans l3 k4.1) h) (fun j hj => (ne5 j hj).imp_right fun h => Nat.le_trans (Nat.le_trans l3 k4.1) h))
    have := (mayR_zero.1 heR).2.2.1
    rw [insAt_len]; omega
theorem l_PlayE (e : E4) (hb : Bo st wd a b rd WW HH tv tv2 dv bv ev T us os L ds) (hL : L.length ≤ 256) (hdl : ds.length < 4000000000000) (hm : 300 < m)
    (hK : ∀ dv' bv' ev' us' os' L' ds' s, edW WW HH us os ds e = (us', os', ds') → Bo s wd a b rd WW HH tv tv2 dv' bv' ev' T us' os' L' ds' → L'.length ≤ 256 → ds'.length ≤ ds.length + 1 → FC wd rd st s → st.length ≤ s.length → FX wd a b rd dv bv ev st s → NW dv bv ev dv' bv' ev' st.length → K (.sc (.bool true)) s) :
    acallF Try.prog pl (n + 9) m 47 [.agg [.ref wd 0, .ref rd 0], .agg (E4.v e)] st K := by
  obtain ⟨rz, u⟩ := e
  cases rz
  · exact l_PlayPe hb hL hdl hm hK
  · exact l_PlayRe hb hL hdl hm hK
end
end Go.Proofs.Ytndjhaeeldegfaa
