/- Chapter 4: each cell's terrain and building: the law. -/
import Derived.Test.YtndjhaeeldegfaaG23
import Derived.Test.YtndjhaeeldegfaaG11
set_option linter.unusedVariables false
set_option linter.unusedSimpArgs false
set_option maxRecDepth 10000
namespace Go.Proofs.Ytndjhaeeldegfaa
open Go Go.M Go.RowKit
attribute [local congr] acallF_cong aloop_cong bcase_cong resK_cong valK_cong wantK_cong callK_cong xputK_cong qputK_cong resM_cong rfK_cong
attribute [local irreducible] seqK blockK loopK nextK bcase resK valK wantK funK putK dputK xputK qputK callK aops aop acode adraw aloop acallF acall invK resM rfK rfEnd rdEnd rdMid around
theorem Rel.at2 {WW HH : Int} {us : List (Int × V)} {os : List ((Int × Int) × V)} {L : List B4} (h : Rel WW HH us os L) (a b : Int) : (getC (a, b) os = none ∧ L.find? (hasU a b) = none) ∨ ∃ u, getC (a, b) os = some (.sc (.int .i64 u.id)) ∧ L.find? (hasU a b) = some u := by
  cases hf : L.find? (hasU a b) with
  | none =>
    left
    refine ⟨?_, rfl⟩
    cases hq : getC (a, b) os with
    | none => rfl
    | some v =>
      obtain ⟨p, hp, hin, _⟩ := (h.go _ _ _).1 hq
      have := List.find?_eq_none.1 hf p hp
      exact absurd ((has_in (h.val p hp) a b).2 hin) this
  | some u =>
    right
    have hu := List.mem_of_find?_eq_some hf
    have hh := List.find?_some hf
    exact ⟨u, (h.go _ _ _).2 ⟨u, hu, (has_in (h.val u hu) a b).1 hh, rfl⟩, rfl⟩
section
variable {n m : Nat} {st s : List Ob} {K : V → List Ob → Prop} {WW HH : Int} {T : List Int} {L : List B4} {E : List E4} {tv bv lv : V} {x y z q : Int}
def terK (WW HH : Int) (ts : List V) (x y : Int) : Int := if hasB 0 0 WW HH x y = true then (match ts[(y * WW + x).toNat]? with | some (.sc (.int _ k)) => k | _ => 0) else 0
theorem w_Terr {wd a b : Nat} {dv : V} {ts : List V} {us : List (Int × V)} {os : List ((Int × Int) × V)} {ds : List R4} (hi : Wg st wd a b WW HH tv dv ts us os ds) (hW : 1 ≤ WW ∧ WW ≤ 128) (hH : 1 ≤ HH ∧ HH ≤ 128) (hl : (ts.length : Int) = WW * HH) (hb : ∀ v ∈ ts, ∃ k : Int, v = .sc (.int .u8 k) ∧ 0 ≤ k ∧ k < 256)
    (hK : ∀ s, Grw st s → K (.tup [.sc (.int .i64 (terK WW HH ts x y)), .sc (.bool (hasB 0 0 WW HH x y))]) s) : acallF Try.prog pl (n + 5) m 30 [.ref wd 0, .agg (cl x y)] st K := by
  unfold terK at hK
  refine w_Terrain1 hi hW hH hl hb (fun e s g => ?_) fun e k s hk g => ?_
  · have := hK s g
    rw [e, if_neg (by decide)] at this
    exact this
  · have := hK s g
    rw [e, if_pos rfl, hk] at this
    exact this
theorem q_Terr {rd : Nat} {ev : V} {ts : List V} {ds : List R4} (hi : Wr st rd WW HH tv bv ev ts L ds) (hW : 1 ≤ WW ∧ WW ≤ 128) (hH : 1 ≤ HH ∧ HH ≤ 128) (hl : (ts.length : Int) = WW * HH) (hb : ∀ v ∈ ts, ∃ k : Int, v = .sc (.int .u8 k) ∧ 0 ≤ k ∧ k < 256)
    (hK : ∀ s, Grw st s → K (.tup [.sc (.int .i64 (terK WW HH ts x y)), .sc (.bool (hasB 0 0 WW HH x y))]) s) : acallF Try.prog pl (n + 5) m 31 [.ref rd 0, .agg (cl x y)] st K := by
  unfold terK at hK
  refine q_Terrain hi hW hH hl hb (fun e s g => ?_) fun e k s hk g => ?_
  · have := hK s g
    rw [e, if_neg (by decide)] at this
    exact this
  · have := hK s g
    rw [e, if_pos rfl, hk] at this
    exact this
def atK (L : List B4) (x y : Int) : Int := match L.find? (hasU x y) with
  | some u => u.id
  | none => 0
theorem w_Atk {wd a b : Nat} {dv : V} {ts : List V} {us : List (Int × V)} {os : List ((Int × Int) × V)} {ds : List R4} (hi : Wg st wd a b WW HH tv dv ts us os ds) (hr : Rel WW HH us os L)
    (hK : ∀ s, Grw st s → K (.tup [.sc (.int .i64 (atK L x y)), .sc (.bool (L.find? (hasU x y)).isSome)]) s) : acallF Try.prog pl (n + 2) m 32 [.ref wd 0, .agg (cl x y)] st K := by
  unfold atK at hK
  refine w_At1 hi.wd fun s g => ?_
  have := hK s g
  rcases hr.at2 x y with ⟨h1, h2⟩ | ⟨u, h1, h2⟩
  · rw [h2] at this; rw [h1]; exact this
  · rw [h2] at this; rw [h1]; exact this
theorem q_Atk {rd : Nat} {ev : V} {ts : List V} {ds : List R4} (hi : Wr st rd WW HH tv bv ev ts L ds) (hm : L.length < m) (hl : L.length < 1000000)
    (hK : ∀ s, Grw st s → K (.tup [.sc (.int .i64 (atK L x y)), .sc (.bool (L.find? (hasU x y)).isSome)]) s) : acallF Try.prog pl (n + 5) m 33 [.ref rd 0, .agg (cl x y)] st K := by
  unfold atK at hK
  refine q_At hi hm hl fun s g => ?_
  have := hK s g
  cases h : L.find? (hasU x y) with
  | none => rw [h] at this; exact this
  | some u => rw [h] at this; exact this
def dirtyL (ds : List R4) (q : Int) : List R4 := if q < 0 then [] else ds.drop q.toNat
theorem rd_none (s : List Ob) : Rd Try.prog s 78 (.tsl [] 0 true true) (([] : List R4).flatMap R4.v) ([] : List R4).length := tsl_rd sz78 rfl fun _ => rfl
theorem w_Dir {wd a b : Nat} {dv : V} {ts : List V} {us : List (Int × V)} {os : List ((Int × Int) × V)} {ds : List R4} (hi : Wg st wd a b WW HH tv dv ts us os ds) (hdl : ds.length < 4000000000000)
    (hK : ∀ v' s, Rd Try.prog s 78 v' ((dirtyL ds q).flatMap R4.v) (dirtyL ds q).length → Grw st s → K v' s) : acallF Try.prog pl (n + 2) m 37 [.ref wd 0, .sc (.int .i64 q)] st K := by
  refine w_Dirty1 hi hdl (fun h => ?_) fun h1 h2 v' s gl g => ?_
  · have : dirtyL ds q = [] := by
      unfold dirtyL
      split
      · rfl
      · exact List.drop_eq_nil_of_le (by omega)
    rw [this] at hK
    exact hK _ _ (rd_none _) fun _ _ h => h
  · have : dirtyL ds q = ds.drop q.toNat := by unfold dirtyL; rw [if_neg (by omega)]
    rw [this] at hK
    exact hK _ _ (gl.rd sz78 (flatMap_len (f := R4.v) (s := 4) (fun _ => rfl) _)) g
theorem q_Dir {rd : Nat} {ev : V} {ts : List V} {ds : List R4} (hi : Wr st rd WW HH tv bv ev ts L ds) (hdl : ds.length < 4000000000000)
    (hK : ∀ v' s, Rd Try.prog s 78 v' ((dirtyL ds q).flatMap R4.v) (dirtyL ds q).length → Grw st s → K v' s) : acallF Try.prog pl (n + 1) m 38 [.ref rd 0, .sc (.int .i64 q)] st K := by
  refine q_Dirty hi hdl (fun h => ?_) fun h1 h2 v' s gl g => ?_
  · have : dirtyL ds q = [] := by
      unfold dirtyL
      split
      · rfl
      · exact List.drop_eq_nil_of_le (by omega)
    rw [this] at hK
    exact hK _ _ (rd_none _) fun _ _ h => h
  · have : dirtyL ds q = ds.drop q.toNat := by unfold dirtyL; rw [if_neg (by omega)]
    rw [this] at hK
    exact hK _ _ (gl.rd sz78 (flatMap_len (f := R4.v) (s := 4) (fun _ => rfl) _)) g
theorem dirtyL_len (ds : List R4) (q : Int) : (dirtyL ds q).length ≤ ds.length := by
  unfold dirtyL
  split
  · simp
  · rw [List.length_drop]; omega
/-- Where a building stands, in both. -/
theorem find_both {wd a b rd : Nat} {tv2 dv bv ev : V} {us : List (Int × V)} {os : List ((Int × Int) × V)} {ds : List R4} (hr : Rel WW HH us os L) (id : Int) : ∃ (fx fy fw fh : Int) (fb : Bool),
    (∀ (n m : Nat) (st : List Ob) (K : V → List Ob → Prop), Wg st wd a b WW HH tv dv (bs T) us os ds → (∀ s, Grw st s → K (.tup [.agg (rc fx fy fw fh), .sc (.bool fb)]) s) → acallF Try.prog pl (n + 2) m 34 [.ref wd 0, .sc (.int .i64 id)] st K) ∧
    (∀ (n m : Nat) (st : List Ob) (K : V → List Ob → Prop), Wr st rd WW HH tv2 bv ev (bs T) L ds → L.length < m → L.length < 1000000 → (∀ s, Grw st s → K (.tup [.agg (rc fx fy fw fh), .sc (.bool fb)]) s) → acallF Try.prog pl (n + 2) m 35 [.ref rd 0, .sc (.int .i64 id)] st K) := by
  rcases hr.find id with ⟨f1, f2⟩ | ⟨i, hi, f1, f2, f3⟩
  · refine ⟨0, 0, 0, 0, false, fun n m st K w hK => w_Find1 w fun s g => ?_, fun n m st K r h1 h2 hK => q_Find r h1 h2 (fun _ s g => hK s g) fun i hi h => by rw [f2] at h; omega⟩
    rw [f1]; exact hK s g
  · refine ⟨L[i].x, L[i].y, L[i].w, L[i].h, true, fun n m st K w hK => w_Find1 w fun s g => ?_, fun n m st K r h1 h2 hK => q_Find r h1 h2 (fun h => by rw [f1] at h; omega) fun i' hi' h s g => ?_⟩
    · rw [f3]; exact hK s g
    · have : i' = i := by rw [f1] at h; omega
      subst this
      exact hK s g
set_option maxHeartbeats 8000000 in
theorem l_Cells (ht : ∀ s, Rd Try.prog s 5 tv (bs T) T.length) (hb : ∀ s, Rd Try.prog s 90 bv (L.flatMap B4.v) L.length) (he : ∀ s, Rd Try.prog s 101 lv (E.flatMap E4.v) E.length) (ot : one tv = true ∧ cellsV tv = [tv]) (ob : one bv = true ∧ cellsV bv = [bv])
    (hm : 300 < m) (hTm : T.length < m) (hEm : E.length < m) (hTb : ∀ t ∈ T, 0 ≤ t ∧ t < 256) (hT : T.length ≤ 140737488355328) (hL : L.length ≤ 3518437208883) (hEl : E.length ≤ 2932031007402) (hK : ∀ s, K (.sc (.bool true)) s) :
    acallF Try.prog pl (n + 12) m 8 [.agg (mp WW HH tv bv), lv, .agg [.sc (.int .i64 x), .sc (.int .i64 y), .sc (.int .i64 z), .sc (.int .i64 q)]] st K := by
  refine acallF_inF Try.func8 rfl rfl Try.ntmps8 (by simp) ?_
  obtain ⟨s1, hs1⟩ : ∃ s1, s1 = st ++ [Ob.cells (mp WW HH tv bv), Ob.cells [.sc (.int .i64 x), .sc (.int .i64 y), .sc (.int .i64 z), .sc (.int .i64 q)]] := ⟨_, rfl⟩
  have c1 : s1[st.length]? = some (.cells (mp WW HH tv bv)) := by rw [hs1]; exact get_new _ _ 0
  have x1 : s1[st.length + 1]? = some (.cells [.sc (.int .i64 x), .sc (.int .i64 y), .sc (.int .i64 z), .sc (.int .i64 q)]) := by rw [hs1]; exact get_new _ _ 1
  simp only [mp] at hs1 c1
  simp only [mp, ot.1, ot.2, ob.1, ob.2, evf,↓evp,evq,evr,fxa0,fxa1,fxa2,fxa3,fxa4,fxu,fxn,fxl,↓fxp,lgc,absL,fitL,flatL,ares,ares1,ofVal,unSc,aload,afill,splice,abound,asI,elems,IntKind.bits,sortT,eqNil,closedL,allByte,patch,pendOK,numA,Value.cells,Value.oneCell',ibin,List.replicate,Option.elim,Nat.reduceAdd,Nat.reduceSub,Nat.reduceMul,Nat.reduceLT,Nat.reduceEqDiff,Nat.reduceLeDiff,Nat.reduceBEq,Int.reduceLE,Int.reduceLT,Int.reduceToNat,Int.reduceBNe,Int.reduceBEq,Int.reduceNeg,Int.reduceEq,Int.reduceNe,Nat.reduceBNe,Int.reduceAdd,Int.reduceSub,Int.reduceMul,Int.reducePow,Nat.reducePow,Int.reduceGT,Int.reduceGE,if_true,if_false,ite_true,ite_false,beq_self_eq_true,BEq.rfl,reduceCtorEq,eq_self,ne_eq,Function.comp_def,beq_iff_eq]
  rw [← hs1]
  refine l_Made (n := n) ht hb he ot ob hm hTm hEm hTb hT hL hEl (fun _ s2 g2 => ?_) fun eOK wd a b rd tv1 tv2 dv bv' ev us os L' ds s2 bo hL' hds fs => ?_
  · simp only [get_new, get_new0, M.set_new, M.set_new0, evf,↓evp,evq,evr,fxa0,fxa1,fxa2,fxa3,fxa4,fxu,fxn,fxl,↓fxp,lgc,absL,fitL,flatL,ares,ares1,ofVal,unSc,aload,afill,splice,abound,asI,elems,IntKind.bits,sortT,eqNil,closedL,allByte,patch,pendOK,numA,Value.cells,Value.oneCell',ibin,List.replicate,Option.elim,Nat.reduceAdd,Nat.reduceSub,Nat.reduceMul,Nat.reduceLT,Nat.reduceEqDiff,Nat.reduceLeDiff,Nat.reduceBEq,Int.reduceLE,Int.reduceLT,Int.reduceToNat,Int.reduceBNe,Int.reduceBEq,Int.reduceNeg,Int.reduceEq,Int.reduceNe,Nat.reduceBNe,Int.reduceAdd,Int.reduceSub,Int.reduceMul,Int.reducePow,Nat.reducePow,Int.reduceGT,Int.reduceGE,if_true,if_false,ite_true,ite_false,beq_self_eq_true,BEq.rfl,reduceCtorEq,eq_self,ne_eq,Function.comp_def,beq_iff_eq]
    refine awake4 (n := n + 1) hm fun s3 g3 => ?_
    simp only [evf,↓evp,evq,evr,fxa0,fxa1,fxa2,fxa3,fxa4,fxu,fxn,fxl,↓fxp,lgc,absL,fitL,flatL,ares,ares1,ofVal,unSc,aload,afill,splice,abound,asI,elems,IntKind.bits,sortT,eqNil,closedL,allByte,patch,pendOK,numA,Value.cells,Value.oneCell',ibin,List.replicate,Option.elim,Nat.reduceAdd,Nat.reduceSub,Nat.reduceMul,Nat.reduceLT,Nat.reduceEqDiff,Nat.reduceLeDiff,Nat.reduceBEq,Int.reduceLE,Int.reduceLT,Int.reduceToNat,Int.reduceBNe,Int.reduceBEq,Int.reduceNeg,Int.reduceEq,Int.reduceNe,Nat.reduceBNe,Int.reduceAdd,Int.reduceSub,Int.reduceMul,Int.reducePow,Nat.reducePow,Int.reduceGT,Int.reduceGE,if_true,if_false,ite_true,ite_false,beq_self_eq_true,BEq.rfl,reduceCtorEq,eq_self,ne_eq,Function.comp_def,beq_iff_eq]
    exact hK _
  have x2 := fs _ _ x1
  obtain ⟨⟨hW, hW'⟩, ⟨hH, hH'⟩, hTl, _⟩ := refOK_facts eOK
  have hbs : ∀ v ∈ bs T, ∃ k : Int, v = .sc (.int .u8 k) ∧ 0 ≤ k ∧ k < 256 := fun v hv => by
    simp only [bs, List.mem_map] at hv
    obtain ⟨k, hk, rfl⟩ := hv
    exact ⟨k, rfl, hTb k hk⟩
  have g3 := Grw.push s2 [Ob.cells [.ref wd 0, .ref rd 0], Ob.cells (cl x y)]
  have b3 : (s2 ++ [Ob.cells [.ref wd 0, .ref rd 0], Ob.cells (cl x y)])[s2.length]? = some (.cells [.ref wd 0, .ref rd 0]) := get_new _ _ 0
  have d3 : (s2 ++ [Ob.cells [.ref wd 0, .ref rd 0], Ob.cells (cl x y)])[s2.length + 1]? = some (.cells (cl x y)) := get_new _ _ 1
  have x3 := g3 _ _ x2
  have bo3 := bo.grw g3
  have x2X := fun X => Grw.push s2 X _ _ x2
  simp only [cl] at b3 d3 x3 bo3
  simp only [x2X, get_new, get_new0, M.set_new, M.set_new0, evf,↓evp,evq,evr,fxa0,fxa1,fxa2,fxa3,fxa4,fxu,fxn,fxl,↓fxp,lgc,absL,fitL,flatL,ares,ares1,ofVal,unSc,aload,afill,splice,abound,asI,elems,IntKind.bits,sortT,eqNil,closedL,allByte,patch,pendOK,numA,Value.cells,Value.oneCell',ibin,List.replicate,Option.elim,Nat.reduceAdd,Nat.reduceSub,Nat.reduceMul,Nat.reduceLT,Nat.reduceEqDiff,Nat.reduceLeDiff,Nat.reduceBEq,Int.reduceLE,Int.reduceLT,Int.reduceToNat,Int.reduceBNe,Int.reduceBEq,Int.reduceNeg,Int.reduceEq,Int.reduceNe,Nat.reduceBNe,Int.reduceAdd,Int.reduceSub,Int.reduceMul,Int.reducePow,Nat.reducePow,Int.reduceGT,Int.reduceGE,if_true,if_false,ite_true,ite_false,beq_self_eq_true,BEq.rfl,reduceCtorEq,eq_self,ne_eq,Function.comp_def,beq_iff_eq]
  generalize (s2 ++ [Ob.cells _, Ob.cells _]) = s3 at b3 d3 x3 bo3
  have bl : ((bs T).length : Int) = WW * HH := by rw [bs_len]; exact hTl
  have hdl : ds.length < 4000000000000 := by omega
  refine w_Terr (n := n + 6) bo3.p ⟨hW, hW'⟩ ⟨hH, hH'⟩ bl hbs fun s4 g4 => ?_
  have b4 := g4 _ _ b3
  have d4 := g4 _ _ d3
  have x4 := g4 _ _ x3
  have bo4 := bo3.grw g4
  simp only [b4, d4, evf,↓evp,evq,evr,fxa0,fxa1,fxa2,fxa3,fxa4,fxu,fxn,fxl,↓fxp,lgc,absL,fitL,flatL,ares,ares1,ofVal,unSc,aload,afill,splice,abound,asI,elems,IntKind.bits,sortT,eqNil,closedL,allByte,patch,pendOK,numA,Value.cells,Value.oneCell',ibin,List.replicate,Option.elim,Nat.reduceAdd,Nat.reduceSub,Nat.reduceMul,Nat.reduceLT,Nat.reduceEqDiff,Nat.reduceLeDiff,Nat.reduceBEq,Int.reduceLE,Int.reduceLT,Int.reduceToNat,Int.reduceBNe,Int.reduceBEq,Int.reduceNeg,Int.reduceEq,Int.reduceNe,Nat.reduceBNe,Int.reduceAdd,Int.reduceSub,Int.reduceMul,Int.reducePow,Nat.reducePow,Int.reduceGT,Int.reduceGE,if_true,if_false,ite_true,ite_false,beq_self_eq_true,BEq.rfl,reduceCtorEq,eq_self,ne_eq,Function.comp_def,beq_iff_eq]
  refine q_Terr (n := n + 6) bo4.r ⟨hW, hW'⟩ ⟨hH, hH'⟩ bl hbs fun s5 g5 => ?_
  have b5 := g5 _ _ b4
  have d5 := g5 _ _ d4
  have x5 := g5 _ _ x4
  have bo5 := bo4.grw g5
  simp only [b5, d5, evf,↓evp,evq,evr,fxa0,fxa1,fxa2,fxa3,fxa4,fxu,fxn,fxl,↓fxp,lgc,absL,fitL,flatL,ares,ares1,ofVal,unSc,aload,afill,splice,abound,asI,elems,IntKind.bits,sortT,eqNil,closedL,allByte,patch,pendOK,numA,Value.cells,Value.oneCell',ibin,List.replicate,Option.elim,Nat.reduceAdd,Nat.reduceSub,Nat.reduceMul,Nat.reduceLT,Nat.reduceEqDiff,Nat.reduceLeDiff,Nat.reduceBEq,Int.reduceLE,Int.reduceLT,Int.reduceToNat,Int.reduceBNe,Int.reduceBEq,Int.reduceNeg,Int.reduceEq,Int.reduceNe,Nat.reduceBNe,Int.reduceAdd,Int.reduceSub,Int.reduceMul,Int.reducePow,Nat.reducePow,Int.reduceGT,Int.reduceGE,if_true,if_false,ite_true,ite_false,beq_self_eq_true,BEq.rfl,reduceCtorEq,eq_self,ne_eq,Function.comp_def,beq_iff_eq]
  refine w_Atk (n := n + 9) bo5.p bo5.rel fun s6 g6 => ?_
  have b6 := g6 _ _ b5
  have d6 := g6 _ _ d5
  have x6 := g6 _ _ x5
  have bo6 := bo5.grw g6
  simp only [b6, d6, evf,↓evp,evq,evr,fxa0,fxa1,fxa2,fxa3,fxa4,fxu,fxn,fxl,↓fxp,lgc,absL,fitL,flatL,ares,ares1,ofVal,unSc,aload,afill,splice,abound,asI,elems,IntKind.bits,sortT,eqNil,closedL,allByte,patch,pendOK,numA,Value.cells,Value.oneCell',ibin,List.replicate,Option.elim,Nat.reduceAdd,Nat.reduceSub,Nat.reduceMul,Nat.reduceLT,Nat.reduceEqDiff,Nat.reduceLeDiff,Nat.reduceBEq,Int.reduceLE,Int.reduceLT,Int.reduceToNat,Int.reduceBNe,Int.reduceBEq,Int.reduceNeg,Int.reduceEq,Int.reduceNe,Nat.reduceBNe,Int.reduceAdd,Int.reduceSub,Int.reduceMul,Int.reducePow,Nat.reducePow,Int.reduceGT,Int.reduceGE,if_true,if_false,ite_true,ite_false,beq_self_eq_true,BEq.rfl,reduceCtorEq,eq_self,ne_eq,Function.comp_def,beq_iff_eq]
  refine q_Atk (n := n + 6) bo6.r (by omega) (by omega) fun s7 g7 => ?_
  have b7 := g7 _ _ b6
  have d7 := g7 _ _ d6
  have x7 := g7 _ _ x6
  have bo7 := bo6.grw g7
  obtain ⟨fx, fy, fw, fh, fb, hfP, hfR⟩ := find_both (tv := tv1) (tv2 := tv2) (T := T) (wd := wd) (a := a) (b := b) (rd := rd) (dv := dv) (bv := bv') (ev := ev) (ds := ds) bo7.rel z
  simp only [b7, d7, x7, evf,↓evp,evq,evr,fxa0,fxa1,fxa2,fxa3,fxa4,fxu,fxn,fxl,↓fxp,lgc,absL,fitL,flatL,ares,ares1,ofVal,unSc,aload,afill,splice,abound,asI,elems,IntKind.bits,sortT,eqNil,closedL,allByte,patch,pendOK,numA,Value.cells,Value.oneCell',ibin,List.replicate,Option.elim,Nat.reduceAdd,Nat.reduceSub,Nat.reduceMul,Nat.reduceLT,Nat.reduceEqDiff,Nat.reduceLeDiff,Nat.reduceBEq,Int.reduceLE,Int.reduceLT,Int.reduceToNat,Int.reduceBNe,Int.reduceBEq,Int.reduceNeg,Int.reduceEq,Int.reduceNe,Nat.reduceBNe,Int.reduceAdd,Int.reduceSub,Int.reduceMul,Int.reducePow,Nat.reducePow,Int.reduceGT,Int.reduceGE,if_true,if_false,ite_true,ite_false,beq_self_eq_true,BEq.rfl,reduceCtorEq,eq_self,ne_eq,Function.comp_def,beq_iff_eq]
  refine hfP (n + 9) m _ _ bo7.p fun s8 g8 => ?_
  obtain ⟨s9, hs9⟩ : ∃ s9, s9 = s8 ++ [Ob.cells (rc fx fy fw fh)] := ⟨_, rfl⟩
  have g9 : Grw s7 s9 := by rw [hs9]; exact g8.trans (.push _ _)
  have r9 : s9[s8.length]? = some (.cells (rc fx fy fw fh)) := by rw [hs9]; exact get_new0 _ _
  have b9 := g9 _ _ b7
  have x9 := g9 _ _ x7
  have bo9 := bo7.grw g9
  simp only [rc] at hs9 r9
  simp only [rc, get_new, get_new0, M.set_new, M.set_new0, evf,↓evp,evq,evr,fxa0,fxa1,fxa2,fxa3,fxa4,fxu,fxn,fxl,↓fxp,lgc,absL,fitL,flatL,ares,ares1,ofVal,unSc,aload,afill,splice,abound,asI,elems,IntKind.bits,sortT,eqNil,closedL,allByte,patch,pendOK,numA,Value.cells,Value.oneCell',ibin,List.replicate,Option.elim,Nat.reduceAdd,Nat.reduceSub,Nat.reduceMul,Nat.reduceLT,Nat.reduceEqDiff,Nat.reduceLeDiff,Nat.reduceBEq,Int.reduceLE,Int.reduceLT,Int.reduceToNat,Int.reduceBNe,Int.reduceBEq,Int.reduceNeg,Int.reduceEq,Int.reduceNe,Nat.reduceBNe,Int.reduceAdd,Int.reduceSub,Int.reduceMul,Int.reducePow,Nat.reducePow,Int.reduceGT,Int.reduceGE,if_true,if_false,ite_true,ite_false,beq_self_eq_true,BEq.rfl,reduceCtorEq,eq_self,ne_eq,Function.comp_def,beq_iff_eq]
  rw [← hs9]
  simp only [b9, x9, evf,↓evp,evq,evr,fxa0,fxa1,fxa2,fxa3,fxa4,fxu,fxn,fxl,↓fxp,lgc,absL,fitL,flatL,ares,ares1,ofVal,unSc,aload,afill,splice,abound,asI,elems,IntKind.bits,sortT,eqNil,closedL,allByte,patch,pendOK,numA,Value.cells,Value.oneCell',ibin,List.replicate,Option.elim,Nat.reduceAdd,Nat.reduceSub,Nat.reduceMul,Nat.reduceLT,Nat.reduceEqDiff,Nat.reduceLeDiff,Nat.reduceBEq,Int.reduceLE,Int.reduceLT,Int.reduceToNat,Int.reduceBNe,Int.reduceBEq,Int.reduceNeg,Int.reduceEq,Int.reduceNe,Nat.reduceBNe,Int.reduceAdd,Int.reduceSub,Int.reduceMul,Int.reducePow,Nat.reducePow,Int.reduceGT,Int.reduceGE,if_true,if_false,ite_true,ite_false,beq_self_eq_true,BEq.rfl,reduceCtorEq,eq_self,ne_eq,Function.comp_def,beq_iff_eq]
  refine hfR (n + 9) m _ _ bo9.r (by omega) (by omega) fun s10 g10 => ?_
  obtain ⟨s11, hs11⟩ : ∃ s11, s11 = s10 ++ [Ob.cells (rc fx fy fw fh)] := ⟨_, rfl⟩
  have g11 : Grw s9 s11 := by rw [hs11]; exact g10.trans (.push _ _)
  have r11 : s11[s10.length]? = some (.cells (rc fx fy fw fh)) := by rw [hs11]; exact get_new0 _ _
  have r11' := g11 _ _ r9
  have b11 := g11 _ _ b9
  have x11 := g11 _ _ x9
  have bo11 := bo9.grw g11
  have eq : eqR fx fy fw fh fx fy fw fh = true := eqR_true.2 ⟨rfl, rfl, rfl, rfl⟩
  simp only [rc] at hs11 r11
  simp only [rc, get_new, get_new0, M.set_new, M.set_new0, evf,↓evp,evq,evr,fxa0,fxa1,fxa2,fxa3,fxa4,fxu,fxn,fxl,↓fxp,lgc,absL,fitL,flatL,ares,ares1,ofVal,unSc,aload,afill,splice,abound,asI,elems,IntKind.bits,sortT,eqNil,closedL,allByte,patch,pendOK,numA,Value.cells,Value.oneCell',ibin,List.replicate,Option.elim,Nat.reduceAdd,Nat.reduceSub,Nat.reduceMul,Nat.reduceLT,Nat.reduceEqDiff,Nat.reduceLeDiff,Nat.reduceBEq,Int.reduceLE,Int.reduceLT,Int.reduceToNat,Int.reduceBNe,Int.reduceBEq,Int.reduceNeg,Int.reduceEq,Int.reduceNe,Nat.reduceBNe,Int.reduceAdd,Int.reduceSub,Int.reduceMul,Int.reducePow,Nat.reducePow,Int.reduceGT,Int.reduceGE,if_true,if_false,ite_true,ite_false,beq_self_eq_true,BEq.rfl,reduceCtorEq,eq_self,ne_eq,Function.comp_def,beq_iff_eq]
  rw [← hs11]
  simp only [b11, x11, r11, r11', cmp_rect, eq, List.append_eq, evf,↓evp,evq,evr,fxa0,fxa1,fxa2,fxa3,fxa4,fxu,fxn,fxl,↓fxp,lgc,absL,fitL,flatL,ares,ares1,ofVal,unSc,aload,afill,splice,abound,asI,elems,IntKind.bits,sortT,eqNil,closedL,allByte,patch,pendOK,numA,Value.cells,Value.oneCell',ibin,List.replicate,Option.elim,Nat.reduceAdd,Nat.reduceSub,Nat.reduceMul,Nat.reduceLT,Nat.reduceEqDiff,Nat.reduceLeDiff,Nat.reduceBEq,Int.reduceLE,Int.reduceLT,Int.reduceToNat,Int.reduceBNe,Int.reduceBEq,Int.reduceNeg,Int.reduceEq,Int.reduceNe,Nat.reduceBNe,Int.reduceAdd,Int.reduceSub,Int.reduceMul,Int.reducePow,Nat.reducePow,Int.reduceGT,Int.reduceGE,if_true,if_false,ite_true,ite_false,beq_self_eq_true,BEq.rfl,reduceCtorEq,eq_self,ne_eq,Function.comp_def,beq_iff_eq]
  refine w_Dir (n := n + 9) bo11.p hdl fun v12 s12 rd12 g12 => ?_
  have r12 := g12 _ _ r11
  have r12' := g12 _ _ r11'
  have b12 := g12 _ _ b11
  have x12 := g12 _ _ x11
  have bo12 := bo11.grw g12
  simp only [b11, x11, r11, r11', b12, x12, r12, r12', g12, cmp_rect, eq, List.append_eq, evf,↓evp,evq,evr,fxa0,fxa1,fxa2,fxa3,fxa4,fxu,fxn,fxl,↓fxp,lgc,absL,fitL,flatL,ares,ares1,ofVal,unSc,aload,afill,splice,abound,asI,elems,IntKind.bits,sortT,eqNil,closedL,allByte,patch,pendOK,numA,Value.cells,Value.oneCell',ibin,List.replicate,Option.elim,Nat.reduceAdd,Nat.reduceSub,Nat.reduceMul,Nat.reduceLT,Nat.reduceEqDiff,Nat.reduceLeDiff,Nat.reduceBEq,Int.reduceLE,Int.reduceLT,Int.reduceToNat,Int.reduceBNe,Int.reduceBEq,Int.reduceNeg,Int.reduceEq,Int.reduceNe,Nat.reduceBNe,Int.reduceAdd,Int.reduceSub,Int.reduceMul,Int.reducePow,Nat.reducePow,Int.reduceGT,Int.reduceGE,if_true,if_false,ite_true,ite_false,beq_self_eq_true,BEq.rfl,reduceCtorEq,eq_self,ne_eq,Function.comp_def,beq_iff_eq]
  refine q_Dir (n := n + 10) bo12.r hdl fun v13 s13 rd13 g13 => ?_
  have r13 := g13 _ _ r12
  have r13' := g13 _ _ r12'
  have b13 := g13 _ _ b12
  have x13 := g13 _ _ x12
  simp only [b11, x11, r11, r11', b12, x12, r12, r12', b13, x13, r13, r13', g12, g13, cmp_rect, eq, List.append_eq, evf,↓evp,evq,evr,fxa0,fxa1,fxa2,fxa3,fxa4,fxu,fxn,fxl,↓fxp,lgc,absL,fitL,flatL,ares,ares1,ofVal,unSc,aload,afill,splice,abound,asI,elems,IntKind.bits,sortT,eqNil,closedL,allByte,patch,pendOK,numA,Value.cells,Value.oneCell',ibin,List.replicate,Option.elim,Nat.reduceAdd,Nat.reduceSub,Nat.reduceMul,Nat.reduceLT,Nat.reduceEqDiff,Nat.reduceLeDiff,Nat.reduceBEq,Int.reduceLE,Int.reduceLT,Int.reduceToNat,Int.reduceBNe,Int.reduceBEq,Int.reduceNeg,Int.reduceEq,Int.reduceNe,Nat.reduceBNe,Int.reduceAdd,Int.reduceSub,Int.reduceMul,Int.reducePow,Nat.reducePow,Int.reduceGT,Int.reduceGE,if_true,if_false,ite_true,ite_false,beq_self_eq_true,BEq.rfl,reduceCtorEq,eq_self,ne_eq,Function.comp_def,beq_iff_eq]
  have hdl2 := dirtyL_len ds q
  refine q_Rects (n := n + 10) (rd12.grw g13) rd13 (by omega) (by omega) ?_
  simp only [b11, x11, r11, r11', b12, x12, r12, r12', b13, x13, r13, r13', g12, g13, cmp_rect, eq, List.append_eq, evf,↓evp,evq,evr,fxa0,fxa1,fxa2,fxa3,fxa4,fxu,fxn,fxl,↓fxp,lgc,absL,fitL,flatL,ares,ares1,ofVal,unSc,aload,afill,splice,abound,asI,elems,IntKind.bits,sortT,eqNil,closedL,allByte,patch,pendOK,numA,Value.cells,Value.oneCell',ibin,List.replicate,Option.elim,Nat.reduceAdd,Nat.reduceSub,Nat.reduceMul,Nat.reduceLT,Nat.reduceEqDiff,Nat.reduceLeDiff,Nat.reduceBEq,Int.reduceLE,Int.reduceLT,Int.reduceToNat,Int.reduceBNe,Int.reduceBEq,Int.reduceNeg,Int.reduceEq,Int.reduceNe,Nat.reduceBNe,Int.reduceAdd,Int.reduceSub,Int.reduceMul,Int.reducePow,Nat.reducePow,Int.reduceGT,Int.reduceGE,if_true,if_false,ite_true,ite_false,beq_self_eq_true,BEq.rfl,reduceCtorEq,eq_self,ne_eq,Function.comp_def,beq_iff_eq]
  refine awake4 (n := n + 1) hm fun s14 g14 => ?_
  simp only [b11, x11, r11, r11', b12, x12, r12, r12', b13, x13, r13, r13', g12, g13, g14, cmp_rect, eq, List.append_eq, evf,↓evp,evq,evr,fxa0,fxa1,fxa2,fxa3,fxa4,fxu,fxn,fxl,↓fxp,lgc,absL,fitL,flatL,ares,ares1,ofVal,unSc,aload,afill,splice,abound,asI,elems,IntKind.bits,sortT,eqNil,closedL,allByte,patch,pendOK,numA,Value.cells,Value.oneCell',ibin,List.replicate,Option.elim,Nat.reduceAdd,Nat.reduceSub,Nat.reduceMul,Nat.reduceLT,Nat.reduceEqDiff,Nat.reduceLeDiff,Nat.reduceBEq,Int.reduceLE,Int.reduceLT,Int.reduceToNat,Int.reduceBNe,Int.reduceBEq,Int.reduceNeg,Int.reduceEq,Int.reduceNe,Nat.reduceBNe,Int.reduceAdd,Int.reduceSub,Int.reduceMul,Int.reducePow,Nat.reducePow,Int.reduceGT,Int.reduceGE,if_true,if_false,ite_true,ite_false,beq_self_eq_true,BEq.rfl,reduceCtorEq,eq_self,ne_eq,Function.comp_def,beq_iff_eq]
  exact hK _
end
end Go.Proofs.Ytndjhaeeldegfaa
