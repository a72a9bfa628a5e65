/- Chapter 4: a map's world: copies of slices. Rectangles and buildings, held against each other. Chapters 3 and 4, the reference: has, within, may be, share, place. Chapter 4's reference: a building is placed. Chapter 4: a building is taken away. Chapter 4's reference: it is asked; a building is taken away. Chapter 4's reference: a building is taken away. Chapter 4's reference: may a map be. -/
import Derived.Test.YtpdhoicpaonggaaGreatX1
set_option linter.unusedVariables false
set_option linter.unusedSimpArgs false
set_option maxRecDepth 10000
namespace Go.Proofs.YtpdhoicpaonggaaGreat
open Go Go.M Go.RowKit
attribute [local congr] acallF_cong aloop_cong bcase_cong resK_cong valK_cong wantK_cong callK_cong xputK_cong qputK_cong resM_cong rfK_cong
attribute [local irreducible] seqK blockK loopK nextK bcase resK valK wantK funK putK dputK xputK qputK callK aops aop acode adraw aloop acallF acall invK resM rfK rfEnd rdEnd rdMid around
structure B4 where
  id : Int
  x : Int
  y : Int
  w : Int
  h : Int
def B4.v (u : B4) : List V := bd u.id u.x u.y u.w u.h
theorem closed_bd : ∀ L : List B4, closedL (L.flatMap B4.v) = true
  | [] => rfl
  | u :: L => by
    have := closed_bd L
    simp only [List.flatMap_cons, B4.v, bd, rc, List.cons_append, List.nil_append, closedL, closed, Bool.true_and]
    exact this
theorem closed_bs : ∀ l : List Int, closedL (bs l) = true
  | [] => rfl
  | n :: l => by
    have := closed_bs l
    simp only [bs, List.map_cons, closedL, closed, Bool.true_and] at this ⊢
    exact this
theorem rd_nil {P : Program} {s : List Ob} {e : TypeId} {v : V} {xs : List V} {n : Nat} (h : Rd P s e v xs n) (hv : nilV v = true) : n = 0 := by
  rcases h.cases with ⟨nil, full, rfl⟩ | ⟨id, off, full, gg, ys, m, lo, fz, s', rfl, h1, h2, h3, hxs⟩
  · exact h.2.1.2 hv
  · cases hv
section
variable {n m : Nat} {st s : List Ob} {K : V → List Ob → Prop} {v : V} {xs : List V} {k : Nat}
theorem c_cloneB (h : Rd Tryz.prog st 5 v xs k) (hc : closedL xs = true) (hl : k ≤ 4000000000000) (hK : ∀ v' s, Gl s 5 v' xs k → Grw st s → (∀ j, rowOf v' = some j → st.length ≤ j) → K v' s) : acallF Tryz.prog pl (n + 1) m 40 [v] st K := by
  refine acallF_inF Tryz.func40 rfl rfl Tryz.ntmps40 (by simp) ?_
  have e := fun x y => abin_nileq h Tryz.underlying22 x y [] 0 true
  cases hv : nilV v
  · have hx := (h.grw (Grw.push st [Ob.row 5 [] 0 0 false])).1
    have ap := append_own (st := st ++ [Ob.row 5 [] 0 0 false]) (id := st.length) (get_new0 _ _) (Nat.zero_le _) Tryz.underlying22 sz5 by5 ze5 (by omega) rfl hx hc (h.2.2 _ sz5) (by omega) (by omega)
    rw [M.set_new0] at ap
    simp only [Nat.zero_add, List.nil_append, List.set_cons_zero] at ap
    simp only [e, hv, ap, ↓zP,zV,Nat.reduceAdd,Nat.reduceMul,Nat.reduceLT,Nat.reduceEqDiff,Nat.reduceLeDiff,Int.reduceLE,Int.reduceLT,Int.reduceBNe,Int.reduceBEq,Int.reduceNeg,Int.reduceEq,Int.reduceAdd,Int.reduceGT,Int.reduceGE,reduceCtorEq]
    exact hK _ _ (.inr ⟨_, 0, rfl, get_new0 _ _, Nat.zero_le _⟩) (Grw.push _ _) fun j hj => by simp only [rowOf, Option.some.injEq] at hj; omega
  · have hk := rd_nil h hv
    subst hk
    have hx : xs = [] := by have := h.2.2 _ sz5; simpa using this
    subst hx
    simp only [e, hv, ↓zP,zV,Nat.reduceAdd,Nat.reduceMul,Nat.reduceLT,Nat.reduceEqDiff,Nat.reduceLeDiff,Int.reduceLE,Int.reduceLT,Int.reduceBNe,Int.reduceBEq,Int.reduceNeg,Int.reduceEq,Int.reduceAdd,Int.reduceGT,Int.reduceGE,reduceCtorEq]
    exact hK _ _ (.inl ⟨rfl, rfl, rfl⟩) (fun _ _ h => h) fun j hj => by cases hj
end
def goAll (WW HH : Int) : Int → List (Int × V) → List ((Int × Int) × V) → List B4 → Option (List (Int × V) × List ((Int × Int) × V))
  | _, us, os, [] => some (us, os)
  | last, us, os, u :: L => if u.id ≤ last then none else if mayE us os WW HH u.id u.x u.y u.w u.h = 0 then
      goAll WW HH u.id (putI u.id (.agg (rc u.x u.y u.w u.h)) us) (fillC (.sc (.int .i64 u.id)) u.x u.y u.w.toNat os (u.h.toNat * u.w.toNat)) L else none
def newOK (WW HH : Int) (T : List Int) (L : List B4) : Bool :=
  decide (1 ≤ WW) && decide (WW ≤ 128) && decide (1 ≤ HH) && decide (HH ≤ 128) && decide ((T.length : Int) = WW * HH) && T.all (fun t => decide (t < 4)) && (goAll WW HH 0 [] [] L).isSome
section
variable {n m : Nat} {st s : List Ob} {K : V → List Ob → Prop} {WW HH : Int} {T : List Int} {L : List B4} {tv bv : V}
def mp (WW HH : Int) (tv bv : V) : List V := [.sc (.int .i64 WW), .sc (.int .i64 HH), tv, bv]
theorem mayE_zero {us : List (Int × V)} {os : List ((Int × Int) × V)} {id x y w h : Int} (e : mayE us os WW HH id x y w h = 0) : bmayB id x y w h WW HH = true ∧ getI id us = none ∧ us.length < 256 ∧ hitsB os x y w.toNat (h.toNat * w.toNat) = false := by
  unfold mayE at e
  split at e
  · cases e
  rename_i h1
  split at e
  · cases e
  rename_i h2
  split at e
  · cases e
  rename_i h3
  split at e
  · cases e
  rename_i h4
  exact ⟨by simpa using h1, by simpa using h2, by omega, by simpa using h4⟩
set_option maxHeartbeats 4000000000000 in
theorem w_New (ht : Rd Tryz.prog st 5 tv (bs T) T.length) (hb : Rd Tryz.prog st 115 bv (L.flatMap B4.v) L.length) (ot : one tv = true ∧ cellsV tv = [tv]) (ob : one bv = true ∧ cellsV bv = [bv]) (hm : 300 < m) (hTm : T.length < m) (hTb : ∀ t ∈ T, 0 ≤ t ∧ t < 256)
    (hE : newOK WW HH T L = false → ∀ s, Grw st s → K (.tup [.sc (.pointer none), .sc (.int .i64 1)]) s)
    (hO : newOK WW HH T L = true → ∀ wd a b tv' us os s, goAll WW HH 0 [] [] L = some (us, os) → Wg s wd a b WW HH tv' (.tsl [] 0 true true) (bs T) us os [] → Grw st s → st.length ≤ wd → st.length ≤ a → st.length ≤ b → (∀ j, rowOf tv' = some j → st.length ≤ j) → K (.tup [.ref wd 0, .sc (.int .i64 0)]) s) :
    acallF Tryz.prog pl (n + 9) m 14 [.agg (mp WW HH tv bv)] st K := by
  refine acallF_inF Tryz.func14 rfl rfl Tryz.ntmps14 (by simp) ?_
  have g0 := Grw.push st [Ob.cells (mp WW HH tv bv)]
  have c0 : (st ++ [Ob.cells (mp WW HH tv bv)])[st.length]? = some (.cells (mp WW HH tv bv)) := get_new _ _ 0
  simp only [mp] at g0 c0
  simp only [mp, ot.1, ot.2, ob.1, ob.2, ↓zP,zV,Nat.reduceAdd,Nat.reduceMul,Nat.reduceLT,Nat.reduceEqDiff,Nat.reduceLeDiff,Int.reduceLE,Int.reduceLT,Int.reduceBNe,Int.reduceBEq,Int.reduceNeg,Int.reduceEq,Int.reduceAdd,Int.reduceGT,Int.reduceGE,reduceCtorEq]
  generalize hS : st ++ [Ob.cells [V.sc (Value.int IntKind.i64 WW), V.sc (Value.int IntKind.i64 HH), tv, bv]] = S at g0 c0
  have ht0 := ht.grw g0
  have hb0 := hb.grw g0
  have al := alen_rd ht0 Tryz.underlying22
  have alb := alen_rd hb0 Tryz.underlying23
  unfold newOK at hE hO
  cases d1 : decide (WW < 1)
  case true =>
    simp only [c0, d1, ↓zP,zV,Nat.reduceAdd,Nat.reduceMul,Nat.reduceLT,Nat.reduceEqDiff,Nat.reduceLeDiff,Int.reduceLE,Int.reduceLT,Int.reduceBNe,Int.reduceBEq,Int.reduceNeg,Int.reduceEq,Int.reduceAdd,Int.reduceGT,Int.reduceGE,reduceCtorEq]
    refine hE ?_ _ g0
    have := of_decide_eq_true d1
    simp only [show decide (1 ≤ WW) = false from decide_eq_false (by omega), Bool.false_and]
  have f1 := of_decide_eq_false d1
  cases d2 : decide (WW > 128)
  case true =>
    simp only [c0, d1, d2, ↓zP,zV,Nat.reduceAdd,Nat.reduceMul,Nat.reduceLT,Nat.reduceEqDiff,Nat.reduceLeDiff,Int.reduceLE,Int.reduceLT,Int.reduceBNe,Int.reduceBEq,Int.reduceNeg,Int.reduceEq,Int.reduceAdd,Int.reduceGT,Int.reduceGE,reduceCtorEq]
    refine hE ?_ _ g0
    have := of_decide_eq_true d2
    simp only [show decide (WW ≤ 128) = false from decide_eq_false (by omega), Bool.false_and, Bool.and_false]
  have f2 := of_decide_eq_false d2
  cases d3 : decide (HH < 1)
  case true =>
    simp only [c0, d1, d2, d3, ↓zP,zV,Nat.reduceAdd,Nat.reduceMul,Nat.reduceLT,Nat.reduceEqDiff,Nat.reduceLeDiff,Int.reduceLE,Int.reduceLT,Int.reduceBNe,Int.reduceBEq,Int.reduceNeg,Int.reduceEq,Int.reduceAdd,Int.reduceGT,Int.reduceGE,reduceCtorEq]
    refine hE ?_ _ g0
    have := of_decide_eq_true d3
    simp only [show decide (1 ≤ HH) = false from decide_eq_false (by omega), Bool.false_and, Bool.and_false]
  have f3 := of_decide_eq_false d3
  cases d4 : decide (HH > 128)
  case true =>
    simp only [c0, d1, d2, d3, d4, ↓zP,zV,Nat.reduceAdd,Nat.reduceMul,Nat.reduceLT,Nat.reduceEqDiff,Nat.reduceLeDiff,Int.reduceLE,Int.reduceLT,Int.reduceBNe,Int.reduceBEq,Int.reduceNeg,Int.reduceEq,Int.reduceAdd,Int.reduceGT,Int.reduceGE,reduceCtorEq]
    refine hE ?_ _ g0
    have := of_decide_eq_true d4
    simp only [show decide (HH ≤ 128) = false from decide_eq_false (by omega), Bool.false_and, Bool.and_false]
  have f4 := of_decide_eq_false d4
  have hb2 : WW * HH ≤ 128 * 128 := Int.mul_le_mul (by omega) (by omega) (by omega) (by omega)
  have hb1 : 0 ≤ WW * HH := Int.mul_nonneg (by omega) (by omega)
  have e1 : IntKind.i64.wrap (WW * HH) = WW * HH := wi64 (by omega) (by omega)
  cases d5 : ((T.length : Int) != WW * HH)
  case true =>
    simp only [c0, d1, d2, d3, d4, d5, e1, al, ↓zP,zV,Nat.reduceAdd,Nat.reduceMul,Nat.reduceLT,Nat.reduceEqDiff,Nat.reduceLeDiff,Int.reduceLE,Int.reduceLT,Int.reduceBNe,Int.reduceBEq,Int.reduceNeg,Int.reduceEq,Int.reduceAdd,Int.reduceGT,Int.reduceGE,reduceCtorEq]
    refine hE ?_ _ g0
    have d5' : ¬ (T.length : Int) = WW * HH := by simpa using d5
    simp only [show decide ((T.length : Int) = WW * HH) = false from decide_eq_false d5', Bool.false_and, Bool.and_false]
  have f5 : (T.length : Int) = WW * HH := by simpa using d5
  simp only [show decide (1 ≤ WW) = true from decide_eq_true (by omega), show decide (WW ≤ 128) = true from decide_eq_true (by omega), show decide (1 ≤ HH) = true from decide_eq_true (by omega), show decide (HH ≤ 128) = true from decide_eq_true (by omega), show decide ((T.length : Int) = WW * HH) = true from decide_eq_true f5, Bool.true_and] at hE hO
  simp only [c0, d1, d2, d3, d4, d5, e1, al, ↓zP,zV,Nat.reduceAdd,Nat.reduceMul,Nat.reduceLT,Nat.reduceEqDiff,Nat.reduceLeDiff,Int.reduceLE,Int.reduceLT,Int.reduceBNe,Int.reduceBEq,Int.reduceNeg,Int.reduceEq,Int.reduceAdd,Int.reduceGT,Int.reduceGE,reduceCtorEq]
  refine aloop_forF (fun k f s => s = S ∧ ∃ i : Nat, k + i = m ∧ i ≤ T.length ∧ T.all (fun t => decide (t < 4)) = (T.drop i).all (fun t => decide (t < 4)) ∧ f 1 = .ref st.length 0 ∧ f 40 = tv ∧ f 41 = .sc (.int .i64 T.length) ∧ f 42 = .sc (.int .i64 i)) ⟨rfl, 0, by omega, by omega, rfl, by simp only [zF,Nat.reduceEqDiff,Nat.reduceLT], by simp only [zF,Nat.reduceEqDiff,Nat.reduceLT], by simp only [zF,Nat.reduceEqDiff,Nat.reduceLT], by simp only [zF,Nat.reduceEqDiff,Nat.reduceLT]; rfl⟩ ?_
  rintro I' hI' k f s ⟨rfl, i, hk, hi, hp, q1, q40, q41, q42⟩
  refine ⟨k - 1, by omega, ?_⟩
  by_cases hil : i < T.length
  · have d : decide ((i : Int) < T.length) = true := decide_eq_true (by omega)
    have e3 : IntKind.i64.wrap ((i : Int) + 1) = ((i + 1 : Nat) : Int) := by rw [IntWalk.i64_in _ (by omega)]; rfl
    have p1 := aix_rd ht0 Tryz.underlying22 sz5 .i64 (j := (i : Int)) (by omega) (by omega)
    have p2 := ald_ix ht0 sz5 sz5 (by omega) hil (o := 0) (by omega)
    have p3 : aload Tryz.prog 5 ((bs T).drop (i * 1 + 0)) = some (.sc (.int .u8 T[i])) := by
      simp only [aload, ag5, Nat.mul_one, Nat.add_zero]
      rw [List.getElem?_drop, Nat.add_zero]
      simp only [bs, List.getElem?_map, List.getElem?_eq_getElem hil, Option.map_some]
    rw [p3] at p2
    simp only [Int.toNat_natCast] at p1
    have hd : T.drop i = T[i] :: T.drop (i + 1) := List.drop_eq_getElem_cons hil
    rw [hd, List.all_cons] at hp
    cases d6 : decide (T[i] ≥ 4)
    · have d6' : decide (T[i] < 4) = true := decide_eq_true (by have := of_decide_eq_false d6; omega)
      rw [d6', Bool.true_and] at hp
      simp only [q1, q40, q41, q42, d, p1, p2, d6, e3, ↓zP,zV,Nat.reduceAdd,Nat.reduceMul,Nat.reduceLT,Nat.reduceEqDiff,Nat.reduceLeDiff,Int.reduceLE,Int.reduceLT,Int.reduceBNe,Int.reduceBEq,Int.reduceNeg,Int.reduceEq,Int.reduceAdd,Int.reduceGT,Int.reduceGE,reduceCtorEq]
      exact hI' _ _ _ ⟨rfl, i + 1, by omega, hil, hp, by simp only [q1, zF,Nat.reduceEqDiff,Nat.reduceLT], by simp only [q40, zF,Nat.reduceEqDiff,Nat.reduceLT], by simp only [q41, zF,Nat.reduceEqDiff,Nat.reduceLT], by simp only [zF,Nat.reduceEqDiff,Nat.reduceLT]⟩
    · have d6' : decide (T[i] < 4) = false := decide_eq_false (by have := of_decide_eq_true d6; omega)
      rw [d6', Bool.false_and] at hp
      simp only [q1, q40, q41, q42, d, p1, p2, d6, ↓zP,zV,Nat.reduceAdd,Nat.reduceMul,Nat.reduceLT,Nat.reduceEqDiff,Nat.reduceLeDiff,Int.reduceLE,Int.reduceLT,Int.reduceBNe,Int.reduceBEq,Int.reduceNeg,Int.reduceEq,Int.reduceAdd,Int.reduceGT,Int.reduceGE,reduceCtorEq]
      refine hE ?_ _ g0
      rw [hp, Bool.false_and]
  · have d : decide ((i : Int) < T.length) = false := decide_eq_false (by omega)
    obtain rfl : i = T.length := by omega
    rw [List.drop_length] at hp
    simp only [List.all_nil] at hp
    simp only [hp, Bool.true_and] at hE hO
    have c0X := fun X => Grw.push s X _ _ c0
    simp only [q1, q40, q41, q42, d, c0, c0X, ↓zP,zV,Nat.reduceAdd,Nat.reduceMul,Nat.reduceLT,Nat.reduceEqDiff,Nat.reduceLeDiff,Int.reduceLE,Int.reduceLT,Int.reduceBNe,Int.reduceBEq,Int.reduceNeg,Int.reduceEq,Int.reduceAdd,Int.reduceGT,Int.reduceGE,reduceCtorEq]
    refine c_cloneB (n := n + 7) (ht0.grw (.push _ _)) (closed_bs _) (by omega) fun tv' s2 tl g2 hr2 => ?_
    have c2 := g2 _ _ (c0X _)
    obtain ⟨ot1, ot2⟩ := tl.one
    have p0 : s2[s.length]? = some Ob.gone := g2 _ _ (get_new _ _ 0)
    have p1 : ∀ o, (s2.set s.length o)[s.length + 1]? = some Ob.gone := fun o => by rw [List.getElem?_set_ne (by omega)]; exact g2 _ _ (get_new _ _ 1)
    have p2 : ∀ o o', ((s2.set s.length o).set (s.length + 1) o')[s.length + 2]? = some Ob.gone := fun o o' => by rw [List.getElem?_set_ne (by omega), List.getElem?_set_ne (by omega)]; exact g2 _ _ (get_new _ _ 2)
    have lst : st.length < s.length := (List.getElem?_eq_some_iff.1 c0).1
    have c3 : ∀ o o' o'', (((s2.set s.length o).set (s.length + 1) o').set (s.length + 2) o'')[st.length]? = s2[st.length]? := fun o o' o'' => by rw [List.getElem?_set_ne (by omega), List.getElem?_set_ne (by omega), List.getElem?_set_ne (by omega)]
    have ls2 : s.length + 2 < s2.length := (List.getElem?_eq_some_iff.1 (p2 Ob.gone Ob.gone)).1 |> fun h => by simpa using h
    simp only [q1, q40, q41, q42, d, c0, c0X, c2, ot1, ot2, g2, p0, p1, p2, c3, ↓zP,zV,Nat.reduceAdd,Nat.reduceMul,Nat.reduceLT,Nat.reduceEqDiff,Nat.reduceLeDiff,Int.reduceLE,Int.reduceLT,Int.reduceBNe,Int.reduceBEq,Int.reduceNeg,Int.reduceEq,Int.reduceAdd,Int.reduceGT,Int.reduceGE,reduceCtorEq]
    generalize hs3 : ((s2.set s.length _).set (s.length + 1) _).set (s.length + 2) _ = s3
    have g3 : Grw st s3 := by
      rw [← hs3]
      exact ((((g0.trans (Grw.push _ _)).trans g2).set (by omega) _).set (by omega) _).set (by omega) _
    have w3 : Wg s3 (s.length + 2) s.length (s.length + 1) WW HH tv' (.tsl [] 0 true true) (bs T) [] [] [] := by
      have lbs : (bs T).length = T.length := by simp [bs]
      refine ⟨⟨?_, ?_, ?_⟩, ?_, .inl ⟨rfl, rfl, rfl⟩, (fun j hj h => (by cases h)), by omega, (fun i v h => (by cases h))⟩
      · rw [← hs3, List.getElem?_set_self (by simpa using ls2)]
      · rw [← hs3, List.getElem?_set_ne (by omega), List.getElem?_set_ne (by omega), List.getElem?_set_self (by omega)]; rfl
      · rw [← hs3, List.getElem?_set_ne (by omega), List.getElem?_set_self (by simp; omega)]; rfl
      · rw [lbs]
        refine tl.of fun j o hj ho => ?_
        have := hr2 j hj
        simp only [List.length_append, List.length_cons, List.length_nil] at this
        rw [← hs3, List.getElem?_set_ne (by omega), List.getElem?_set_ne (by omega), List.getElem?_set_ne (by omega)]
        exact ho
    have hr3 : ∀ j, rowOf tv' = some j → st.length ≤ j := fun j hj => by
      have := hr2 j hj
      simp only [List.length_append] at this
      omega
    have alb3 := alen_rd (hb.grw g3) Tryz.underlying23
    have c33 : s3[st.length]? = some (Ob.cells [V.sc (Value.int IntKind.i64 WW), V.sc (Value.int IntKind.i64 HH), tv, bv]) := by rw [← hs3, c3]; exact c2
    simp only [c33, alb3, ↓zP,zV,Nat.reduceAdd,Nat.reduceMul,Nat.reduceLT,Nat.reduceEqDiff,Nat.reduceLeDiff,Int.reduceLE,Int.reduceLT,Int.reduceBNe,Int.reduceBEq,Int.reduceNeg,Int.reduceEq,Int.reduceAdd,Int.reduceGT,Int.reduceGE,reduceCtorEq]
    generalize hwd : s.length + 2 = wd at w3
    generalize hwa : s.length = wa at w3
    have hwd0 : st.length ≤ wd := by omega
    have hwa0 : st.length ≤ wa := by omega
    refine aloop_forF (fun k f s => ∃ (i : Nat) (us : List (Int × V)) (os : List ((Int × Int) × V)) (ds : List R4) (dv : V) (last : Int), k + i = m ∧ i ≤ L.length ∧ us.length = i ∧ ds.length = i ∧ i ≤ 256 ∧ Wg s wd wa (wa + 1) WW HH tv' dv (bs T) us os ds ∧ goAll WW HH 0 [] [] L = goAll WW HH last us os (L.drop i) ∧ Grw st s ∧ (∀ j, rowOf dv = some j → st.length ≤ j) ∧ f 6 = .ref wd 0 ∧ f 7 = .sc (.int .i64 last) ∧ f 61 = bv ∧ f 62 = .sc (.int .i64 L.length) ∧ f 63 = .sc (.int .i64 i)) ⟨0, [], [], [], .tsl [] 0 true true, 0, by omega, by omega, rfl, rfl, by omega, w3, rfl, g3, (fun j h => (by cases h)), by simp only [zF,Nat.reduceEqDiff,Nat.reduceLT], by simp only [zF,Nat.reduceEqDiff,Nat.reduceLT], by simp only [zF,Nat.reduceEqDiff,Nat.reduceLT], by simp only [zF,Nat.reduceEqDiff,Nat.reduceLT], by simp only [zF,Nat.reduceEqDiff,Nat.reduceLT]; rfl⟩ ?_
    rintro I2 hI2 k2 f2 s5 ⟨i, us, os, ds, dv, last, hk2, hi2, hu2, hd2, hi256, w5, hp5, g5, hr5, q6, q7, q61, q62, q63⟩
    refine ⟨k2 - 1, by omega, ?_⟩
    by_cases hil2 : i < L.length
    · have d : decide ((i : Int) < L.length) = true := decide_eq_true (by omega)
      have e3 : IntKind.i64.wrap ((i : Int) + 1) = ((i + 1 : Nat) : Int) := by rw [IntWalk.i64_in _ (by omega)]; rfl
      obtain ⟨p1, p2⟩ := ix_flat (f := B4.v) (fun a => rfl) (hb.grw g5) Tryz.underlying23 sz115 ag115 (by omega) hil2
      have hd : L.drop i = L[i] :: L.drop (i + 1) := List.drop_eq_getElem_cons hil2
      rw [hd] at hp5
      simp only [goAll] at hp5
      generalize hu : L[i] = u at hp5 p2
      simp only [B4.v, bd, rc] at p2
      have p2X := fun X => (ix_flat (f := B4.v) (fun a => rfl) (hb.grw (g5.trans (Grw.push s5 X))) Tryz.underlying23 sz115 ag115 (by omega) hil2).2
      rw [hu] at p2X
      simp only [B4.v, bd, rc] at p2X
      cases d7 : decide (u.id ≤ last)
      case true =>
        rw [if_pos (of_decide_eq_true d7)] at hp5
        simp only [q6, q7, q61, q62, q63, d, p1, p2, p2X, d7, ↓zP,zV,Nat.reduceAdd,Nat.reduceMul,Nat.reduceLT,Nat.reduceEqDiff,Nat.reduceLeDiff,Int.reduceLE,Int.reduceLT,Int.reduceBNe,Int.reduceBEq,Int.reduceNeg,Int.reduceEq,Int.reduceAdd,Int.reduceGT,Int.reduceGE,reduceCtorEq]
        refine hE (by rw [hp5]; rfl) _ (g5.trans (Grw.push _ _))
      have d7' := of_decide_eq_false d7
      rw [if_neg d7'] at hp5
      simp only [q6, q7, q61, q62, q63, d, p1, p2, p2X, d7, ↓zP,zV,Nat.reduceAdd,Nat.reduceMul,Nat.reduceLT,Nat.reduceEqDiff,Nat.reduceLeDiff,Int.reduceLE,Int.reduceLT,Int.reduceBNe,Int.reduceBEq,Int.reduceNeg,Int.reduceEq,Int.reduceAdd,Int.reduceGT,Int.reduceGE,reduceCtorEq]
      have gp := Grw.push s5 [Ob.cells (bd u.id u.x u.y u.w u.h)]
      simp only [bd, rc] at gp
      have hla : s5[wd]? ≠ none := by rw [w5.wd.w]; simp
      refine w_Place1 (n := n) (w5.grw gp) (by omega) (by omega) (by omega) ?_ ?_
      · intro hne s6 g6
        have e8 : (mayE us os WW HH u.id u.x u.y u.w u.h != 0) = true := by simpa using hne
        rw [if_neg hne] at hp5
        simp only [e8, ↓zP,zV,Nat.reduceAdd,Nat.reduceMul,Nat.reduceLT,Nat.reduceEqDiff,Nat.reduceLeDiff,Int.reduceLE,Int.reduceLT,Int.reduceBNe,Int.reduceBEq,Int.reduceNeg,Int.reduceEq,Int.reduceAdd,Int.reduceGT,Int.reduceGE,reduceCtorEq]
        exact hE (by rw [hp5]; rfl) _ ((g5.trans gp).trans g6)
      · intro he dv' s6 w6 pk6 nw6
        rw [if_pos he] at hp5
        obtain ⟨_, m2, m3, _⟩ := mayE_zero he
        have l5 : wd < s5.length ∧ wa < s5.length ∧ wa + 1 < s5.length := ⟨(List.getElem?_eq_some_iff.1 w5.wd.w).1, (List.getElem?_eq_some_iff.1 w5.wd.us).1, (List.getElem?_eq_some_iff.1 w5.wd.os).1⟩
        have ndv : rowOf dv ≠ some s5.length := fun h => by
          rcases w5.dl with ⟨rfl, _, _⟩ | ⟨id, lo, rfl, h1, _⟩
          · cases h
          · simp only [rowOf, Option.some.injEq] at h
            have := (List.getElem?_eq_some_iff.1 h1).1
            omega
        have c6 := pk6.2 _ _ (by omega) (by omega) (by omega) ndv (get_new0 s5 [Ob.cells [V.sc (Value.int IntKind.i64 u.id), V.sc (Value.int IntKind.i64 u.x), V.sc (Value.int IntKind.i64 u.y), V.sc (Value.int IntKind.i64 u.w), V.sc (Value.int IntKind.i64 u.h)]])
        simp only [q6, q7, q61, q62, q63, c6, e3, ↓zP,zV,Nat.reduceAdd,Nat.reduceMul,Nat.reduceLT,Nat.reduceEqDiff,Nat.reduceLeDiff,Int.reduceLE,Int.reduceLT,Int.reduceBNe,Int.reduceBEq,Int.reduceNeg,Int.reduceEq,Int.reduceAdd,Int.reduceGT,Int.reduceGE,reduceCtorEq]
        refine hI2 _ _ _ ⟨i + 1, _, _, _, dv', u.id, by omega, hil2, ?_, ?_, by omega, w6, hp5, ?_, ?_, by simp only [q6, zF,Nat.reduceEqDiff,Nat.reduceLT], by simp only [zF,Nat.reduceEqDiff,Nat.reduceLT], by simp only [q61, zF,Nat.reduceEqDiff,Nat.reduceLT], by simp only [q62, zF,Nat.reduceEqDiff,Nat.reduceLT], by simp only [zF,Nat.reduceEqDiff,Nat.reduceLT]⟩
        · rw [putI_len, m2]; simp only [Option.isSome_none, Bool.false_eq_true, if_false]; omega
        · rw [List.length_append, hd2]; rfl
        · intro j o ho
          have lj : j < st.length := (List.getElem?_eq_some_iff.1 ho).1
          exact pk6.2 _ _ (by omega) (by omega) (by omega) (fun h => by have := hr5 j h; omega) (gp _ _ (g5 _ _ ho))
        · intro j hj
          rcases nw6 j hj with h | h
          · exact hr5 j h
          · have := g5.le
            simp only [List.length_append] at h
            omega
    · have d : decide ((i : Int) < L.length) = false := decide_eq_false (by omega)
      obtain rfl : i = L.length := by omega
      rw [List.drop_length] at hp5
      simp only [goAll] at hp5
      have w5w := w5.wd.w
      simp only [q6, q7, q61, q62, q63, d, w5w, ↓zP,zV,Nat.reduceAdd,Nat.reduceMul,Nat.reduceLT,Nat.reduceEqDiff,Nat.reduceLeDiff,Int.reduceLE,Int.reduceLT,Int.reduceBNe,Int.reduceBEq,Int.reduceNeg,Int.reduceEq,Int.reduceAdd,Int.reduceGT,Int.reduceGE,reduceCtorEq]
      rw [hp5] at hO
      have lwd : wd < s5.length := (List.getElem?_eq_some_iff.1 w5w).1
      have k9 : ∀ (o' : Ob) j o, j ≠ wd → s5[j]? = some o → (s5.set wd o')[j]? = some o := fun o' j o hj ho => by rw [List.getElem?_set_ne (Ne.symm hj)]; exact ho
      refine hO rfl wd wa (wa + 1) tv' us os _ rfl ⟨⟨List.getElem?_set_self lwd, k9 _ _ _ (Ne.symm w5.wd.nwa) w5.wd.us, k9 _ _ _ (Ne.symm w5.wd.nwb) w5.wd.os⟩, w5.tl.of fun j o hj ho => k9 _ _ _ (fun h => w5.tl.ncells w5w (by rw [← h]; exact hj)) ho, .inl ⟨rfl, rfl, rfl⟩, (fun j hj h => (by cases h)), w5.ab, w5.rcs⟩ (g5.set hwd0 _) hwd0 hwa0 (by omega) hr3
end
section
variable {P : Program}
theorem pr_partS {t : TypeId} {fs : Array Field} {s : Nat} (h : P.underlying t = some (.struct fs)) (hs : szOf P t = some s) (cs : Array Value) (off : Nat) : pureRun P (part t cs off) = some (.agg (cs.extract off (off + s))) := by
  obtain ⟨i, hi, rfl⟩ := Option.map_eq_some_iff.1 hs
  unfold part isAgg sizeOf typeInfo
  have e : pureRun P program = some P := rfl
  simp only [pr_bind, pureRun_underlying h, Option.bind_some, pureRun_pure]
  rw [if_pos trivial]
  simp only [pr_bind, e, Option.bind_some, hi, pureRun_pure]
theorem pr_eqConsS {d : Nat} {f : Field} {fs : List Field} {g : Array Field} {s : Nat} {xs ys : Array Value} {r : Bool} (hn : f.name ≠ "_") (h : P.underlying f.type = some (.struct g)) (hs : szOf P f.type = some s)
    (he : pureRun P (Op.equalIn d f.type (.agg (xs.extract f.offset (f.offset + s))) (.agg (ys.extract f.offset (f.offset + s)))) = some r) :
    pureRun P (Op.eqFields d xs ys (f :: fs)) = if r then pureRun P (Op.eqFields d xs ys fs) else some false := by
  rw [Op.eqFields, if_pos hn]
  simp only [pr_bind, pr_partS h hs, Option.bind_some, he]
  cases r <;> simp [pureRun_pure]
end
theorem eq_cell (d : Nat) (a b a' b' : Int) : pureRun Tryz.prog (Op.equalIn (d + 2) 31 (.agg #[.int .i64 a, .int .i64 b]) (.agg #[.int .i64 a', .int .i64 b'])) = some (a == a' && b == b') := by
  rw [pr_eqStruct _ _ Tryz.underlying31 (by kernel_rfl)]
  rw [pr_eqCons (d := d) (a := a) (b := a') (k := .i64) (by decide) Tryz.underlying3 (by rfl) (by rfl), pr_eqCons (d := d) (a := b) (b := b') (k := .i64) (by decide) Tryz.underlying3 (by rfl) (by rfl)]
  cases (a == a') <;> cases (b == b') <;> simp [Op.eqFields, pureRun_pure]
section
variable {n m : Nat} {st : List Ob} {K : V → List Ob → Prop} {x y w h a b x2 y2 w2 h2 id : Int}
set_option maxHeartbeats 1000000 in
theorem r_Has (hK : ∀ s, Grw st s → K (.sc (.bool (hasB x y w h a b))) s) : acallF Tryz.prog pl (n + 4) m 106 [.agg (rc x y w h), .agg (cl a b)] st K := by
  refine acallF_inF Tryz.func106 rfl rfl Tryz.ntmps106 (by simp) ?_
  have g0 := Grw.push st [.cells (rc x y w h), .cells (cl a b)]
  have x0 : (st ++ [Ob.cells (rc x y w h), .cells (cl a b)])[st.length]? = some (.cells (rc x y w h)) := get_new _ _ 0
  have x0' : (st ++ [Ob.cells (rc x y w h), .cells (cl a b)])[st.length + 1]? = some (.cells (cl a b)) := get_new _ _ 1
  simp only [rc, cl] at g0 x0 x0'
  simp only [rc, cl, x0, ↓zP,zV,Nat.reduceAdd,Nat.reduceMul,Nat.reduceLT,Nat.reduceEqDiff,Nat.reduceLeDiff,Int.reduceLE,Int.reduceLT,Int.reduceBNe,Int.reduceBEq,Int.reduceNeg,Int.reduceEq,Int.reduceAdd,Int.reduceGT,Int.reduceGE,reduceCtorEq]
  refine r_May (n := n) fun s1 j1 => ?_
  have x1 := j1 _ _ x0
  have x1' := j1 _ _ x0'
  have g1 := g0.trans j1
  unfold hasB at hK
  cases e1 : mayB x y w h
  · simp only [e1, Bool.false_and] at hK
    simp only [x0, x0', x1, x1', j1, ↓zP,zV,Nat.reduceAdd,Nat.reduceMul,Nat.reduceLT,Nat.reduceEqDiff,Nat.reduceLeDiff,Int.reduceLE,Int.reduceLT,Int.reduceBNe,Int.reduceBEq,Int.reduceNeg,Int.reduceEq,Int.reduceAdd,Int.reduceGT,Int.reduceGE,reduceCtorEq]
    exact hK _ g1
  have m1 := e1
  simp only [mayB, Bool.and_eq_true] at m1
  simp only [e1, Bool.true_and, inB] at hK
  cases d1 : decide (a ≥ x)
  · simp only [d1, Bool.false_and] at hK
    simp only [x0, x0', x1, x1', j1, d1, ↓zP,zV,Nat.reduceAdd,Nat.reduceMul,Nat.reduceLT,Nat.reduceEqDiff,Nat.reduceLeDiff,Int.reduceLE,Int.reduceLT,Int.reduceBNe,Int.reduceBEq,Int.reduceNeg,Int.reduceEq,Int.reduceAdd,Int.reduceGT,Int.reduceGE,reduceCtorEq]
    exact hK _ g1
  cases d3 : decide (b ≥ y)
  · simp only [d1, d3, Bool.false_and, Bool.and_false] at hK
    simp only [x0, x0', x1, x1', j1, d1, d3, ↓zP,zV,Nat.reduceAdd,Nat.reduceMul,Nat.reduceLT,Nat.reduceEqDiff,Nat.reduceLeDiff,Int.reduceLE,Int.reduceLT,Int.reduceBNe,Int.reduceBEq,Int.reduceNeg,Int.reduceEq,Int.reduceAdd,Int.reduceGT,Int.reduceGE,reduceCtorEq]
    exact hK _ g1
  simp only [x0, x0', x1, x1', j1, d1, d3, ↓zP,zV,Nat.reduceAdd,Nat.reduceMul,Nat.reduceLT,Nat.reduceEqDiff,Nat.reduceLeDiff,Int.reduceLE,Int.reduceLT,Int.reduceBNe,Int.reduceBEq,Int.reduceNeg,Int.reduceEq,Int.reduceAdd,Int.reduceGT,Int.reduceGE,reduceCtorEq]
  refine r_Last m1.1.1.1.1 m1.1.1.1.2 m1.1.1.2 m1.1.2 fun s2 j2 => ?_
  have x2 := j2 _ _ x1
  have x2' := j2 _ _ x1'
  have g2 := g1.trans j2
  cases d2 : decide (a ≤ x + w - 1)
  · simp only [d1, d2, d3, Bool.false_and, Bool.and_false] at hK
    simp only [cl, x0, x0', x1, x1', x2, x2', j1, j2, d1, d2, d3, ↓zP,zV,Nat.reduceAdd,Nat.reduceMul,Nat.reduceLT,Nat.reduceEqDiff,Nat.reduceLeDiff,Int.reduceLE,Int.reduceLT,Int.reduceBNe,Int.reduceBEq,Int.reduceNeg,Int.reduceEq,Int.reduceAdd,Int.reduceGT,Int.reduceGE,reduceCtorEq]
    exact hK _ g2
  simp only [cl, x0, x0', x1, x1', x2, x2', j1, j2, d1, d2, d3, ↓zP,zV,Nat.reduceAdd,Nat.reduceMul,Nat.reduceLT,Nat.reduceEqDiff,Nat.reduceLeDiff,Int.reduceLE,Int.reduceLT,Int.reduceBNe,Int.reduceBEq,Int.reduceNeg,Int.reduceEq,Int.reduceAdd,Int.reduceGT,Int.reduceGE,reduceCtorEq]
  refine r_Last m1.1.1.1.1 m1.1.1.1.2 m1.1.1.2 m1.1.2 fun s3 j3 => ?_
  have x3 := j3 _ _ x2
  have x3' := j3 _ _ x2'
  simp only [d1, d2, d3, Bool.true_and] at hK
  simp only [cl, x0, x0', x1, x1', x2, x2', x3, x3', j1, j2, j3, d1, d2, d3, ↓zP,zV,Nat.reduceAdd,Nat.reduceMul,Nat.reduceLT,Nat.reduceEqDiff,Nat.reduceLeDiff,Int.reduceLE,Int.reduceLT,Int.reduceBNe,Int.reduceBEq,Int.reduceNeg,Int.reduceEq,Int.reduceAdd,Int.reduceGT,Int.reduceGE,reduceCtorEq]
  exact hK _ (g2.trans j3)
set_option maxHeartbeats 1000000 in
theorem r_Within (hK : ∀ s, Grw st s → K (.sc (.bool (withinB x y w h x2 y2 w2 h2))) s) : acallF Tryz.prog pl (n + 5) m 72 [.agg (rc x y w h), .agg (rc x2 y2 w2 h2)] st K := by
  refine acallF_inF Tryz.func72 rfl rfl Tryz.ntmps72 (by simp) ?_
  have g0 := Grw.push st [.cells (rc x y w h), .cells (rc x2 y2 w2 h2)]
  have c0 : (st ++ [Ob.cells (rc x y w h), .cells (rc x2 y2 w2 h2)])[st.length]? = some (.cells (rc x y w h)) := get_new _ _ 0
  have c0' : (st ++ [Ob.cells (rc x y w h), .cells (rc x2 y2 w2 h2)])[st.length + 1]? = some (.cells (rc x2 y2 w2 h2)) := get_new _ _ 1
  simp only [rc] at g0 c0 c0'
  simp only [rc, c0, ↓zP,zV,Nat.reduceAdd,Nat.reduceMul,Nat.reduceLT,Nat.reduceEqDiff,Nat.reduceLeDiff,Int.reduceLE,Int.reduceLT,Int.reduceBNe,Int.reduceBEq,Int.reduceNeg,Int.reduceEq,Int.reduceAdd,Int.reduceGT,Int.reduceGE,reduceCtorEq]
  refine r_May (n := n + 1) fun s1 j1 => ?_
  have c1 := j1 _ _ c0
  have c1' := j1 _ _ c0'
  have g1 := g0.trans j1
  unfold withinB at hK
  cases e1 : mayB x y w h
  · simp only [e1, Bool.false_and] at hK
    simp only [c0, c0', c1, c1', j1, ↓zP,zV,Nat.reduceAdd,Nat.reduceMul,Nat.reduceLT,Nat.reduceEqDiff,Nat.reduceLeDiff,Int.reduceLE,Int.reduceLT,Int.reduceBNe,Int.reduceBEq,Int.reduceNeg,Int.reduceEq,Int.reduceAdd,Int.reduceGT,Int.reduceGE,reduceCtorEq]
    exact hK _ g1
  have m1 := e1
  simp only [mayB, Bool.and_eq_true] at m1
  simp only [e1, Bool.true_and] at hK
  simp only [c0, c0', c1, c1', j1, ↓zP,zV,Nat.reduceAdd,Nat.reduceMul,Nat.reduceLT,Nat.reduceEqDiff,Nat.reduceLeDiff,Int.reduceLE,Int.reduceLT,Int.reduceBNe,Int.reduceBEq,Int.reduceNeg,Int.reduceEq,Int.reduceAdd,Int.reduceGT,Int.reduceGE,reduceCtorEq]
  refine r_Has (n := n) fun s2 j2 => ?_
  have c2 := j2 _ _ c1
  have c2' := j2 _ _ c1'
  have g2 := g1.trans j2
  cases e2 : hasB x2 y2 w2 h2 x y
  · simp only [e2, Bool.false_and] at hK
    simp only [c0, c0', c1, c1', c2, c2', j1, j2, ↓zP,zV,Nat.reduceAdd,Nat.reduceMul,Nat.reduceLT,Nat.reduceEqDiff,Nat.reduceLeDiff,Int.reduceLE,Int.reduceLT,Int.reduceBNe,Int.reduceBEq,Int.reduceNeg,Int.reduceEq,Int.reduceAdd,Int.reduceGT,Int.reduceGE,reduceCtorEq]
    exact hK _ g2
  simp only [e2, Bool.true_and] at hK
  simp only [c0, c0', c1, c1', c2, c2', j1, j2, ↓zP,zV,Nat.reduceAdd,Nat.reduceMul,Nat.reduceLT,Nat.reduceEqDiff,Nat.reduceLeDiff,Int.reduceLE,Int.reduceLT,Int.reduceBNe,Int.reduceBEq,Int.reduceNeg,Int.reduceEq,Int.reduceAdd,Int.reduceGT,Int.reduceGE,reduceCtorEq]
  refine r_Last m1.1.1.1.1 m1.1.1.1.2 m1.1.1.2 m1.1.2 fun s3 j3 => ?_
  have c3 := j3 _ _ c2
  have c3' := j3 _ _ c2'
  have g3 := g2.trans j3
  simp only [c0, c0', c1, c1', c2, c2', c3, c3', j1, j2, j3, ↓zP,zV,Nat.reduceAdd,Nat.reduceMul,Nat.reduceLT,Nat.reduceEqDiff,Nat.reduceLeDiff,Int.reduceLE,Int.reduceLT,Int.reduceBNe,Int.reduceBEq,Int.reduceNeg,Int.reduceEq,Int.reduceAdd,Int.reduceGT,Int.reduceGE,reduceCtorEq]
  refine r_Has (n := n) fun s4 j4 => ?_
  have c4 := j4 _ _ c3
  have c4' := j4 _ _ c3'
  simp only [c0, c0', c1, c1', c2, c2', c3, c3', c4, c4', j1, j2, j3, j4, ↓zP,zV,Nat.reduceAdd,Nat.reduceMul,Nat.reduceLT,Nat.reduceEqDiff,Nat.reduceLeDiff,Int.reduceLE,Int.reduceLT,Int.reduceBNe,Int.reduceBEq,Int.reduceNeg,Int.reduceEq,Int.reduceAdd,Int.reduceGT,Int.reduceGE,reduceCtorEq]
  exact hK _ (g3.trans j4)
theorem bmay_w {W H : Int} (h0 : w < 1) : bmayB id x y w h W H = false := by
  cases e : bmayB id x y w h W H
  · rfl
  · simp only [bmayB, withinB, mayB, sideB, Bool.and_eq_true, decide_eq_true_eq] at e; omega
theorem bmay_h {W H : Int} (h0 : h < 1) : bmayB id x y w h W H = false := by
  cases e : bmayB id x y w h W H
  · rfl
  · simp only [bmayB, withinB, mayB, sideB, Bool.and_eq_true, decide_eq_true_eq] at e; omega
set_option maxHeartbeats 1000000 in
theorem r_MayBe {W H : Int} (hK : ∀ s, Grw st s → K (.sc (.bool (bmayB id x y w h W H))) s) : acallF Tryz.prog pl (n + 6) m 91 [.agg (bd id x y w h), .agg (rc 0 0 W H)] st K := by
  refine acallF_inF Tryz.func91 rfl rfl Tryz.ntmps91 (by simp) ?_
  have g0 := Grw.push st [.cells (bd id x y w h), .cells (rc 0 0 W H)]
  simp only [bd, rc] at g0
  cases d5 : decide (w ≥ 1)
  · rw [bmay_w (by have := of_decide_eq_false d5; omega)] at hK
    cases d1 : decide (id ≥ 1)
    · simp only [bd, rc, d1, d5, get_new, get_new0, ↓zP,zV,Nat.reduceAdd,Nat.reduceMul,Nat.reduceLT,Nat.reduceEqDiff,Nat.reduceLeDiff,Int.reduceLE,Int.reduceLT,Int.reduceBNe,Int.reduceBEq,Int.reduceNeg,Int.reduceEq,Int.reduceAdd,Int.reduceGT,Int.reduceGE,reduceCtorEq]
      exact hK _ g0
    cases d2 : decide (id ≤ 2147483647)
    · simp only [bd, rc, d1, d2, d5, get_new, get_new0, ↓zP,zV,Nat.reduceAdd,Nat.reduceMul,Nat.reduceLT,Nat.reduceEqDiff,Nat.reduceLeDiff,Int.reduceLE,Int.reduceLT,Int.reduceBNe,Int.reduceBEq,Int.reduceNeg,Int.reduceEq,Int.reduceAdd,Int.reduceGT,Int.reduceGE,reduceCtorEq]
      exact hK _ g0
    simp only [bd, rc, d1, d2, d5, get_new, get_new0, ↓zP,zV,Nat.reduceAdd,Nat.reduceMul,Nat.reduceLT,Nat.reduceEqDiff,Nat.reduceLeDiff,Int.reduceLE,Int.reduceLT,Int.reduceBNe,Int.reduceBEq,Int.reduceNeg,Int.reduceEq,Int.reduceAdd,Int.reduceGT,Int.reduceGE,reduceCtorEq]
    exact hK _ g0
  cases d6 : decide (h ≥ 1)
  · rw [bmay_h (by have := of_decide_eq_false d6; omega)] at hK
    cases d1 : decide (id ≥ 1)
    · simp only [bd, rc, d1, d5, d6, get_new, get_new0, ↓zP,zV,Nat.reduceAdd,Nat.reduceMul,Nat.reduceLT,Nat.reduceEqDiff,Nat.reduceLeDiff,Int.reduceLE,Int.reduceLT,Int.reduceBNe,Int.reduceBEq,Int.reduceNeg,Int.reduceEq,Int.reduceAdd,Int.reduceGT,Int.reduceGE,reduceCtorEq]
      exact hK _ g0
    cases d2 : decide (id ≤ 2147483647)
    · simp only [bd, rc, d1, d2, d5, d6, get_new, get_new0, ↓zP,zV,Nat.reduceAdd,Nat.reduceMul,Nat.reduceLT,Nat.reduceEqDiff,Nat.reduceLeDiff,Int.reduceLE,Int.reduceLT,Int.reduceBNe,Int.reduceBEq,Int.reduceNeg,Int.reduceEq,Int.reduceAdd,Int.reduceGT,Int.reduceGE,reduceCtorEq]
      exact hK _ g0
    cases d3 : decide (w ≤ 8)
    · simp only [bd, rc, d1, d2, d3, d5, d6, get_new, get_new0, ↓zP,zV,Nat.reduceAdd,Nat.reduceMul,Nat.reduceLT,Nat.reduceEqDiff,Nat.reduceLeDiff,Int.reduceLE,Int.reduceLT,Int.reduceBNe,Int.reduceBEq,Int.reduceNeg,Int.reduceEq,Int.reduceAdd,Int.reduceGT,Int.reduceGE,reduceCtorEq]
      exact hK _ g0
    simp only [bd, rc, d1, d2, d3, d5, d6, get_new, get_new0, ↓zP,zV,Nat.reduceAdd,Nat.reduceMul,Nat.reduceLT,Nat.reduceEqDiff,Nat.reduceLeDiff,Int.reduceLE,Int.reduceLT,Int.reduceBNe,Int.reduceBEq,Int.reduceNeg,Int.reduceEq,Int.reduceAdd,Int.reduceGT,Int.reduceGE,reduceCtorEq]
    exact hK _ g0
  unfold bmayB at hK
  cases d1 : decide (id ≥ 1)
  · simp only [d1, Bool.false_and] at hK
    simp only [bd, rc, d1, d5, d6, get_new, get_new0, ↓zP,zV,Nat.reduceAdd,Nat.reduceMul,Nat.reduceLT,Nat.reduceEqDiff,Nat.reduceLeDiff,Int.reduceLE,Int.reduceLT,Int.reduceBNe,Int.reduceBEq,Int.reduceNeg,Int.reduceEq,Int.reduceAdd,Int.reduceGT,Int.reduceGE,reduceCtorEq]
    exact hK _ g0
  cases d2 : decide (id ≤ 2147483647)
  · simp only [d1, d2, Bool.false_and, Bool.and_false] at hK
    simp only [bd, rc, d1, d2, d5, d6, get_new, get_new0, ↓zP,zV,Nat.reduceAdd,Nat.reduceMul,Nat.reduceLT,Nat.reduceEqDiff,Nat.reduceLeDiff,Int.reduceLE,Int.reduceLT,Int.reduceBNe,Int.reduceBEq,Int.reduceNeg,Int.reduceEq,Int.reduceAdd,Int.reduceGT,Int.reduceGE,reduceCtorEq]
    exact hK _ g0
  cases d3 : decide (w ≤ 8)
  · simp only [d1, d2, d3, Bool.false_and, Bool.and_false] at hK
    simp only [bd, rc, d1, d2, d3, d5, d6, get_new, get_new0, ↓zP,zV,Nat.reduceAdd,Nat.reduceMul,Nat.reduceLT,Nat.reduceEqDiff,Nat.reduceLeDiff,Int.reduceLE,Int.reduceLT,Int.reduceBNe,Int.reduceBEq,Int.reduceNeg,Int.reduceEq,Int.reduceAdd,Int.reduceGT,Int.reduceGE,reduceCtorEq]
    exact hK _ g0
  cases d4 : decide (h ≤ 8)
  · simp only [d1, d2, d3, d4, Bool.false_and, Bool.and_false] at hK
    simp only [bd, rc, d1, d2, d3, d4, d5, d6, get_new, get_new0, ↓zP,zV,Nat.reduceAdd,Nat.reduceMul,Nat.reduceLT,Nat.reduceEqDiff,Nat.reduceLeDiff,Int.reduceLE,Int.reduceLT,Int.reduceBNe,Int.reduceBEq,Int.reduceNeg,Int.reduceEq,Int.reduceAdd,Int.reduceGT,Int.reduceGE,reduceCtorEq]
    exact hK _ g0
  simp only [d1, d2, d3, d4, Bool.true_and] at hK
  simp only [bd, rc, d1, d2, d3, d4, d5, d6, get_new, get_new0, ↓zP,zV,Nat.reduceAdd,Nat.reduceMul,Nat.reduceLT,Nat.reduceEqDiff,Nat.reduceLeDiff,Int.reduceLE,Int.reduceLT,Int.reduceBNe,Int.reduceBEq,Int.reduceNeg,Int.reduceEq,Int.reduceAdd,Int.reduceGT,Int.reduceGE,reduceCtorEq]
  refine r_Within (n := n) fun s1 j1 => ?_
  simp only [↓zP,zV,Nat.reduceAdd,Nat.reduceMul,Nat.reduceLT,Nat.reduceEqDiff,Nat.reduceLeDiff,Int.reduceLE,Int.reduceLT,Int.reduceBNe,Int.reduceBEq,Int.reduceNeg,Int.reduceEq,Int.reduceAdd,Int.reduceGT,Int.reduceGE,reduceCtorEq]
  exact hK _ (g0.trans j1)
theorem r_share (hK : ∀ s, Grw st s → K (.sc (.bool (meetB x y w h x2 y2 w2 h2))) s) : acallF Tryz.prog pl (n + 5) m 92 [.agg (rc x y w h), .agg (rc x2 y2 w2 h2)] st K := by
  refine acallF_inF Tryz.func92 rfl rfl Tryz.ntmps92 (by simp) ?_
  have g0 := Grw.push st [.cells (rc x y w h), .cells (rc x2 y2 w2 h2)]
  simp only [rc] at g0
  simp only [rc, get_new, get_new0, ↓zP,zV,Nat.reduceAdd,Nat.reduceMul,Nat.reduceLT,Nat.reduceEqDiff,Nat.reduceLeDiff,Int.reduceLE,Int.reduceLT,Int.reduceBNe,Int.reduceBEq,Int.reduceNeg,Int.reduceEq,Int.reduceAdd,Int.reduceGT,Int.reduceGE,reduceCtorEq]
  refine r_Meet (n := n) fun a b c d s1 j1 => ?_
  simp only [rc, ↓zP,zV,Nat.reduceAdd,Nat.reduceMul,Nat.reduceLT,Nat.reduceEqDiff,Nat.reduceLeDiff,Int.reduceLE,Int.reduceLT,Int.reduceBNe,Int.reduceBEq,Int.reduceNeg,Int.reduceEq,Int.reduceAdd,Int.reduceGT,Int.reduceGE,reduceCtorEq]
  exact hK _ ((g0.trans j1).trans (.push _ _))
end
structure Wr (s : List Ob) (rd : Nat) (WW HH : Int) (tv bv ev : V) (ts : List V) (L : List B4) (ds : List R4) : Prop where
  w : s[rd]? = some (.cells [.sc (.int .i64 WW), .sc (.int .i64 HH), tv, bv, ev])
  tl : Gl s 5 tv ts ts.length
  bl : Gl s 115 bv (L.flatMap B4.v) L.length
  el : Gl s 75 ev (ds.flatMap R4.v) ds.length
def plcI (id : Int) : List B4 → Nat → Int
  | [], _ => -1
  | u :: L, j => if u.id == id then j else plcI id L (j + 1)
section
variable {n m : Nat} {st s : List Ob} {K : V → List Ob → Prop} {rd : Nat} {WW HH : Int} {tv bv ev : V} {ts : List V} {L : List B4} {ds : List R4} {x y w h id : Int}
theorem Wr.grw (h : Wr st rd WW HH tv bv ev ts L ds) (k : Grw st s) : Wr s rd WW HH tv bv ev ts L ds := ⟨k _ _ h.w, h.tl.grw k, h.bl.grw k, h.el.grw k⟩
theorem Wr.rb (h : Wr st rd WW HH tv bv ev ts L ds) : Rd Tryz.prog st 115 bv (L.flatMap B4.v) L.length := h.bl.rd sz115 (flatMap_len (f := B4.v) (s := 5) (fun _ => rfl) _)
theorem b_id {sv : V} (hv : Rd Tryz.prog s 115 sv (L.flatMap B4.v) L.length) {i : Nat} (hi : i < L.length) : afa Tryz.prog s 115 0 (ixp 5 sv i 0) = some (ixp 5 sv i 0, s) ∧ ald Tryz.prog s 3 (ixp 5 sv i 0) = some (.sc (.int .i64 L[i].id), s) := by
  refine ⟨afa_ix hv (i := 0) (off := 0) (k := 1) (ft := 3) (by kernel_rfl) (by omega) i 0, ?_⟩
  rw [ald_ix hv sz115 sz3 (by omega) hi (by omega)]
  simp only [aload, ag3, Nat.add_zero]
  rw [flatMap_at (f := B4.v) (s := 5) (fun a => rfl) L i hi]
  rfl
theorem b_r {sv : V} (hv : Rd Tryz.prog s 115 sv (L.flatMap B4.v) L.length) {i : Nat} (hi : i < L.length) : afa Tryz.prog s 115 1 (ixp 5 sv i 0) = some (ixp 5 sv i 1, s) ∧ ald Tryz.prog s 75 (ixp 5 sv i 1) = some (.agg (rc L[i].x L[i].y L[i].w L[i].h), s) := by
  refine ⟨afa_ix hv (i := 1) (off := 1) (k := 4) (ft := 75) (by kernel_rfl) (by omega) i 0, ?_⟩
  rw [ald_ix hv sz115 sz75 (by omega) hi (by omega)]
  have e : (L.flatMap B4.v).drop (i * 5 + 1) = rc L[i].x L[i].y L[i].w L[i].h ++ (L.drop (i + 1)).flatMap B4.v := by
    rw [← List.drop_drop, flatMap_at (f := B4.v) (s := 5) (fun a => rfl) L i hi]
    rfl
  rw [e]
  simp only [aload, ag75, sz75]
  rw [if_pos (by simp [rc])]
  rfl
theorem q_All (hy : Wr st rd WW HH tv bv ev ts L ds) (hK : ∀ s, Grw st s → K (.agg (rc 0 0 WW HH)) s) : acallF Tryz.prog pl (n + 1) m 34 [.ref rd 0] st K := by
  refine acallF_inF Tryz.func34 rfl rfl Tryz.ntmps34 (by simp) ?_
  have h1 := fun X => ((hy.grw (Grw.push st X)).w)
  simp only [h1, ↓zP,zV,Nat.reduceAdd,Nat.reduceMul,Nat.reduceLT,Nat.reduceEqDiff,Nat.reduceLeDiff,Int.reduceLE,Int.reduceLT,Int.reduceBNe,Int.reduceBEq,Int.reduceNeg,Int.reduceEq,Int.reduceAdd,Int.reduceGT,Int.reduceGE,reduceCtorEq]
  exact hK _ (Grw.push _ _)
def shareB (x y w h : Int) (u : B4) : Bool := meetB u.x u.y u.w u.h x y w h
def mayR (L : List B4) (WW HH id x y w h : Int) : Int :=
  if bmayB id x y w h WW HH = false then 1 else if plcI id L 0 ≥ 0 then 8 else if 256 ≤ L.length then 2 else if L.any (shareB x y w h) = true then 6 else 0
end
def insAt (p : Nat) (u : B4) (L : List B4) : List B4 := L.take p ++ u :: L.drop p
theorem insAt_len (p : Nat) (u : B4) (L : List B4) : (insAt p u L).length = L.length + 1 := by
  simp only [insAt, List.length_append, List.length_take, List.length_cons, List.length_drop]; omega

def cutC (x y : Int) (W : Nat) (os : List ((Int × Int) × V)) : Nat → List ((Int × Int) × V)
  | 0 => os
  | k + 1 => delC (x + (k % W : Nat), y + (k / W : Nat)) (cutC x y W os k)

theorem plcI_spec (id : Int) : ∀ (L : List B4) (j : Nat), (plcI id L j = -1 ∧ ∀ u ∈ L, u.id ≠ id) ∨ ∃ i, ∃ h : i < L.length, plcI id L j = ((j + i : Nat) : Int) ∧ L[i].id = id
  | [], j => .inl ⟨rfl, by simp⟩
  | u :: L, j => by
    simp only [plcI]
    by_cases h : u.id = id
    · refine .inr ⟨0, by simp, ?_, ?_⟩
      · simp [h]
      · simpa using h
    · have h' : (u.id == id) = false := by simpa using h
      rw [h']
      simp only [Bool.false_eq_true, if_false]
      rcases plcI_spec id L (j + 1) with ⟨h1, h2⟩ | ⟨i, hi, h1, h2⟩
      · refine .inl ⟨h1, fun v hv => ?_⟩
        rcases List.mem_cons.1 hv with rfl | hv
        · exact h
        · exact h2 v hv
      · exact .inr ⟨i + 1, by simpa using hi, by rw [h1]; omega, by simpa using h2⟩
def hasU (x y : Int) (u : B4) : Bool := hasB u.x u.y u.w u.h x y
section
variable {n m : Nat} {st s : List Ob} {K : V → List Ob → Prop} {rd : Nat} {WW HH : Int} {tv bv ev : V} {ts : List V} {L : List B4} {ds : List R4} {x y w h id : Int}
set_option maxHeartbeats 1000000 in
theorem q_At (hy : Wr st rd WW HH tv bv ev ts L ds) (hm : L.length < m) (hl : L.length < 1000000) (hK : ∀ s, Grw st s → K (match L.find? (hasU x y) with | some u => .tup [.sc (.int .i64 u.id), .sc (.bool true)] | none => .tup [.sc (.int .i64 0), .sc (.bool false)]) s) :
    acallF Tryz.prog pl (n + 5) m 74 [.ref rd 0, .agg (cl x y)] st K := by
  refine acallF_inF Tryz.func74 rfl rfl Tryz.ntmps74 (by simp) ?_
  have g0 := Grw.push st [.cells (cl x y)]
  have c0 : (st ++ [Ob.cells (cl x y)])[st.length]? = some (.cells (cl x y)) := get_new0 _ _
  simp only [cl] at g0 c0
  simp only [cl, ↓zP,zV,Nat.reduceAdd,Nat.reduceMul,Nat.reduceLT,Nat.reduceEqDiff,Nat.reduceLeDiff,Int.reduceLE,Int.reduceLT,Int.reduceBNe,Int.reduceBEq,Int.reduceNeg,Int.reduceEq,Int.reduceAdd,Int.reduceGT,Int.reduceGE,reduceCtorEq]
  refine aloop_forF (fun k f s => ∃ i : Nat, Grw st s ∧ s[st.length]? = some (.cells (cl x y)) ∧ k + i = m ∧ i ≤ L.length ∧ L.find? (hasU x y) = (L.drop i).find? (hasU x y) ∧ f 0 = .ref rd 0 ∧ f 3 = .ref st.length 0 ∧ f 6 = .sc (.int .i64 i)) ⟨0, g0, c0, by omega, by omega, rfl, by simp only [zF,Nat.reduceEqDiff,Nat.reduceLT], by simp only [zF,Nat.reduceEqDiff,Nat.reduceLT], by simp only [zF,Nat.reduceEqDiff,Nat.reduceLT]; rfl⟩ ?_
  rintro I' hI' k f s ⟨i, gs, cs, hk, hi, hp, f0, f3, f6⟩
  refine ⟨k - 1, by omega, ?_⟩
  have hys := hy.grw gs
  have y1 := hys.w
  have hv := hys.rb
  have hal := alen_rd hv Tryz.underlying23
  simp only [cl] at cs
  by_cases hil : i < L.length
  · have d : decide ((i : Int) < L.length) = true := decide_eq_true (by omega)
    obtain ⟨p1, p2⟩ := ix_flat (f := B4.v) (fun a => rfl) hv Tryz.underlying23 sz115 ag115 (by omega) hil
    have e4 : IntKind.i64.wrap ((i : Int) + 1) = ((i + 1 : Nat) : Int) := by rw [IntWalk.i64_in _ (by omega)]; rfl
    have hd : L.drop i = L[i] :: L.drop (i + 1) := List.drop_eq_getElem_cons hil
    rw [hd, List.find?_cons] at hp
    obtain ⟨p3, p4⟩ := b_r hv hil
    simp only [f0, f3, f6, y1, hal, d, p1, p3, p4, cs, ↓zP,zV,Nat.reduceAdd,Nat.reduceMul,Nat.reduceLT,Nat.reduceEqDiff,Nat.reduceLeDiff,Int.reduceLE,Int.reduceLT,Int.reduceBNe,Int.reduceBEq,Int.reduceNeg,Int.reduceEq,Int.reduceAdd,Int.reduceGT,Int.reduceGE,reduceCtorEq]
    refine r_Has (n := n) fun s3 j3 => ?_
    have cs3 := j3 _ _ cs
    cases q : hasB L[i].x L[i].y L[i].w L[i].h x y
    · simp only [hasU, q] at hp
      simp only [f0, f3, f6, y1, hal, d, p1, p3, p4, cs, cs3, j3, e4, ↓zP,zV,Nat.reduceAdd,Nat.reduceMul,Nat.reduceLT,Nat.reduceEqDiff,Nat.reduceLeDiff,Int.reduceLE,Int.reduceLT,Int.reduceBNe,Int.reduceBEq,Int.reduceNeg,Int.reduceEq,Int.reduceAdd,Int.reduceGT,Int.reduceGE,reduceCtorEq]
      exact hI' _ _ _ ⟨i + 1, gs.trans j3, cs3, by omega, hil, hp, by simp only [f0, zF,Nat.reduceEqDiff,Nat.reduceLT], by simp only [f3, zF,Nat.reduceEqDiff,Nat.reduceLT], by simp only [zF,Nat.reduceEqDiff,Nat.reduceLT]⟩
    · simp only [hasU, q] at hp
      simp only [hasU, hp] at hK
      have hys3 := hys.grw j3
      have y3 := hys3.w
      obtain ⟨r1, r2⟩ := ix_flat (f := B4.v) (fun a => rfl) hys3.rb Tryz.underlying23 sz115 ag115 (by omega) hil
      obtain ⟨r3, r4⟩ := b_id hys3.rb hil
      simp only [f0, f3, f6, y1, y3, hal, d, p1, p3, p4, r1, r3, r4, cs, cs3, j3, ↓zP,zV,Nat.reduceAdd,Nat.reduceMul,Nat.reduceLT,Nat.reduceEqDiff,Nat.reduceLeDiff,Int.reduceLE,Int.reduceLT,Int.reduceBNe,Int.reduceBEq,Int.reduceNeg,Int.reduceEq,Int.reduceAdd,Int.reduceGT,Int.reduceGE,reduceCtorEq]
      exact hK _ (gs.trans j3)
  · have d : decide ((i : Int) < L.length) = false := decide_eq_false (by omega)
    obtain rfl : i = L.length := by omega
    rw [List.drop_length] at hp
    rw [hp] at hK
    simp only [List.find?_nil] at hK
    simp only [f0, f3, f6, y1, hal, d, ↓zP,zV,Nat.reduceAdd,Nat.reduceMul,Nat.reduceLT,Nat.reduceEqDiff,Nat.reduceLeDiff,Int.reduceLE,Int.reduceLT,Int.reduceBNe,Int.reduceBEq,Int.reduceNeg,Int.reduceEq,Int.reduceAdd,Int.reduceGT,Int.reduceGE,reduceCtorEq]
    exact hK _ gs
theorem q_Terrain (hi : Wr st rd WW HH tv bv ev ts L ds) (hW : 1 ≤ WW ∧ WW ≤ 128) (hH : 1 ≤ HH ∧ HH ≤ 128) (hl : (ts.length : Int) = WW * HH) (hb : ∀ v ∈ ts, ∃ k : Int, v = .sc (.int .u8 k) ∧ 0 ≤ k ∧ k < 256)
    (hK0 : hasB 0 0 WW HH x y = false → ∀ s, Grw st s → K (.tup [.sc (.int .i64 0), .sc (.bool false)]) s)
    (hK1 : hasB 0 0 WW HH x y = true → ∀ k s, ts[(y * WW + x).toNat]? = some (.sc (.int .u8 k)) → Grw st s → K (.tup [.sc (.int .i64 k), .sc (.bool true)]) s) :
    acallF Tryz.prog pl (n + 5) m 73 [.ref rd 0, .agg (cl x y)] st K := by
  refine acallF_inF Tryz.func73 rfl rfl Tryz.ntmps73 (by simp) ?_
  have g0 := Grw.push st [.cells (cl x y)]
  have c0 : (st ++ [Ob.cells (cl x y)])[st.length]? = some (.cells (cl x y)) := get_new _ _ 0
  simp only [cl] at g0 c0
  simp only [cl, ↓zP,zV,Nat.reduceAdd,Nat.reduceMul,Nat.reduceLT,Nat.reduceEqDiff,Nat.reduceLeDiff,Int.reduceLE,Int.reduceLT,Int.reduceBNe,Int.reduceBEq,Int.reduceNeg,Int.reduceEq,Int.reduceAdd,Int.reduceGT,Int.reduceGE,reduceCtorEq]
  refine q_All (n := n + 3) (hi.grw g0) fun s1 j1 => ?_
  have c1 := j1 _ _ c0
  simp only [c0, c1, j1, ↓zP,zV,Nat.reduceAdd,Nat.reduceMul,Nat.reduceLT,Nat.reduceEqDiff,Nat.reduceLeDiff,Int.reduceLE,Int.reduceLT,Int.reduceBNe,Int.reduceBEq,Int.reduceNeg,Int.reduceEq,Int.reduceAdd,Int.reduceGT,Int.reduceGE,reduceCtorEq]
  refine r_Has (n := n) fun s2 j2 => ?_
  have c2 := j2 _ _ c1
  have hi2 := ((hi.grw g0).grw j1).grw j2
  have g2 := (g0.trans j1).trans j2
  cases e : hasB 0 0 WW HH x y
  · simp only [c0, c1, j1, j2, ↓zP,zV,Nat.reduceAdd,Nat.reduceMul,Nat.reduceLT,Nat.reduceEqDiff,Nat.reduceLeDiff,Int.reduceLE,Int.reduceLT,Int.reduceBNe,Int.reduceBEq,Int.reduceNeg,Int.reduceEq,Int.reduceAdd,Int.reduceGT,Int.reduceGE,reduceCtorEq]
    exact hK0 e _ g2
  have e' := e
  simp only [hasB, inB, Bool.and_eq_true, decide_eq_true_eq] at e'
  obtain ⟨_, ⟨⟨hx0, hx1⟩, hy0⟩, hy1⟩ := e'
  have h1 := hi2.w
  have hb0 : 0 ≤ y * WW := Int.mul_nonneg (by omega) (by omega)
  have hb1 : y * WW ≤ (HH - 1) * WW := Int.mul_le_mul_of_nonneg_right (by omega) (by omega)
  have hb3 : (HH - 1) * WW = WW * HH - WW := by rw [Int.sub_mul, Int.one_mul, Int.mul_comm]
  have hb2 : WW * HH ≤ 128 * 128 := Int.mul_le_mul hW.2 hH.2 (by omega) (by omega)
  have e1 : IntKind.i64.wrap (y * WW) = y * WW := wi64 (by omega) (by omega)
  have e2 : IntKind.i64.wrap (y * WW + x) = y * WW + x := wi64 (by omega) (by omega)
  obtain ⟨q, hq⟩ := Int.eq_ofNat_of_zero_le (show 0 ≤ y * WW + x by omega)
  have hql : q < ts.length := by omega
  obtain ⟨k, hk, hk0, hk1⟩ := hb ts[q] (List.getElem_mem hql)
  have rd := hi2.tl.rd sz5 (by omega)
  have p1 := aix_rd rd Tryz.underlying22 sz5 .i64 (j := (q : Int)) (by omega) (by omega)
  have p2 := ald_ix rd sz5 sz5 (by omega) hql (o := 0) (by omega)
  have p3 : aload Tryz.prog 5 (ts.drop (q * 1 + 0)) = some (.sc (.int .u8 k)) := by
    simp only [aload, ag5, Nat.mul_one, Nat.add_zero]
    rw [List.getElem?_drop, Nat.add_zero, List.getElem?_eq_getElem hql, hk]
  rw [p3] at p2
  simp only [Int.toNat_natCast] at p1
  have e3 : IntKind.i64.wrap k = k := wi64 (by omega) (by omega)
  have fin := hK1 e k s2 (by rw [hq, Int.toNat_natCast, List.getElem?_eq_getElem hql, hk]) g2
  rw [hq] at e2
  simp only [c0, c1, c2, j1, j2, h1, e1, e2, hq, p1, p2, e3, ↓zP,zV,Nat.reduceAdd,Nat.reduceMul,Nat.reduceLT,Nat.reduceEqDiff,Nat.reduceLeDiff,Int.reduceLE,Int.reduceLT,Int.reduceBNe,Int.reduceBEq,Int.reduceNeg,Int.reduceEq,Int.reduceAdd,Int.reduceGT,Int.reduceGE,reduceCtorEq]
  exact fin
end
theorem slice_start {P : Program} {st : List Ob} {e t : TypeId} {v : V} {xs : List V} {n : Nat} (h : Cut P st e v xs n) (ht : P.underlying t = some (.slice e)) {s : Nat} (hs : szOf P e = some s) {hi : Nat} (h1 : hi ≤ n) :
    ∃ v', aslice P st t v none (some (.sc (.int .i64 hi))) none = some v' ∧ Cut P st e v' (xs.take (hi * s)) hi := by
  obtain ⟨v', k1, k2⟩ := slice_mid h ht hs (Nat.zero_le hi) h1
  rw [Nat.zero_mul, List.drop_zero, Nat.sub_zero] at k2
  refine ⟨v', ?_, k2⟩
  rw [← k1]
  rcases h.1.cases with ⟨nil, full, rfl⟩ | ⟨id, off, full, gg, ys, m, l0, fz, s', rfl, _, _, _, _⟩
  · simp only [aslice, abound_nat _ _ _ _ h1]; rfl
  · simp only [aslice, abound_nat _ _ _ _ h1]; rfl

def pairB (u p : B4) : Bool := decide (p.id < u.id) && !meetB p.x p.y p.w p.h u.x u.y u.w u.h
def chk (WW HH : Int) : List B4 → List B4 → Bool
  | _, [] => true
  | pre, u :: L => (bmayB u.id u.x u.y u.w u.h WW HH && pre.all (pairB u)) && chk WW HH (pre ++ [u]) L
def refOK (WW HH : Int) (T : List Int) (L : List B4) : Bool :=
  decide (1 ≤ WW) && decide (WW ≤ 128) && decide (1 ≤ HH) && decide (HH ≤ 128) && decide ((T.length : Int) = WW * HH) && decide (L.length ≤ 256) && T.all (fun t => decide (t < 4)) && chk WW HH [] L
section
variable {n m : Nat} {st s : List Ob} {K : V → List Ob → Prop} {WW HH : Int} {T : List Int} {L : List B4} {tv bv : V}
set_option maxHeartbeats 4000000 in
theorem q_Check (ht : Rd Tryz.prog st 5 tv (bs T) T.length) (hb : Rd Tryz.prog st 115 bv (L.flatMap B4.v) L.length) (ot : one tv = true ∧ cellsV tv = [tv]) (ob : one bv = true ∧ cellsV bv = [bv]) (hm : 300 < m) (hTm : T.length < m) (hTb : ∀ t ∈ T, 0 ≤ t ∧ t < 256)
    (hE : refOK WW HH T L = false → ∀ s, Grw st s → K (.sc (.int .i64 1)) s) (hO : refOK WW HH T L = true → ∀ s, Grw st s → K (.sc (.int .i64 0)) s) :
    acallF Tryz.prog pl (n + 7) m 47 [.agg (mp WW HH tv bv)] st K := by
  refine acallF_inF Tryz.func47 rfl rfl Tryz.ntmps47 (by simp) ?_
  have g0 := Grw.push st [Ob.cells (mp WW HH tv bv)]
  have c0 : (st ++ [Ob.cells (mp WW HH tv bv)])[st.length]? = some (.cells (mp WW HH tv bv)) := get_new _ _ 0
  simp only [mp] at g0 c0
  simp only [mp, ot.1, ot.2, ob.1, ob.2, ↓zP,zV,Nat.reduceAdd,Nat.reduceMul,Nat.reduceLT,Nat.reduceEqDiff,Nat.reduceLeDiff,Int.reduceLE,Int.reduceLT,Int.reduceBNe,Int.reduceBEq,Int.reduceNeg,Int.reduceEq,Int.reduceAdd,Int.reduceGT,Int.reduceGE,reduceCtorEq]
  generalize hS : st ++ [Ob.cells [V.sc (Value.int IntKind.i64 WW), V.sc (Value.int IntKind.i64 HH), tv, bv]] = S at g0 c0
  have ht0 := ht.grw g0
  have hb0 := hb.grw g0
  have al := alen_rd ht0 Tryz.underlying22
  have alb := alen_rd hb0 Tryz.underlying23
  unfold refOK at hE hO
  cases d1 : decide (WW < 1)
  case true =>
    simp only [c0, d1, ↓zP,zV,Nat.reduceAdd,Nat.reduceMul,Nat.reduceLT,Nat.reduceEqDiff,Nat.reduceLeDiff,Int.reduceLE,Int.reduceLT,Int.reduceBNe,Int.reduceBEq,Int.reduceNeg,Int.reduceEq,Int.reduceAdd,Int.reduceGT,Int.reduceGE,reduceCtorEq]
    refine hE ?_ _ g0
    have := of_decide_eq_true d1
    simp only [show decide (1 ≤ WW) = false from decide_eq_false (by omega), Bool.false_and]
  have f1 := of_decide_eq_false d1
  cases d2 : decide (WW > 128)
  case true =>
    simp only [c0, d1, d2, ↓zP,zV,Nat.reduceAdd,Nat.reduceMul,Nat.reduceLT,Nat.reduceEqDiff,Nat.reduceLeDiff,Int.reduceLE,Int.reduceLT,Int.reduceBNe,Int.reduceBEq,Int.reduceNeg,Int.reduceEq,Int.reduceAdd,Int.reduceGT,Int.reduceGE,reduceCtorEq]
    refine hE ?_ _ g0
    have := of_decide_eq_true d2
    simp only [show decide (WW ≤ 128) = false from decide_eq_false (by omega), Bool.false_and, Bool.and_false]
  have f2 := of_decide_eq_false d2
  cases d3 : decide (HH < 1)
  case true =>
    simp only [c0, d1, d2, d3, ↓zP,zV,Nat.reduceAdd,Nat.reduceMul,Nat.reduceLT,Nat.reduceEqDiff,Nat.reduceLeDiff,Int.reduceLE,Int.reduceLT,Int.reduceBNe,Int.reduceBEq,Int.reduceNeg,Int.reduceEq,Int.reduceAdd,Int.reduceGT,Int.reduceGE,reduceCtorEq]
    refine hE ?_ _ g0
    have := of_decide_eq_true d3
    simp only [show decide (1 ≤ HH) = false from decide_eq_false (by omega), Bool.false_and, Bool.and_false]
  have f3 := of_decide_eq_false d3
  cases d4 : decide (HH > 128)
  case true =>
    simp only [c0, d1, d2, d3, d4, ↓zP,zV,Nat.reduceAdd,Nat.reduceMul,Nat.reduceLT,Nat.reduceEqDiff,Nat.reduceLeDiff,Int.reduceLE,Int.reduceLT,Int.reduceBNe,Int.reduceBEq,Int.reduceNeg,Int.reduceEq,Int.reduceAdd,Int.reduceGT,Int.reduceGE,reduceCtorEq]
    refine hE ?_ _ g0
    have := of_decide_eq_true d4
    simp only [show decide (HH ≤ 128) = false from decide_eq_false (by omega), Bool.false_and, Bool.and_false]
  have f4 := of_decide_eq_false d4
  have hb2 : WW * HH ≤ 128 * 128 := Int.mul_le_mul (by omega) (by omega) (by omega) (by omega)
  have hb1 : 0 ≤ WW * HH := Int.mul_nonneg (by omega) (by omega)
  have e1 : IntKind.i64.wrap (WW * HH) = WW * HH := wi64 (by omega) (by omega)
  cases d5 : ((T.length : Int) != WW * HH)
  case true =>
    simp only [c0, d1, d2, d3, d4, d5, e1, al, ↓zP,zV,Nat.reduceAdd,Nat.reduceMul,Nat.reduceLT,Nat.reduceEqDiff,Nat.reduceLeDiff,Int.reduceLE,Int.reduceLT,Int.reduceBNe,Int.reduceBEq,Int.reduceNeg,Int.reduceEq,Int.reduceAdd,Int.reduceGT,Int.reduceGE,reduceCtorEq]
    refine hE ?_ _ g0
    have d5' : ¬ (T.length : Int) = WW * HH := by simpa using d5
    simp only [show decide ((T.length : Int) = WW * HH) = false from decide_eq_false d5', Bool.false_and, Bool.and_false]
  have f5 : (T.length : Int) = WW * HH := by simpa using d5
  cases d6 : decide ((L.length : Int) > 256)
  case true =>
    simp only [c0, d1, d2, d3, d4, d5, d6, e1, al, alb, ↓zP,zV,Nat.reduceAdd,Nat.reduceMul,Nat.reduceLT,Nat.reduceEqDiff,Nat.reduceLeDiff,Int.reduceLE,Int.reduceLT,Int.reduceBNe,Int.reduceBEq,Int.reduceNeg,Int.reduceEq,Int.reduceAdd,Int.reduceGT,Int.reduceGE,reduceCtorEq]
    refine hE ?_ _ g0
    have := of_decide_eq_true d6
    simp only [show decide (L.length ≤ 256) = false from decide_eq_false (by omega), Bool.false_and, Bool.and_false]
  have f6 := of_decide_eq_false d6
  simp only [show decide (1 ≤ WW) = true from decide_eq_true (by omega), show decide (WW ≤ 128) = true from decide_eq_true (by omega), show decide (1 ≤ HH) = true from decide_eq_true (by omega), show decide (HH ≤ 128) = true from decide_eq_true (by omega), show decide ((T.length : Int) = WW * HH) = true from decide_eq_true f5, show decide (L.length ≤ 256) = true from decide_eq_true (by omega), Bool.true_and] at hE hO
  simp only [c0, d1, d2, d3, d4, d5, d6, e1, al, alb, ↓zP,zV,Nat.reduceAdd,Nat.reduceMul,Nat.reduceLT,Nat.reduceEqDiff,Nat.reduceLeDiff,Int.reduceLE,Int.reduceLT,Int.reduceBNe,Int.reduceBEq,Int.reduceNeg,Int.reduceEq,Int.reduceAdd,Int.reduceGT,Int.reduceGE,reduceCtorEq]
  refine aloop_forF (fun k f s => s = S ∧ ∃ i : Nat, k + i = m ∧ i ≤ T.length ∧ T.all (fun t => decide (t < 4)) = (T.drop i).all (fun t => decide (t < 4)) ∧ f 1 = .ref st.length 0 ∧ f 3 = .sc (.int .i64 i)) ⟨rfl, 0, by omega, by omega, rfl, by simp only [zF,Nat.reduceEqDiff,Nat.reduceLT], by simp only [zF,Nat.reduceEqDiff,Nat.reduceLT]; rfl⟩ ?_
  rintro I' hI' k f s ⟨rfl, i, hk, hi, hp, q1, q3⟩
  refine ⟨k - 1, by omega, ?_⟩
  by_cases hil : i < T.length
  · have d : decide ((i : Int) < T.length) = true := decide_eq_true (by omega)
    have e3 : IntKind.i64.wrap ((i : Int) + 1) = ((i + 1 : Nat) : Int) := by rw [IntWalk.i64_in _ (by omega)]; rfl
    have p1 := aix_rd ht0 Tryz.underlying22 sz5 .i64 (j := (i : Int)) (by omega) (by omega)
    have p2 := ald_ix ht0 sz5 sz5 (by omega) hil (o := 0) (by omega)
    have p3 : aload Tryz.prog 5 ((bs T).drop (i * 1 + 0)) = some (.sc (.int .u8 T[i])) := by
      simp only [aload, ag5, Nat.mul_one, Nat.add_zero]
      rw [List.getElem?_drop, Nat.add_zero]
      simp only [bs, List.getElem?_map, List.getElem?_eq_getElem hil, Option.map_some]
    rw [p3] at p2
    simp only [Int.toNat_natCast] at p1
    have hd : T.drop i = T[i] :: T.drop (i + 1) := List.drop_eq_getElem_cons hil
    rw [hd, List.all_cons] at hp
    have hti := hTb T[i] (List.getElem_mem hil)
    have e4 : IntKind.i64.wrap T[i] = T[i] := wi64 (by omega) (by omega)
    cases d7 : decide (T[i] ≥ 4)
    · have d7' : decide (T[i] < 4) = true := decide_eq_true (by have := of_decide_eq_false d7; omega)
      rw [d7', Bool.true_and] at hp
      simp only [q1, q3, c0, al, d, p1, p2, d7, e3, e4, ↓zP,zV,Nat.reduceAdd,Nat.reduceMul,Nat.reduceLT,Nat.reduceEqDiff,Nat.reduceLeDiff,Int.reduceLE,Int.reduceLT,Int.reduceBNe,Int.reduceBEq,Int.reduceNeg,Int.reduceEq,Int.reduceAdd,Int.reduceGT,Int.reduceGE,reduceCtorEq]
      exact hI' _ _ _ ⟨rfl, i + 1, by omega, hil, hp, by simp only [q1, zF,Nat.reduceEqDiff,Nat.reduceLT], by simp only [zF,Nat.reduceEqDiff,Nat.reduceLT]⟩
    · have d7' : decide (T[i] < 4) = false := decide_eq_false (by have := of_decide_eq_true d7; omega)
      rw [d7', Bool.false_and] at hp
      simp only [q1, q3, c0, al, d, p1, p2, d7, e4, ↓zP,zV,Nat.reduceAdd,Nat.reduceMul,Nat.reduceLT,Nat.reduceEqDiff,Nat.reduceLeDiff,Int.reduceLE,Int.reduceLT,Int.reduceBNe,Int.reduceBEq,Int.reduceNeg,Int.reduceEq,Int.reduceAdd,Int.reduceGT,Int.reduceGE,reduceCtorEq]
      refine hE ?_ _ g0
      rw [hp, Bool.false_and]
  have d : decide ((i : Int) < T.length) = false := decide_eq_false (by omega)
  obtain rfl : i = T.length := by omega
  rw [List.drop_length] at hp
  simp only [List.all_nil] at hp
  simp only [hp, Bool.true_and] at hE hO
  simp only [q1, q3, c0, al, d, ↓zP,zV,Nat.reduceAdd,Nat.reduceMul,Nat.reduceLT,Nat.reduceEqDiff,Nat.reduceLeDiff,Int.reduceLE,Int.reduceLT,Int.reduceBNe,Int.reduceBEq,Int.reduceNeg,Int.reduceEq,Int.reduceAdd,Int.reduceGT,Int.reduceGE,reduceCtorEq]
  refine aloop_forF (fun k f s' => ∃ i : Nat, Grw s s' ∧ k + i = m ∧ i ≤ L.length ∧ chk WW HH [] L = chk WW HH (L.take i) (L.drop i) ∧ f 1 = .ref st.length 0 ∧ f 4 = .sc (.int .i64 i)) ⟨0, fun _ _ h => h, by omega, by omega, rfl, by simp only [q1, zF,Nat.reduceEqDiff,Nat.reduceLT], by simp only [zF,Nat.reduceEqDiff,Nat.reduceLT]; rfl⟩ ?_
  rintro I2 hI2 k2 f2 s2 ⟨i, gs2, hk2, hi2, hp2, r1, r4⟩
  refine ⟨k2 - 1, by omega, ?_⟩
  have c2 := gs2 _ _ c0
  have hb2 := hb0.grw gs2
  have alb2 := alen_rd hb2 Tryz.underlying23
  by_cases hil2 : i < L.length
  · have d : decide ((i : Int) < L.length) = true := decide_eq_true (by omega)
    have e3 : IntKind.i64.wrap ((i : Int) + 1) = ((i + 1 : Nat) : Int) := by rw [IntWalk.i64_in _ (by omega)]; rfl
    obtain ⟨p1, p2⟩ := ix_flat (f := B4.v) (fun a => rfl) hb2 Tryz.underlying23 sz115 ag115 (by omega) hil2
    have hd : L.drop i = L[i] :: L.drop (i + 1) := List.drop_eq_getElem_cons hil2
    rw [hd] at hp2
    simp only [chk] at hp2
    generalize hu : L[i] = u at hp2 p2
    simp only [B4.v, bd, rc] at p2
    simp only [r1, r4, c2, alb2, d, p1, p2, ↓zP,zV,Nat.reduceAdd,Nat.reduceMul,Nat.reduceLT,Nat.reduceEqDiff,Nat.reduceLeDiff,Int.reduceLE,Int.reduceLT,Int.reduceBNe,Int.reduceBEq,Int.reduceNeg,Int.reduceEq,Int.reduceAdd,Int.reduceGT,Int.reduceGE,reduceCtorEq]
    refine r_MayBe (n := n) fun s3 j3 => ?_
    have c3 := j3 _ _ c2
    have gs3 := gs2.trans j3
    cases e7 : bmayB u.id u.x u.y u.w u.h WW HH
    · rw [e7, Bool.false_and, Bool.false_and] at hp2
      simp only [r1, r4, c2, c3, alb2, d, p1, p2, j3, ↓zP,zV,Nat.reduceAdd,Nat.reduceMul,Nat.reduceLT,Nat.reduceEqDiff,Nat.reduceLeDiff,Int.reduceLE,Int.reduceLT,Int.reduceBNe,Int.reduceBEq,Int.reduceNeg,Int.reduceEq,Int.reduceAdd,Int.reduceGT,Int.reduceGE,reduceCtorEq]
      exact hE hp2 _ (g0.trans gs3)
    rw [e7, Bool.true_and] at hp2
    simp only [r1, r4, c2, c3, alb2, d, p1, p2, j3, ↓zP,zV,Nat.reduceAdd,Nat.reduceMul,Nat.reduceLT,Nat.reduceEqDiff,Nat.reduceLeDiff,Int.reduceLE,Int.reduceLT,Int.reduceBNe,Int.reduceBEq,Int.reduceNeg,Int.reduceEq,Int.reduceAdd,Int.reduceGT,Int.reduceGE,reduceCtorEq]
    refine aloop_forF (fun k f s' => ∃ q : Nat, Grw s s' ∧ k + q = m ∧ q ≤ i ∧ (L.take i).all (pairB u) = ((L.take i).drop q).all (pairB u) ∧ f 1 = .ref st.length 0 ∧ f 4 = .sc (.int .i64 i) ∧ f 5 = .sc (.int .i64 q)) ⟨0, gs3, by omega, by omega, rfl, by simp only [r1, zF,Nat.reduceEqDiff,Nat.reduceLT], by simp only [r4, zF,Nat.reduceEqDiff,Nat.reduceLT], by simp only [zF,Nat.reduceEqDiff,Nat.reduceLT]; rfl⟩ ?_
    rintro I4 hI4 k4 f4 s4 ⟨q, gs4, hk4, hq4, hp4, t1, t4, t5⟩
    refine ⟨k4 - 1, by omega, ?_⟩
    have c4 := gs4 _ _ c0
    have hb4 := hb0.grw gs4
    by_cases hqi : q < i
    · have dq : decide ((q : Int) < i) = true := decide_eq_true (by omega)
      have e5 : IntKind.i64.wrap ((q : Int) + 1) = ((q + 1 : Nat) : Int) := by rw [IntWalk.i64_in _ (by omega)]; rfl
      have hql : q < L.length := by omega
      obtain ⟨a1, _⟩ := ix_flat (f := B4.v) (fun a => rfl) hb4 Tryz.underlying23 sz115 ag115 (by omega) hql
      obtain ⟨a2, a3⟩ := b_id hb4 hql
      obtain ⟨a4, a5⟩ := b_r hb4 hql
      obtain ⟨z1, _⟩ := ix_flat (f := B4.v) (fun a => rfl) hb4 Tryz.underlying23 sz115 ag115 (by omega) hil2
      obtain ⟨z2, z3⟩ := b_id hb4 hil2
      obtain ⟨z4, z5⟩ := b_r hb4 hil2
      rw [hu] at z3 z5
      have hlt : q < (L.take i).length := by rw [List.length_take]; omega
      have hd4 : (L.take i).drop q = (L.take i)[q] :: (L.take i).drop (q + 1) := List.drop_eq_getElem_cons hlt
      rw [hd4, List.all_cons, List.getElem_take] at hp4
      generalize hv : L[q] = v at hp4 a3 a5
      cases d8 : decide (v.id ≥ u.id)
      case true =>
        have d8' := of_decide_eq_true d8
        have : pairB u v = false := by simp only [pairB, show decide (v.id < u.id) = false from decide_eq_false (by omega), Bool.false_and]
        rw [this, Bool.false_and] at hp4
        rw [hp4, Bool.false_and] at hp2
        simp only [t1, t4, t5, c4, dq, a1, a2, a3, z1, z2, z3, d8, ↓zP,zV,Nat.reduceAdd,Nat.reduceMul,Nat.reduceLT,Nat.reduceEqDiff,Nat.reduceLeDiff,Int.reduceLE,Int.reduceLT,Int.reduceBNe,Int.reduceBEq,Int.reduceNeg,Int.reduceEq,Int.reduceAdd,Int.reduceGT,Int.reduceGE,reduceCtorEq]
        exact hE hp2 _ (g0.trans gs4)
      have d8' := of_decide_eq_false d8
      simp only [t1, t4, t5, c4, dq, a1, a2, a3, a4, a5, z1, z2, z3, z4, z5, d8, ↓zP,zV,Nat.reduceAdd,Nat.reduceMul,Nat.reduceLT,Nat.reduceEqDiff,Nat.reduceLeDiff,Int.reduceLE,Int.reduceLT,Int.reduceBNe,Int.reduceBEq,Int.reduceNeg,Int.reduceEq,Int.reduceAdd,Int.reduceGT,Int.reduceGE,reduceCtorEq]
      refine r_share (n := n + 1) fun s5 j5 => ?_
      have c5 := j5 _ _ c4
      have gs5 := gs4.trans j5
      cases e9 : meetB v.x v.y v.w v.h u.x u.y u.w u.h
      · have : pairB u v = true := by simp only [pairB, show decide (v.id < u.id) = true from decide_eq_true (by omega), e9, Bool.not_false, Bool.and_self]
        rw [this, Bool.true_and] at hp4
        simp only [t1, t4, t5, c4, c5, dq, a1, a2, a3, a4, a5, z1, z2, z3, z4, z5, d8, j5, e5, ↓zP,zV,Nat.reduceAdd,Nat.reduceMul,Nat.reduceLT,Nat.reduceEqDiff,Nat.reduceLeDiff,Int.reduceLE,Int.reduceLT,Int.reduceBNe,Int.reduceBEq,Int.reduceNeg,Int.reduceEq,Int.reduceAdd,Int.reduceGT,Int.reduceGE,reduceCtorEq]
        exact hI4 _ _ _ ⟨q + 1, gs5, by omega, by omega, hp4, by simp only [t1, zF,Nat.reduceEqDiff,Nat.reduceLT], by simp only [t4, zF,Nat.reduceEqDiff,Nat.reduceLT], by simp only [zF,Nat.reduceEqDiff,Nat.reduceLT]⟩
      · have : pairB u v = false := by simp only [pairB, e9, Bool.not_true, Bool.and_false]
        rw [this, Bool.false_and] at hp4
        rw [hp4, Bool.false_and] at hp2
        simp only [t1, t4, t5, c4, c5, dq, a1, a2, a3, a4, a5, z1, z2, z3, z4, z5, d8, j5, ↓zP,zV,Nat.reduceAdd,Nat.reduceMul,Nat.reduceLT,Nat.reduceEqDiff,Nat.reduceLeDiff,Int.reduceLE,Int.reduceLT,Int.reduceBNe,Int.reduceBEq,Int.reduceNeg,Int.reduceEq,Int.reduceAdd,Int.reduceGT,Int.reduceGE,reduceCtorEq]
        exact hE hp2 _ (g0.trans gs5)
    · have dq : decide ((q : Int) < i) = false := decide_eq_false (by omega)
      have : (L.take i).drop q = [] := List.drop_eq_nil_of_le (by rw [List.length_take]; omega)
      rw [this, List.all_nil] at hp4
      rw [hp4, Bool.true_and] at hp2
      simp only [t1, t4, t5, dq, e3, ↓zP,zV,Nat.reduceAdd,Nat.reduceMul,Nat.reduceLT,Nat.reduceEqDiff,Nat.reduceLeDiff,Int.reduceLE,Int.reduceLT,Int.reduceBNe,Int.reduceBEq,Int.reduceNeg,Int.reduceEq,Int.reduceAdd,Int.reduceGT,Int.reduceGE,reduceCtorEq]
      refine hI2 _ _ _ ⟨i + 1, gs4, by omega, by omega, ?_, by simp only [t1, zF,Nat.reduceEqDiff,Nat.reduceLT], by simp only [zF,Nat.reduceEqDiff,Nat.reduceLT]⟩
      rw [hp2, List.take_succ_eq_append_getElem hil2, hu]
  · have d : decide ((i : Int) < L.length) = false := decide_eq_false (by omega)
    obtain rfl : i = L.length := by omega
    rw [List.drop_length] at hp2
    simp only [chk] at hp2
    simp only [r1, r4, c2, alb2, d, ↓zP,zV,Nat.reduceAdd,Nat.reduceMul,Nat.reduceLT,Nat.reduceEqDiff,Nat.reduceLeDiff,Int.reduceLE,Int.reduceLT,Int.reduceBNe,Int.reduceBEq,Int.reduceNeg,Int.reduceEq,Int.reduceAdd,Int.reduceGT,Int.reduceGE,reduceCtorEq]
    exact hO hp2 _ (g0.trans gs2)
end
end Go.Proofs.YtpdhoicpaonggaaGreat
