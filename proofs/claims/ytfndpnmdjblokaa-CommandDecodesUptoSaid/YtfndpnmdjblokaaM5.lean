/- Loads, builds, cuts and the like: what the machine tells is what the run yields. -/
import Derived.Test.YtfndpnmdjblokaaM4
set_option linter.unusedVariables false
set_option linter.unusedSimpArgs false
namespace Go.M
open Go Go.RowKit
section
variable {P : Program} {σ σ' : Sg} {w w' w1 : World} {L L' : Nat → Lb}

theorem RV.ofVal (v : Value) : RV P σ w (ofVal v) v := by
  unfold M.ofVal
  split
  · simp only [RV, RC]
    exact ⟨none, 0, [], rfl, Nat.le_refl _, by simp [maxLen], fun _ => rfl, fun _ => ⟨rfl, rfl, rfl⟩, fun h => by simp at h, by simp [RCl], fun a h => by cases h⟩
  · simp only [RV]

theorem RVl.ofVals : ∀ (us : List Value), RVl P σ w (us.map M.ofVal) us
  | [] => by simp [RVl]
  | u :: us => by simp only [List.map_cons, RVl]; exact ⟨u, us, rfl, RV.ofVal u, RVl.ofVals us⟩

theorem RVl.get : ∀ {xs : List V} {us : List Value} {i : Nat} {x : V}, RVl P σ w xs us → xs[i]? = some x → ∃ u, us[i]? = some u ∧ RV P σ w x u
  | [], us, i, x, h, hx => by simp at hx
  | y :: xs, us, i, x, h, hx => by
    simp only [RVl] at h
    obtain ⟨u, us', rfl, h1, h2⟩ := h
    cases i with
    | zero => simp at hx; subst hx; exact ⟨u, rfl, h1⟩
    | succ i => simp at hx ⊢; exact RVl.get h2 hx

theorem szOf_run {t : TypeId} {n : Nat} (h : szOf P t = some n) (w : World) : (sizeOf t).run P w = .ok n w := by
  unfold szOf at h
  obtain ⟨i, hi, rfl⟩ := Option.map_eq_some_iff.1 h
  simp [sizeOf, typeInfo, hi]

theorem aggT_run {t : TypeId} {b : Bool} (h : aggT P t = some b) (w : World) : (isAgg t).run P w = .ok b w := by
  unfold aggT at h
  obtain ⟨d, hd, hb⟩ := Option.map_eq_some_iff.1 h
  unfold isAgg
  rw [Sem.run_bind, run_underlying hd w]
  subst hb
  cases d <;> rfl

theorem zeroOf_run {t : TypeId} {z : Value} (h : zeroOf P t = some z) (w : World) : (zeroValue t).run P w = .ok z w := by
  unfold zeroOf at h
  obtain ⟨i, hi, hz⟩ := Option.bind_eq_some_iff.1 h
  simp [zeroValue, typeInfo, hi, hz]

/-- A variable is read. -/
theorem aload_sound {t : TypeId} {xs : List V} {us : List Value} {v : V} (hr : RVl P σ w xs us) (a : Addr) (hc : ∀ j u, us[j]? = some u → w.cell? (a.add j) = some u) (h : aload P t xs = some v) :
    ∃ u, (loadVar t a).run P w = .ok u w ∧ RV P σ w v u := by
  unfold aload at h
  split at h
  · rename_i n h1 h2
    split at h
    · rename_i hn
      cases h
      have hl := RVl.length hr
      have hlen : (us.take n).length = n := by rw [List.length_take, hl]; omega
      refine ⟨.agg (us.take n).toArray, ?_, ?_⟩
      · have := run_loadCells_list (P := P) w a (us.take n) (fun j u hj => hc j u (by
          rw [List.getElem?_take] at hj
          split at hj
          · exact hj
          · cases hj))
        rw [hlen] at this
        simp [loadVar, Sem.run_bind, aggT_run h1, szOf_run h2, this]
      · simp only [RV]
        exact ⟨us.take n, rfl, RVl.take hr⟩
    · cases h
  · rename_i h1
    obtain ⟨u, h3, h4⟩ := RVl.get hr h
    refine ⟨u, ?_, h4⟩
    have h5 := hc 0 u h3
    rw [show a.add 0 = a by simp [Addr.add]] at h5
    simp [loadVar, Sem.run_bind, aggT_run h1, h5]
  · cases h

/-- A part of a value. -/
theorem part_sound {t : TypeId} {xs : List V} {us : List Value} {v : V} (off : Nat) (hr : RVl P σ w xs us) (h : aload P t (xs.drop off) = some v) :
    ∃ u, (part t us.toArray off).run P w = .ok u w ∧ RV P σ w v u := by
  have hrd := RVl.drop (k := off) hr
  unfold aload at h
  split at h
  · rename_i n h1 h2
    split at h
    · rename_i hn
      cases h
      refine ⟨.agg ((us.drop off).take n).toArray, ?_, ?_⟩
      · simp only [part, Sem.run_bind, aggT_run h1, szOf_run h2, Result.andThen_ok, if_true, Sem.run_pure]
        congr 2
        apply Array.ext'
        simp [List.take_drop]
      · simp only [RV]
        exact ⟨_, rfl, RVl.take hrd⟩
    · cases h
  · rename_i h1
    obtain ⟨u, h3, h4⟩ := RVl.get hrd h
    refine ⟨u, ?_, h4⟩
    rw [List.getElem?_drop, Nat.add_zero] at h3
    simp [part, Sem.run_bind, aggT_run h1, h3]
  · cases h

theorem mapM_unSc : ∀ {xs : List V} {us vs : List Value}, xs.mapM unSc = some us → RVl P σ w xs vs → us = vs
  | [], us, vs, h, hr => by simp at h; simp only [RVl] at hr; rw [h, hr]
  | x :: xs, us, vs, h, hr => by
    simp only [RVl] at hr
    obtain ⟨u, us', rfl, h1, h2⟩ := hr
    simp only [List.mapM_cons, Option.bind_eq_bind, Option.bind_eq_some_iff, Option.pure_def, Option.some.injEq] at h
    obtain ⟨a, ha, b, hb, rfl⟩ := h
    rw [mapM_unSc hb h2]
    cases x <;> simp [unSc] at ha
    subst ha
    simp only [RV] at h1
    rw [h1]

theorem toVal_sound {x : V} {a u : Value} (h : toVal x = some a) (hr : RV P σ w x u) : u = a := by
  cases x <;> simp only [toVal] at h <;> try cases h
  · simpa [RV] using hr
  · rename_i xs
    obtain ⟨us, h1, rfl⟩ := Option.map_eq_some_iff.1 h
    simp only [RV] at hr
    obtain ⟨vs, rfl, h2⟩ := hr
    rw [mapM_unSc h1 h2]

theorem asI_sound {x : V} {i : Int} {u : Value} (h : asI x = some i) (hr : RV P σ w x u) : ∃ k, u = .int k i := by
  cases x <;> simp only [asI] at h <;> try cases h
  rename_i v
  cases v <;> simp at h
  subst h
  simp only [RV] at hr
  exact ⟨_, hr⟩

theorem cells_one {u : Value} (h : u.oneCell' = true) : u.cells = #[u] := by
  cases u <;> simp [Value.oneCell', Value.cells] at h ⊢

theorem cells_sound {x : V} {u : Value} (hr : RV P σ w x u) (h1 : (cellsV x).all one = true) : RVl P σ w (cellsV x) u.cells.toList ∧ ∀ v ∈ u.cells.toList, v.oneCell' = true := by
  by_cases ha : ∃ xs, x = .agg xs
  · obtain ⟨xs, rfl⟩ := ha
    simp only [RV] at hr
    obtain ⟨us, rfl, h⟩ := hr
    have h2 : RVl P σ w (cellsV (.agg xs)) (Value.agg us.toArray).cells.toList := by simpa [cellsV, Value.cells] using h
    exact ⟨h2, RVl.ones h1 h2⟩
  · have hx : cellsV x = [x] := by
      cases x <;> first | rfl | exact absurd ⟨_, rfl⟩ ha
    rw [hx] at h1 ⊢
    have ho := RV.one (by simpa using h1) hr
    rw [cells_one ho]
    refine ⟨?_, by simpa using ho⟩
    simp only [RVl]
    exact ⟨u, [], rfl, hr, rfl⟩

/-! ### Building -/
theorem set_fold : ∀ (vs : List Value) (k off : Nat) (cs : Array Value), off + k + vs.length ≤ cs.size →
    ((vs.zipIdx k).foldl (fun cs (x : Value × Nat) => cs.setIfInBounds (off + x.2) x.1) cs).toList = cs.toList.take (off + k) ++ vs ++ cs.toList.drop (off + k + vs.length)
  | [], k, off, cs, h => by simp
  | v :: vs, k, off, cs, h => by
    simp only [List.zipIdx_cons, List.foldl_cons, List.length_cons] at h ⊢
    rw [set_fold vs (k + 1) off _ (by simp; omega)]
    have hlt : off + k < cs.toList.length := by simp; omega
    simp only [Array.toList_setIfInBounds]
    rw [List.take_set, show off + (k + 1) = off + k + 1 by omega, List.take_succ_eq_append_getElem hlt]
    rw [List.set_append_right _ _ (by rw [List.length_take]; exact Nat.min_le_left _ _)]
    rw [List.drop_set_of_lt (by omega)]
    have : off + k - (cs.toList.take (off + k)).length = 0 := by simp; omega
    rw [this]
    simp only [List.set_cons_zero, List.append_assoc, List.singleton_append]
    congr 3
    omega

theorem splice_len {xs ys : List V} {off : Nat} (h : off + ys.length ≤ xs.length) : (splice xs ys off).length = xs.length := by
  simp only [splice, List.length_append, List.length_take, List.length_drop]; omega

theorem RVl.splice {xs ys : List V} {us vs : List Value} {off : Nat} (h : RVl P σ w xs us) (k : RVl P σ w ys vs) (hl : off + ys.length ≤ xs.length) :
    RVl P σ w (M.splice xs ys off) (us.take off ++ vs ++ us.drop (off + vs.length)) := by
  rw [M.splice, RVl.length k]
  exact RVl.app (RVl.app (RVl.take h) k) (RVl.drop h)

theorem fill_sound {pl : Nat → Option (Nat × Nat)} : ∀ {ps : List (Nat × V)} {qs : List (Nat × Value)} {xs cs : List V} {us : Array Value},
    ps.map (·.1) = qs.map (·.1) → (∀ (j : Nat) (p : Nat × V) (q : Nat × Value), ps[j]? = some p → qs[j]? = some q → RV P σ w p.2 q.2) → RVl P σ w xs us.toList → afill pl xs ps = some cs →
    ∃ cs', Instr.fill pl us qs = some cs' ∧ RVl P σ w cs cs'.toList ∧ cs.length = xs.length
  | [], qs, xs, cs, us, hm, hp, hr, h => by
    simp at hm
    subst hm
    simp only [afill] at h
    cases h
    exact ⟨us, rfl, hr, rfl⟩
  | (i, x) :: ps, [], xs, cs, us, hm, hp, hr, h => by simp at hm
  | (i, x) :: ps, (i', u) :: qs, xs, cs, us, hm, hp, hr, h => by
    simp only [List.map_cons, List.cons.injEq] at hm
    obtain ⟨rfl, hm⟩ := hm
    simp only [afill] at h
    cases hpl : pl i with
    | none => rw [hpl] at h; cases h
    | some os =>
      obtain ⟨off, s⟩ := os
      rw [hpl] at h
      simp only at h
      split at h
      · rename_i hc
        obtain ⟨hc1, hc2, ho1⟩ := hc
        have hx : RV P σ w x u := hp 0 (i, x) (i, u) rfl rfl
        obtain ⟨hxr, _⟩ := cells_sound hx ho1
        have hul := RVl.length hxr
        have husl := RVl.length hr
        rw [Array.length_toList] at hul husl
        have hsp := RVl.splice (off := off) hr hxr (by omega)
        have hf := set_fold u.cells.toList 0 off us (by simp; omega)
        have hfold : (u.cells.zipIdx.foldl (fun cs (x : Value × Nat) => cs.setIfInBounds (off + x.2) x.1) us).toList = us.toList.take off ++ u.cells.toList ++ us.toList.drop (off + u.cells.toList.length) := by
          rw [← Array.foldl_toList, Array.toList_zipIdx]
          simpa using hf
        obtain ⟨cs', h1, h2, h3⟩ := fill_sound (us := u.cells.zipIdx.foldl (fun cs (x : Value × Nat) => cs.setIfInBounds (off + x.2) x.1) us) hm (fun j p q h1 h2 => hp (j + 1) p q (by simpa using h1) (by simpa using h2)) (by rw [hfold]; exact hsp) h
        refine ⟨cs', ?_, h2, by rw [h3, splice_len (by omega)]⟩
        simp only [Instr.fill, hpl]
        rw [if_neg (by simp; omega)]
        exact h1
      · cases h
end
end Go.M
