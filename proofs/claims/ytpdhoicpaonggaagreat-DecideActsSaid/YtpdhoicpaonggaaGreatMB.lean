/- Loads, builds, cuts and the like: what the machine tells is what the run yields. -/
import Derived.Test.YtpdhoicpaonggaaGreatM4
set_option linter.unusedVariables false
set_option linter.unusedSimpArgs false
namespace Go.M
open Go Go.RowKit
section
variable {P : Program} {σ σ' : Sg} {w w' w1 : World} {L L' : Nat → Lb}

theorem RV.ofVal (v : Value) : RV P σ w (ofVal v) v := by
  unfold M.ofVal
  split
  · simp only [RV, RC]
    exact ⟨none, 0, [], rfl, Nat.le_refl _, by simp [maxLen], fun _ => rfl, fun _ => ⟨rfl, rfl, rfl⟩, fun h => by simp at h, by simp [RCl], fun a h => by cases h⟩
  · simp only [RV]

theorem RVl.ofVals : ∀ (us : List Value), RVl P σ w (us.map M.ofVal) us
  | [] => by simp [RVl]
  | u :: us => by simp only [List.map_cons, RVl]; exact ⟨u, us, rfl, RV.ofVal u, RVl.ofVals us⟩

theorem RVl.get : ∀ {xs : List V} {us : List Value} {i : Nat} {x : V}, RVl P σ w xs us → xs[i]? = some x → ∃ u, us[i]? = some u ∧ RV P σ w x u
  | [], us, i, x, h, hx => by simp at hx
  | y :: xs, us, i, x, h, hx => by
    simp only [RVl] at h
    obtain ⟨u, us', rfl, h1, h2⟩ := h
    cases i with
    | zero => simp at hx; subst hx; exact ⟨u, rfl, h1⟩
    | succ i => simp at hx ⊢; exact RVl.get h2 hx

theorem szOf_run {t : TypeId} {n : Nat} (h : szOf P t = some n) (w : World) : (sizeOf t).run P w = .ok n w := by
  unfold szOf at h
  obtain ⟨i, hi, rfl⟩ := Option.map_eq_some_iff.1 h
  simp [sizeOf, typeInfo, hi]

theorem aggT_run {t : TypeId} {b : Bool} (h : aggT P t = some b) (w : World) : (isAgg t).run P w = .ok b w := by
  unfold aggT at h
  obtain ⟨d, hd, hb⟩ := Option.map_eq_some_iff.1 h
  unfold isAgg
  rw [Sem.run_bind, run_underlying hd w]
  subst hb
  cases d <;> rfl

theorem zeroOf_run {t : TypeId} {z : Value} (h : zeroOf P t = some z) (w : World) : (zeroValue t).run P w = .ok z w := by
  unfold zeroOf at h
  obtain ⟨i, hi, hz⟩ := Option.bind_eq_some_iff.1 h
  simp [zeroValue, typeInfo, hi, hz]

theorem aload_sound {t : TypeId} {xs : List V} {us : List Value} {v : V} (hr : RVl P σ w xs us) (a : Addr) (hc : ∀ j u, us[j]? = some u → w.cell? (a.add j) = some u) (h : aload P t xs = some v) :
    ∃ u, (loadVar t a).run P w = .ok u w ∧ RV P σ w v u := by
  unfold aload at h
  split at h
  · rename_i n h1 h2
    split at h
    · rename_i hn
      cases h
      have hl := RVl.length hr
      have hlen : (us.take n).length = n := by rw [List.length_take, hl]; omega
      refine ⟨.agg (us.take n).toArray, ?_, ?_⟩
      · have := run_loadCells_list (P := P) w a (us.take n) (fun j u hj => hc j u (by
          rw [List.getElem?_take] at hj
          split at hj
          · exact hj
          · cases hj))
        rw [hlen] at this
        simp [loadVar, Sem.run_bind, aggT_run h1, szOf_run h2, this]
      · simp only [RV]
        exact ⟨us.take n, rfl, RVl.take hr⟩
    · cases h
  · rename_i h1
    obtain ⟨u, h3, h4⟩ := RVl.get hr h
    refine ⟨u, ?_, h4⟩
    have h5 := hc 0 u h3
    rw [show a.add 0 = a by simp [Addr.add]] at h5
    simp [loadVar, Sem.run_bind, aggT_run h1, h5]
  · cases h

theorem part_sound {t : TypeId} {xs : List V} {us : List Value} {v : V} (off : Nat) (hr : RVl P σ w xs us) (h : aload P t (xs.drop off) = some v) :
    ∃ u, (part t us.toArray off).run P w = .ok u w ∧ RV P σ w v u := by
  have hrd := RVl.drop (k := off) hr
  unfold aload at h
  split at h
  · rename_i n h1 h2
    split at h
    · rename_i hn
      cases h
      refine ⟨.agg ((us.drop off).take n).toArray, ?_, ?_⟩
      · simp only [part, Sem.run_bind, aggT_run h1, szOf_run h2, Result.andThen_ok, if_true, Sem.run_pure]
        congr 2
        apply Array.ext'
        simp [List.take_drop]
      · simp only [RV]
        exact ⟨_, rfl, RVl.take hrd⟩
    · cases h
  · rename_i h1
    obtain ⟨u, h3, h4⟩ := RVl.get hrd h
    refine ⟨u, ?_, h4⟩
    rw [List.getElem?_drop, Nat.add_zero] at h3
    simp [part, Sem.run_bind, aggT_run h1, h3]
  · cases h

theorem mapM_unSc : ∀ {xs : List V} {us vs : List Value}, xs.mapM unSc = some us → RVl P σ w xs vs → us = vs
  | [], us, vs, h, hr => by simp at h; simp only [RVl] at hr; rw [h, hr]
  | x :: xs, us, vs, h, hr => by
    simp only [RVl] at hr
    obtain ⟨u, us', rfl, h1, h2⟩ := hr
    simp only [List.mapM_cons, Option.bind_eq_bind, Option.bind_eq_some_iff, Option.pure_def, Option.some.injEq] at h
    obtain ⟨a, ha, b, hb, rfl⟩ := h
    rw [mapM_unSc hb h2]
    cases x <;> simp [unSc] at ha
    subst ha
    simp only [RV] at h1
    rw [h1]

theorem toVal_sound {x : V} {a u : Value} (h : toVal x = some a) (hr : RV P σ w x u) : u = a := by
  cases x <;> simp only [toVal] at h <;> try cases h
  · simpa [RV] using hr
  · rename_i xs
    obtain ⟨us, h1, rfl⟩ := Option.map_eq_some_iff.1 h
    simp only [RV] at hr
    obtain ⟨vs, rfl, h2⟩ := hr
    rw [mapM_unSc h1 h2]

theorem asI_sound {x : V} {i : Int} {u : Value} (h : asI x = some i) (hr : RV P σ w x u) : ∃ k, u = .int k i := by
  cases x <;> simp only [asI] at h <;> try cases h
  rename_i v
  cases v <;> simp at h
  subst h
  simp only [RV] at hr
  exact ⟨_, hr⟩

theorem cells_one {u : Value} (h : u.oneCell' = true) : u.cells = #[u] := by
  cases u <;> simp [Value.oneCell', Value.cells] at h ⊢

theorem cells_sound {x : V} {u : Value} (hr : RV P σ w x u) (h1 : (cellsV x).all one = true) : RVl P σ w (cellsV x) u.cells.toList ∧ ∀ v ∈ u.cells.toList, v.oneCell' = true := by
  by_cases ha : ∃ xs, x = .agg xs
  · obtain ⟨xs, rfl⟩ := ha
    simp only [RV] at hr
    obtain ⟨us, rfl, h⟩ := hr
    have h2 : RVl P σ w (cellsV (.agg xs)) (Value.agg us.toArray).cells.toList := by simpa [cellsV, Value.cells] using h
    exact ⟨h2, RVl.ones h1 h2⟩
  · have hx : cellsV x = [x] := by
      cases x <;> first | rfl | exact absurd ⟨_, rfl⟩ ha
    rw [hx] at h1 ⊢
    have ho := RV.one (by simpa using h1) hr
    rw [cells_one ho]
    refine ⟨?_, by simpa using ho⟩
    simp only [RVl]
    exact ⟨u, [], rfl, hr, rfl⟩

theorem set_fold : ∀ (vs : List Value) (k off : Nat) (cs : Array Value), off + k + vs.length ≤ cs.size →
    ((vs.zipIdx k).foldl (fun cs (x : Value × Nat) => cs.setIfInBounds (off + x.2) x.1) cs).toList = cs.toList.take (off + k) ++ vs ++ cs.toList.drop (off + k + vs.length)
  | [], k, off, cs, h => by simp
  | v :: vs, k, off, cs, h => by
    simp only [List.zipIdx_cons, List.foldl_cons, List.length_cons] at h ⊢
    rw [set_fold vs (k + 1) off _ (by simp; omega)]
    have hlt : off + k < cs.toList.length := by simp; omega
    simp only [Array.toList_setIfInBounds]
    rw [List.take_set, show off + (k + 1) = off + k + 1 by omega, List.take_succ_eq_append_getElem hlt]
    rw [List.set_append_right _ _ (by rw [List.length_take]; exact Nat.min_le_left _ _)]
    rw [List.drop_set_of_lt (by omega)]
    have : off + k - (cs.toList.take (off + k)).length = 0 := by simp; omega
    rw [this]
    simp only [List.set_cons_zero, List.append_assoc, List.singleton_append]
    congr 3
    omega

theorem splice_len {xs ys : List V} {off : Nat} (h : off + ys.length ≤ xs.length) : (splice xs ys off).length = xs.length := by
  simp only [splice, List.length_append, List.length_take, List.length_drop]; omega

theorem RVl.splice {xs ys : List V} {us vs : List Value} {off : Nat} (h : RVl P σ w xs us) (k : RVl P σ w ys vs) (hl : off + ys.length ≤ xs.length) :
    RVl P σ w (M.splice xs ys off) (us.take off ++ vs ++ us.drop (off + vs.length)) := by
  rw [M.splice, RVl.length k]
  exact RVl.app (RVl.app (RVl.take h) k) (RVl.drop h)

theorem fill_sound {pl : Nat → Option (Nat × Nat)} : ∀ {ps : List (Nat × V)} {qs : List (Nat × Value)} {xs cs : List V} {us : Array Value},
    ps.map (·.1) = qs.map (·.1) → (∀ (j : Nat) (p : Nat × V) (q : Nat × Value), ps[j]? = some p → qs[j]? = some q → RV P σ w p.2 q.2) → RVl P σ w xs us.toList → afill pl xs ps = some cs →
    ∃ cs', Instr.fill pl us qs = some cs' ∧ RVl P σ w cs cs'.toList ∧ cs.length = xs.length
  | [], qs, xs, cs, us, hm, hp, hr, h => by
    simp at hm
    subst hm
    simp only [afill] at h
    cases h
    exact ⟨us, rfl, hr, rfl⟩
  | (i, x) :: ps, [], xs, cs, us, hm, hp, hr, h => by simp at hm
  | (i, x) :: ps, (i', u) :: qs, xs, cs, us, hm, hp, hr, h => by
    simp only [List.map_cons, List.cons.injEq] at hm
    obtain ⟨rfl, hm⟩ := hm
    simp only [afill] at h
    cases hpl : pl i with
    | none => rw [hpl] at h; cases h
    | some os =>
      obtain ⟨off, s⟩ := os
      rw [hpl] at h
      simp only at h
      split at h
      · rename_i hc
        obtain ⟨hc1, hc2, ho1⟩ := hc
        have hx : RV P σ w x u := hp 0 (i, x) (i, u) rfl rfl
        obtain ⟨hxr, _⟩ := cells_sound hx ho1
        have hul := RVl.length hxr
        have husl := RVl.length hr
        rw [Array.length_toList] at hul husl
        have hsp := RVl.splice (off := off) hr hxr (by omega)
        have hf := set_fold u.cells.toList 0 off us (by simp; omega)
        have hfold : (u.cells.zipIdx.foldl (fun cs (x : Value × Nat) => cs.setIfInBounds (off + x.2) x.1) us).toList = us.toList.take off ++ u.cells.toList ++ us.toList.drop (off + u.cells.toList.length) := by
          rw [← Array.foldl_toList, Array.toList_zipIdx]
          simpa using hf
        obtain ⟨cs', h1, h2, h3⟩ := fill_sound (us := u.cells.zipIdx.foldl (fun cs (x : Value × Nat) => cs.setIfInBounds (off + x.2) x.1) us) hm (fun j p q h1 h2 => hp (j + 1) p q (by simpa using h1) (by simpa using h2)) (by rw [hfold]; exact hsp) h
        refine ⟨cs', ?_, h2, by rw [h3, splice_len (by omega)]⟩
        simp only [Instr.fill, hpl]
        rw [if_neg (by simp; omega)]
        exact h1
      · cases h
end
end Go.M
namespace Go.M
open Go Go.RowKit
section
variable {P : Program} {σ σ' : Sg} {w w' w1 : World} {L L' : Nat → Lb}
def Sg.shut (σ : Sg) (id : Nat) (o : Ob) : Sg := { st := σ.st.set id o, φ := σ.φ, L := fun b => if σ.L b = .obj id then .pers else σ.L b }
theorem shut_pers {σ : Sg} {id : Nat} {o : Ob} {w : World} : ∀ b, σ.L b = .pers → (σ.shut id o).L b = .pers ∧ w.heap[b]? = w.heap[b]? := fun b h => by
  refine ⟨?_, rfl⟩
  simp only [Sg.shut]
  rw [if_neg (by rw [h]; simp)]
  exact h
theorem shut_other {σ : Sg} {id i : Nat} {o x : Ob} (hi : i ≠ id) : (σ.shut id o).st[i]? = σ.st[i]? := by
  simp only [Sg.shut]
  rw [List.getElem?_set_ne (Ne.symm hi)]
theorem Stp.shut {id : Nat} {e : TypeId} {xs : List V} {n lo : Nat} {fz : Bool} (h : σ.st[id]? = some (.row e xs n lo fz)) : Stp P σ (σ.shut id (.row e xs n lo true)) w w where
  os := rfl
  tape := rfl
  output := rfl
  size := Nat.le_refl _
  frn := fun b _ hb => by
    refine ⟨?_, rfl⟩
    simp only [Sg.shut]
    rw [if_neg (by rw [hb]; simp)]
    exact hb
  hld := fun i es hi => by
    have hii : i ≠ id := by
      rintro rfl
      simp only [Sg.shut] at hi
      rw [List.getElem?_set_self (List.getElem?_eq_some_iff.1 h).1] at hi
      cases hi
    rw [shut_other (x := .gone) hii] at hi
    exact ⟨hi, rfl⟩
  pers := shut_pers
  cells := fun i ys hi => ⟨rfl, ys, by rw [shut_other (x := .gone) (fun he => by subst he; rw [h] at hi; cases hi)]; exact hi⟩
  map := fun i hi => ⟨rfl, hi.keep (shut_other (x := .gone) (hi.ne h (by simp) (by simp)))⟩
  loop := fun i hi => by
    obtain ⟨s', p', pl', t', ps', a', b', hi⟩ := hi
    exact ⟨rfl, s', p', pl', t', ps', a', b', by rw [shut_other (x := .gone) (fun he => by subst he; rw [h] at hi; cases hi)]; exact hi⟩
  row := fun i e' xs' n' lo' fz' hi => by
    by_cases hii : i = id
    · subst hii
      rw [h] at hi
      cases hi
      have hlt := (List.getElem?_eq_some_iff.1 h).1
      have hs : (σ.shut i (.row e xs n lo true)).st[i]? = some (.row e xs n lo true) := by simp only [Sg.shut]; rw [List.getElem?_set_self hlt]
      refine ⟨xs, n, lo, true, hs, Nat.le_refl _, Nat.le_refl _, fun b k C _ _ hh => ?_⟩
      obtain ⟨e, ys, n, lo, fz, s, us, fr, h1, h2, h3, h4, h5, h5', h6, h7, h8, h9, h10⟩ := hh
      rw [h] at h1
      cases h1
      refine ⟨_, _, _, _, _, s, us, fr, hs, h2, h3, h4, h5, h5', h6, .inr ⟨rfl, ?_⟩, RCl.mono shut_pers h8, h9, h10⟩
      simp only [Sg.shut]
      rcases h7 with h7 | ⟨_, h7⟩
      · rw [if_pos h7]
      · rw [if_neg (by rw [h7]; simp)]; exact h7
    · have hs : (σ.shut id (.row e xs n lo true)).st[i]? = some (.row e' xs' n' lo' fz') := by rw [shut_other (x := .gone) hii]; exact hi
      refine ⟨xs', n', lo', fz', hs, Nat.le_refl _, Nat.le_refl _, fun b k C _ _ hh => ?_⟩
      obtain ⟨e, ys, n, lo, fz, s, us, fr, h1, h2, h3, h4, h5, h5', h6, h7, h8, h9, h10⟩ := hh
      rw [hi] at h1
      cases h1
      refine ⟨_, _, _, _, _, s, us, fr, hs, h2, h3, h4, h5, h5', h6, ?_, RCl.mono shut_pers h8, h9, h10⟩
      simp only [Sg.shut]
      rcases h7 with h7 | ⟨hf, h7⟩
      · left; rw [if_neg (by rw [h7]; simpa using hii)]; exact h7
      · right; rw [if_neg (by rw [h7]; simp)]; exact ⟨hf, h7⟩
theorem Good.shut (g : Good P σ w) {id : Nat} {e : TypeId} {xs : List V} {n lo : Nat} {fz : Bool} (h : σ.st[id]? = some (.row e xs n lo fz)) : Good P (σ.shut id (.row e xs n lo true)) w := by
  have hst : Stp P σ (σ.shut id (.row e xs n lo true)) w w := Stp.shut h
  have hlt := (List.getElem?_eq_some_iff.1 h).1
  refine ⟨fun i o hi => ?_, fun b i hb => ?_, fun b hb => ?_⟩
  · by_cases hii : i = id
    · subst hii
      have hs : (σ.shut i (.row e xs n lo true)).st[i]? = some (.row e xs n lo true) := by simp only [Sg.shut]; rw [List.getElem?_set_self hlt]
      rw [hs] at hi
      cases hi
      have hr := g.1 _ _ h
      simp only [RO] at hr ⊢
      obtain ⟨us, s, C, h1, h2, h3, h4, h5, h5', h6, h6', h7, h8, h9⟩ := hr
      refine ⟨us, s, C, h1, h2, h3, h4, h5, h5', h6, h6', RCl.mono shut_pers h7, fun hf => (by cases hf), fun _ => ?_⟩
      simp only [Sg.shut]
      cases fz with
      | false => rw [if_pos (h8 rfl)]
      | true => rw [if_neg (by rw [h9 rfl]; simp)]; exact h9 rfl
    · rw [shut_other (x := .gone) hii] at hi
      have hr := g.1 _ _ hi
      cases o with
      | gone => simp [RO]
      | map es =>
        refine RO.mono hst.toStq rfl ?_ rfl hr
        simp only [RO] at hr
        obtain ⟨_, _, _, _, h4, _⟩ := hr
        simp only [Sg.shut]
        rw [if_neg (by rw [h4]; simpa using hii)]
      | held es =>
        refine RO.mono hst.toStq rfl ?_ rfl hr
        simp only [RO] at hr
        obtain ⟨_, _, _, _, h4, _⟩ := hr
        simp only [Sg.shut]
        rw [if_neg (by rw [h4]; simp)]
      | loop s p pl t ps a b =>
        refine RO.mono hst.toStq rfl ?_ rfl hr
        simp only [RO] at hr
        obtain ⟨_, _, _, _, _, _, _, _, h4, _⟩ := hr
        simp only [Sg.shut]
        rw [if_neg (by rw [h4]; simpa using hii)]
      | cells ys =>
        refine RO.mono hst.toStq rfl ?_ rfl hr
        simp only [RO] at hr
        obtain ⟨us, e, h1, h2, h3, h4⟩ := hr
        simp only [Sg.shut]
        rw [if_neg (by rw [h4]; simpa using hii)]
      | row e' ys n' lo' fz' =>
        refine RO.mono hst.toStq rfl ?_ rfl hr
        simp only [RO] at hr
        obtain ⟨us, s, C, h1, h2, h3, h4, h5, h5', h6, h6', h7, h8, h9⟩ := hr
        simp only [Sg.shut]
        cases fz' with
        | false => rw [if_neg (by rw [h8 rfl]; simpa using hii)]
        | true => rw [if_neg (by rw [h9 rfl]; simp)]
  · simp only [Sg.shut] at hb ⊢
    split at hb
    · cases hb
    · have := g.2.1 b i hb
      exact ⟨this.1, by rw [List.length_set]; exact this.2⟩
  · simp only [Sg.shut]
    have := g.2.2 b hb
    rw [if_neg (by rw [this]; simp)]
    exact this
mutual
theorem RC.closed : ∀ {x : V} {u : Value}, RC L w x u → closed x = true
  | .sc _, _, _ => rfl
  | .tsl xs len nil full, u, hr => by
    simp only [RC] at hr
    obtain ⟨A, c, us, _, _, _, _, _, _, h6, _⟩ := hr
    simp only [M.closed]
    exact RCl.closedL h6
  | .sl .., _, hr => by simp [RC] at hr
  | .ref .., _, hr => by simp [RC] at hr
  | .rref .., _, hr => by simp [RC] at hr
  | .tref .., _, hr => by simp [RC] at hr
  | .agg .., _, hr => by simp [RC] at hr
  | .tup .., _, hr => by simp [RC] at hr
  | .map .., _, hr => by simp [RC] at hr
  | .fn .., _, hr => by simp [RC] at hr
  | .dead, _, hr => by simp [RC] at hr
theorem RCl.closedL : ∀ {xs : List V} {us : List Value}, RCl L w xs us → closedL xs = true
  | [], us, _ => rfl
  | x :: xs, us, hr => by
    simp only [RCl] at hr
    obtain ⟨u, us', _, _, h3, h4⟩ := hr
    simp only [M.closedL, Bool.and_eq_true]
    exact ⟨RC.closed h3, RCl.closedL h4⟩
end
theorem shut_sound (g : Good P σ w) {x y : V} {u : Value} {st' : List Ob} (hr : RV P σ w x u) (h : shut P σ.st x = some (y, st')) :
    ∃ σ', σ'.st = st' ∧ Good P σ' w ∧ Stp P σ σ' w w ∧ RV P σ' w y u ∧ closed y = true := by
  have triv : (if closed x = true then some (x, σ.st) else none) = some (y, st') → ∃ σ', σ'.st = st' ∧ Good P σ' w ∧ Stp P σ σ' w w ∧ RV P σ' w y u ∧ closed y = true := fun h => by
    split at h
    · rename_i hc
      cases h
      exact ⟨σ, rfl, g, .refl, hr, hc⟩
    · cases h
  cases x with
  | sl id off len full gg =>
    simp only [M.shut] at h
    split at h
    · rename_i e xs n lo fz hst
      split at h
      · rename_i s hs
        split at h
        · rename_i hlo
          cases h
          refine ⟨σ.shut id (.row e xs n lo true), rfl, g.shut hst, Stp.shut hst, ?_, ?_⟩
          · simp only [RV, RSl] at hr
            obtain ⟨e2, ys2, n2, lo2, fz2, s2, k1, k2, k3, ⟨a5, c5, k5, k6, k7, k8⟩, k4⟩ := hr
            rw [hst] at k1; cases k1
            rw [hs] at k2; cases k2
            obtain ⟨b, c, C, rfl, hh, k9, k10⟩ := k4 hlo
            cases k5
            obtain ⟨e3, xs3, n3, lo3, fz3, s3, us, fr, q1, q2, q3, q4, q5, q5', q6, q7, q8, q9, q10⟩ := hh
            rw [hst] at q1; cases q1
            rw [hs] at q2; cases q2
            have hd := RCl.drop (k := off * s) q8
            have hm : (off + len) * s = off * s + len * s := Nat.add_mul ..
            have hgg : (off + len) * s ≤ gg * s := Nat.mul_le_mul_right _ k3.1
            have hd := RCl.take (k := len * s) hd
            rw [List.drop_take, List.drop_take, List.take_take, List.take_take, Nat.min_eq_left (by omega)] at hd
            simp only [RV, RC]
            refine ⟨some ⟨b, off * s, none⟩, c5, _, rfl, k6, k7, k8, fun hf => (by cases hf), fun _ => (by simp), RCl.mono (w := w) (w' := w) shut_pers hd, fun a ha => ?_⟩
            cases ha
            refine ⟨fun j u hj => ?_, fun _ => ?_⟩
            · rw [add_at]
              simp only [World.cell?, q6]
              rw [List.getElem?_take] at hj
              split at hj
              · rw [List.getElem?_drop] at hj
                simpa using hj
              · cases hj
            · simp only [Sg.shut]
              rcases q7 with q7 | ⟨_, q7⟩
              · rw [if_pos q7]
              · rw [if_neg (by rw [q7]; simp)]; exact q7
          · have hro := g.1 _ _ hst
            simp only [RO] at hro
            obtain ⟨us, s', C, h1, h2, h3, h4, h5, h5', h6, h6', h7, h8, h9⟩ := hro
            simp only [closed]
            exact RCl.closedL (RCl.take (k := len * s) (RCl.drop (k := off * s) h7))
        · cases h
      · cases h
    · cases h
  | _ => exact triv (by simpa only [M.shut] using h)
theorem shutL_sound : ∀ {xs ys : List V} {us : List Value} {σ : Sg} {st' : List Ob}, Good P σ w → RVl P σ w xs us → shutL P σ.st xs = some (ys, st') → ∃ σ', σ'.st = st' ∧ Good P σ' w ∧ Stp P σ σ' w w ∧ RVl P σ' w ys us ∧ closedL ys = true ∧ ys.length = xs.length
  | [], ys, us, σ, st', g, hr, h => by
    simp only [shutL] at h
    cases h
    exact ⟨σ, rfl, g, .refl, hr, rfl, rfl⟩
  | x :: xs, ys, us, σ, st', g, hr, h => by
    simp only [shutL] at h
    split at h
    · rename_i y st1 h1
      split at h
      · rename_i ys' st2 h2
        cases h
        simp only [RVl] at hr
        obtain ⟨u, us', rfl, r1, r2⟩ := hr
        obtain ⟨σ1, rfl, g1, p1, q1, c1⟩ := shut_sound g r1 h1
        obtain ⟨σ2, rfl, g2, p2, q2, c2, l2⟩ := shutL_sound g1 (RVl.mono p1 r2) h2
        refine ⟨σ2, rfl, g2, p1.trans p2, ?_, ?_, ?_⟩
        · simp only [RVl]
          exact ⟨u, us', rfl, RV.mono p2 q1, q2⟩
        · simp only [closedL, Bool.and_eq_true]
          exact ⟨c1, c2⟩
        · simp [l2]
      · cases h
    · cases h
end
end Go.M
namespace Go.M
open Go Go.RowKit
section
variable {P : Program} {σ σ' : Sg} {w w' w1 : World} {L L' : Nat → Lb}

def Yield (P : Program) (σ : Sg) (ρ : Operand → Value) (w : World) (o : Oper) (v : V) (st' : List Ob) : Prop :=
  ∃ nx u w' σ', (execOp ρ o).run P w = .ok nx w' ∧ (nx = .value u ∨ (nx = .skip ∧ u = undef)) ∧ σ'.st = st' ∧ Good P σ' w' ∧ Stp P σ σ' w w' ∧ RV P σ' w' v u

def YieldS (P : Program) (σ : Sg) (ρ : Operand → Value) (w : World) (o : Oper) (v : V) (st' : List Ob) : Prop :=
  st' = σ.st ∧ ∃ u, (execOp ρ o).run P w = .ok (.value u) w ∧ RV P σ w v u

theorem Yield.same {ρ : Operand → Value} {o : Oper} {v : V} {u : Value} (g : Good P σ w) (h : (execOp ρ o).run P w = .ok (.value u) w) (hv : RV P σ w v u) : YieldS P σ ρ w o v σ.st :=
  ⟨rfl, u, h, hv⟩
theorem YieldS.yield {ρ : Operand → Value} {o : Oper} {v : V} {st' : List Ob} (g : Good P σ w) (h : YieldS P σ ρ w o v st') : Yield P σ ρ w o v st' := by
  obtain ⟨rfl, u, h1, h2⟩ := h
  exact ⟨_, u, w, σ, h1, .inl rfl, rfl, g, .refl, h2⟩

theorem run_v {α : Type} {s : Sem Value} {P : Program} {w w' : World} {u : Value} (h : s.run P w = .ok u w') : (do pure (Next.value (← s)) : Sem Next).run P w = .ok (.value u) w' := by
  simp [Sem.run_bind, h]

variable {ρ : Operand → V} {ρ' : Operand → Value} {st' : List Ob} {v : V} {dst : Option Tmp} {ty : TypeId} {pos : String} {after : Array Edge} {gd : Option (Nat × Bool)}

theorem y_pick (g : Good P σ w) (hρ : ∀ x, RV P σ w (ρ x) (ρ' x)) {c a b : Operand} (h : aval P ρ σ.st ⟨dst, .pick c a b, ty, pos, after, gd⟩ = some (v, st')) : YieldS P σ ρ' w ⟨dst, .pick c a b, ty, pos, after, gd⟩ v st' := by
  simp only [aval] at h
  split at h
  · rename_i t ht
    cases h
    have hc := hρ c
    rw [ht] at hc
    simp only [RV] at hc
    refine Yield.same (u := if t then ρ' a else ρ' b) g ?_ ?_
    · simp [execOp, hc, asBool]
    · cases t <;> simp [hρ]
  · cases h

theorem y_alloc (g : Good P σ w) {t : TypeId} (h : aval P ρ σ.st ⟨dst, .alloc t, ty, pos, after, gd⟩ = some (v, st')) : Yield P σ ρ' w ⟨dst, .alloc t, ty, pos, after, gd⟩ v st' := by
  simp only [aval] at h
  split at h
  · rename_i z hz
    split at h
    · rename_i h1
      cases h
      obtain ⟨h2, h3⟩ := new_cells (P := P) g (RVl.ofVals z.cells.toList) (fun u hu => (List.all_eq_true.1 h1) u hu) t
      refine ⟨_, .pointer (some ⟨w.heap.size, 0, none⟩), _, _, ?_, .inl rfl, rfl, h2, h3, ?_⟩
      · simp [execOp, Instr.alloc, Sem.run_bind, zeroOf_run hz, newVar, newRow]
      · simp only [RV]
        exact ⟨by simp [Sg.push], _, push_new⟩
    · cases h
  · cases h

theorem y_box (g : Good P σ w) (hρ : ∀ x, RV P σ w (ρ x) (ρ' x)) {t : TypeId} {x : Operand} (h : aval P ρ σ.st ⟨dst, .box t x, ty, pos, after, gd⟩ = some (v, st')) : Yield P σ ρ' w ⟨dst, .box t x, ty, pos, after, gd⟩ v st' := by
  simp only [aval] at h
  split at h
  · rename_i h1
    cases h
    obtain ⟨hr, ho⟩ := cells_sound (hρ x) h1
    obtain ⟨h2, h3⟩ := new_cells (P := P) g hr ho t
    refine ⟨_, .pointer (some ⟨w.heap.size, 0, none⟩), _, _, ?_, .inl rfl, rfl, h2, h3, ?_⟩
    · simp [execOp, Instr.box, newVar, newRow]
    · simp only [RV]
      exact ⟨by simp [Sg.push], _, push_new⟩
  · cases h

theorem parts_fst (ps : Array (Nat × Operand)) : (ps.toList.map fun (x : Nat × Operand) => (x.1, ρ x.2)).map (·.1) = ((ps.map fun (x : Nat × Operand) => (x.1, ρ' x.2)).toList).map (·.1) := by simp

theorem parts_snd (hρ : ∀ x, RV P σ w (ρ x) (ρ' x)) (ps : Array (Nat × Operand)) (j : Nat) (p : Nat × V) (q : Nat × Value) (h1 : (ps.toList.map fun (x : Nat × Operand) => (x.1, ρ x.2))[j]? = some p) (h2 : (ps.map fun (x : Nat × Operand) => (x.1, ρ' x.2)).toList[j]? = some q) : RV P σ w p.2 q.2 := by
  simp only [List.getElem?_map, Option.map_eq_some_iff, Array.toList_map] at h1 h2
  obtain ⟨a, ha, rfl⟩ := h1
  obtain ⟨b, hb, rfl⟩ := h2
  rw [ha] at hb
  cases hb
  exact hρ _

theorem y_build (g : Good P σ w) (hρ : ∀ x, RV P σ w (ρ x) (ρ' x)) {t : TypeId} {ps : Array (Nat × Operand)} (h : aval P ρ σ.st ⟨dst, .build t ps, ty, pos, after, gd⟩ = some (v, st')) : YieldS P σ ρ' w ⟨dst, .build t ps, ty, pos, after, gd⟩ v st' := by
  simp only [aval] at h
  split at h
  · rename_i z pl hz hpl
    split at h
    · rename_i cs hcs
      cases h
      obtain ⟨cs', h1, h2, _⟩ := fill_sound (P := P) (σ := σ) (w := w) (us := z.cells) (parts_fst (ρ := ρ) (ρ' := ρ') ps) (parts_snd hρ ps) (RVl.ofVals _) hcs
      have hb : P.built t (ps.map fun (x : Nat × Operand) => (x.1, ρ' x.2)).toList = some cs' := by
        unfold zeroOf at hz
        obtain ⟨it, hi, hz⟩ := Option.bind_eq_some_iff.1 hz
        unfold places at hpl
        unfold Program.built
        split at hpl
        · rename_i fs hu
          obtain ⟨pl', hm, rfl⟩ := Option.map_eq_some_iff.1 hpl
          simp only [hi, hu, hz, hm]
          exact h1
        · rename_i n e hu
          obtain ⟨s, hs, rfl⟩ := Option.map_eq_some_iff.1 hpl
          unfold szOf at hs
          obtain ⟨ie, hie, rfl⟩ := Option.map_eq_some_iff.1 hs
          simp only [hi, hu, hz, hie]
          exact h1
        · cases hpl
      refine Yield.same (u := .agg cs') g ?_ ?_
      · have := run_build (P := P) w t (ps.map fun (x : Nat × Operand) => (x.1, ρ' x.2)) cs' hb
        simp only [execOp]
        exact run_v (α := Unit) this
      · simp only [RV]
        exact ⟨cs'.toList, by simp, h2⟩
    · cases h
  · cases h

theorem bs_row (g : Good P σ w) {t e : TypeId} {n s : Nat} {cs : List V} {cs' : Array Value} {z : Value} {ps : Array (Nat × Operand)} {ρ' : Operand → Value} (hu : P.underlying t = some (.slice e)) (hs : szOf P e = some s) (hz : zeroOf P e = some z) (hc0 : 0 < s) (hc1 : n * s ≤ 16777216) (hc2 : z.cells.size = s)
    (hlen : cs.length = n * s) (hcl : closedL cs = true) (hal : cs.all one = true) (h2 : RVl P σ w cs cs'.toList)
    (hrun : (execOp ρ' ⟨dst, .buildSlice t n ps, ty, pos, after, gd⟩).run P w = .ok (.value (.slice (some ⟨w.heap.size, 0, none⟩) n n)) (w.alloc (.cells cs' e))) :
    Yield P σ ρ' w ⟨dst, .buildSlice t n ps, ty, pos, after, gd⟩ (.sl σ.st.length 0 n false n) (σ.st ++ [.row e cs n 0 false]) := by
  have hone := RVl.ones hal h2
  have hr : RCl σ.L w cs cs'.toList := RVl.RCl hcl hone h2
  have hul := RCl.length hr
  have hby : n ≤ maxLen := by
    have : n * 1 ≤ n * s := Nat.mul_le_mul_left _ hc0
    simp only [maxLen]; omega
  obtain ⟨k1, k2, k3⟩ := new_row (P := P) (rest := []) (w1 := w.alloc (.cells cs' e)) (n := n) (C := n) g rfl rfl rfl (by show w.heap.push _ = _; simp) hs hc0 hr hlen (by simp [hul, hlen]) (Nat.le_refl _) hby
  exact ⟨_, .slice (some ⟨w.heap.size, 0, none⟩) n n, _, _, hrun, .inl rfl, rfl, k1, k2, k3⟩

theorem y_buildSlice (g : Good P σ w) (hρ : ∀ x, RV P σ w (ρ x) (ρ' x)) {t : TypeId} {n : Nat} {ps : Array (Nat × Operand)} (h : aval P ρ σ.st ⟨dst, .buildSlice t n ps, ty, pos, after, gd⟩ = some (v, st')) : Yield P σ ρ' w ⟨dst, .buildSlice t n ps, ty, pos, after, gd⟩ v st' := by
  simp only [aval] at h
  split at h
  · rename_i e hu
    split at h
    · rename_i s z hs hz
      split at h
      · rename_i hc
        obtain ⟨hc0, hc1, hc2⟩ := hc
        split at h
        · rename_i cs hcs
          have hi : RVl P σ w ((List.range (n * s)).map fun i => M.ofVal (z.cells[i % z.cells.size]!)) ((Array.range (n * s)).map (z.cells[· % z.cells.size]!)).toList := by
            have := RVl.ofVals (P := P) (σ := σ) (w := w) ((List.range (n * s)).map fun i => z.cells[i % z.cells.size]!)
            simpa [Function.comp_def] using this
          obtain ⟨cs', h1, h2, h3⟩ := fill_sound (P := P) (σ := σ) (w := w) (us := (Array.range (n * s)).map (z.cells[· % z.cells.size]!)) (parts_fst (ρ := ρ) (ρ' := ρ') ps) (parts_snd hρ ps) hi hcs
          have hlen : cs.length = n * s := by rw [h3]; simp
          have hul := RVl.length h2
          have hz0 := hz
          unfold zeroOf at hz
          obtain ⟨ie, hie, hz'⟩ := Option.bind_eq_some_iff.1 hz
          have hsz : ie.size = s := by unfold szOf at hs; rw [hie] at hs; simpa using hs
          have hrun : (execOp ρ' ⟨dst, .buildSlice t n ps, ty, pos, after, gd⟩).run P w = .ok (.value (.slice (some ⟨w.heap.size, 0, none⟩) n n)) (w.alloc (.cells cs' e)) := by
            by_cases hpos : n * s = 0
            · have hcs0 : cs' = #[] := by
                apply Array.eq_empty_of_size_eq_zero
                rw [← Array.length_toList, hul, hlen, hpos]
              have h1' := h1
              rw [hpos, show Array.range 0 = #[] from rfl, Array.map_empty] at h1'
              simp only [execOp]
              refine run_v (α := Unit) ?_
              subst hsz
              simp [Instr.buildSlice, run_underlying hu, sizeOf, typeInfo, zeroValue, hie, hz', hpos, newRow]
              rw [show Array.range 0 = #[] from rfl, Array.map_empty]
              simp only [Array.toList_map] at h1'
              simp [h1']
            · simp only [execOp]
              refine run_v (α := Unit) ?_
              subst hsz
              exact run_buildSlice (P := P) w t e n _ cs' ie z hu hie hz' (by omega) hpos h1
          split at h
          · rename_i hcl
            cases h
            exact bs_row g hu hs hz0 hc0 hc1 hc2 hlen hcl.1 hcl.2 h2 hrun
          · split at h
            · rename_i ys st1 hsh
              split at h
              · rename_i hal
                cases h
                obtain ⟨σ1, rfl, g1, p1, q1, c1, l1⟩ := shutL_sound g h2 hsh
                obtain ⟨nx, u, w', σ2, e1, e2, e3, e4, e5, e6⟩ := bs_row (σ := σ1) (ps := ps) (ρ' := ρ') (dst := dst) (ty := ty) (pos := pos) (after := after) (gd := gd) g1 hu hs hz0 hc0 hc1 hc2 (l1.trans hlen) c1 hal q1 hrun
                exact ⟨nx, u, w', σ2, e1, e2, e3, e4, p1.trans e5, e6⟩
              · cases h
            · cases h
        · cases h
      · cases h
    · cases h
  · cases h

theorem y_load (g : Good P σ w) (hρ : ∀ x, RV P σ w (ρ x) (ρ' x)) {t : TypeId} {x : Operand} (h : aval P ρ σ.st ⟨dst, .load t x, ty, pos, after, gd⟩ = some (v, st')) : YieldS P σ ρ' w ⟨dst, .load t x, ty, pos, after, gd⟩ v st' := by
  have hx := hρ x
  have key : ∀ (a : Addr) (xs : List V) (us : List Value), ρ' x = .pointer (some a) → RVl P σ w xs us → (∀ j u, us[j]? = some u → w.cell? (a.add j) = some u) → (aload P t xs).map (·, σ.st) = some (v, st') → YieldS P σ ρ' w ⟨dst, .load t x, ty, pos, after, gd⟩ v st' := by
    intro a xs us ha hr hc h
    obtain ⟨v', hv, hh⟩ := Option.map_eq_some_iff.1 h
    cases hh
    obtain ⟨u, h1, h2⟩ := aload_sound hr a hc hv
    refine Yield.same g ?_ h2
    simp only [execOp, ha]
    exact run_v (α := Unit) (by simpa [Instr.loadAt, Instr.sureAddr] using h1)
  simp only [aval] at h
  split at h
  · rename_i id off hxx
    rw [hxx] at hx
    simp only [RV] at hx
    obtain ⟨hx1, _⟩ := hx
    split at h
    · rename_i xs hst
      have hro := g.1 id _ hst
      simp only [RO] at hro
      obtain ⟨us, e, r1, r2, r3, r4⟩ := hro
      refine key _ (xs.drop off) (us.toList.drop off) hx1 (RVl.drop r2) (fun j u hj => ?_) h
      rw [add_at]
      simp only [World.cell?, r1]
      rw [List.getElem?_drop] at hj
      simpa using hj
    · cases h
  · rename_i id off e hxx
    rw [hxx] at hx
    simp only [RV] at hx
    split at h
    · rename_i ty' xs n lo fz hst
      obtain ⟨ty2, xs2, n2, lo2, fz2, k1, k2, _, k3⟩ := hx
      rw [hst] at k1
      cases k1
      split at h
      · rename_i kk s0 hkk hs0
        split at h
        · rename_i hlo
          obtain ⟨hlo, hk0, hke⟩ := hlo
          obtain ⟨b, C, s, hp, hs, hh⟩ := k3 hlo
          obtain ⟨e3, xs3, n3, lo3, fz3, s3, us, fr, q1, q2, q3, q4, q5, q5', q6, q7, q8, q9, q10⟩ := hh
          rw [hst] at q1; cases q1
          rw [hs] at q2; cases q2
          rw [hs] at hs0; cases hs0
          refine key _ ((xs.take (e * s0)).drop off) ((us.toList.take (e * s0)).drop off) hp (RCl.RVl (RCl.drop q8)) (fun j u hj => ?_) ?_
          · rw [add_at]
            simp only [World.cell?, q6]
            rw [List.getElem?_drop, List.getElem?_take] at hj
            split at hj
            · simpa using hj
            · cases hj
          · rw [← h]
            congr 1
            unfold aload
            rw [hkk]
            have hd : ((xs.take (e * s0)).drop off).take kk = (xs.drop off).take kk := by
              rw [List.drop_take, List.take_take, Nat.min_eq_left (by omega)]
            have h0 : ((xs.take (e * s0)).drop off)[0]? = (xs.drop off)[0]? := by
              rw [List.drop_take, List.getElem?_take_of_lt (by omega)]
            have hq := RCl.length q8
            have hlx : (xs.take (e * s0)).length = e * s0 := by
              rw [← hq, List.length_take, Array.length_toList]; omega
            have hlx2 : e * s0 ≤ xs.length := by rw [List.length_take] at hlx; omega
            rw [h0]
            split
            · rename_i h1 h2
              cases h2
              rw [hd, if_pos (by rw [List.length_drop, hlx]; omega), if_pos (by rw [List.length_drop]; omega)]
            · rfl
            · rfl
        · cases h
      · cases h
    · cases h
  · rename_i xs hxx
    rw [hxx] at hx
    simp only [RV] at hx
    obtain ⟨a, us, k1, k2, k3, k4⟩ := hx
    exact key a xs us k1 (RCl.RVl k2) k3 h
  · cases h
end
end Go.M
namespace Go.M
open Go Go.RowKit
section
variable {P : Program} {σ σ' : Sg} {w w' w1 : World} {L L' : Nat → Lb}
variable {ρ : Operand → V} {ρ' : Operand → Value} {st' : List Ob} {v : V} {dst : Option Tmp} {ty : TypeId} {pos : String} {after : Array Edge} {gd : Option (Nat × Bool)}

theorem run_storeVar {t : TypeId} {n : Nat} (hs : szOf P t = some n) {b off : Nat} {us : Array Value} {e : TypeId} {u : Value} (hb : w.heap[b]? = some (.cells us e (0, 0))) (hn : u.cells.size = n) (hoff : off + n ≤ us.size) (h1 : ∀ v ∈ u.cells.toList, v.oneCell' = true) :
    (storeVar t ⟨b, off, none⟩ u).run P w = .ok () (w.setRow b (us.toList.take off ++ u.cells.toList ++ us.toList.drop (off + u.cells.toList.length)).toArray) := by
  have := run_storeCells_at P b off e u.cells.toList 0 us w hb (by simpa [hn] using hoff) h1
  simp only [Nat.add_zero] at this
  simp [storeVar, Sem.run_bind, szOf_run hs, hn, this]

theorem splice_take {α : Type} {a b : List α} {off k : Nat} (h1 : off + b.length ≤ k) (h2 : k ≤ a.length) : (a.take off ++ b ++ a.drop (off + b.length)).take k = (a.take k).take off ++ b ++ (a.take k).drop (off + b.length) := by
  have hl : (a.take off ++ b).length = off + b.length := by rw [List.length_append, List.length_take]; omega
  rw [List.take_append, List.take_of_length_le (by rw [hl]; exact h1), hl, List.take_take, Nat.min_eq_left (by omega), List.drop_take]

theorem y_store (g : Good P σ w) (hρ : ∀ x, RV P σ w (ρ x) (ρ' x)) {t : TypeId} {x y : Operand} (h : aval P ρ σ.st ⟨dst, .store t x y, ty, pos, after, gd⟩ = some (v, st')) : Yield P σ ρ' w ⟨dst, .store t x y, ty, pos, after, gd⟩ v st' := by
  have hx := hρ x
  have hy := hρ y
  simp only [aval] at h
  split at h
  · rename_i id off hxx
    rw [hxx] at hx
    simp only [RV] at hx
    obtain ⟨hx1, _⟩ := hx
    split at h
    · rename_i xs hst
      split at h
      · rename_i hc
        obtain ⟨hc1, hc2, hc3⟩ := hc
        cases h
        have hro := g.1 id _ hst
        simp only [RO] at hro
        obtain ⟨us, e, r1, r2, r3, r4⟩ := hro
        obtain ⟨hyr, hyo⟩ := cells_sound hy hc3
        have hl1 := RVl.length hyr
        have hl2 := RVl.length r2
        rw [Array.length_toList] at hl1 hl2
        have hrun := run_storeVar (P := P) (w := w) (n := (cellsV (ρ y)).length) (off := off) hc1.symm r1 (by rw [hl1]) (by rw [hl2]; exact hc2) hyo
        have hsp := RVl.splice (off := off) r2 hyr hc2
        obtain ⟨g1, g2⟩ := set_cells (P := P) g hst (Chg.setRow r1) (us' := (us.toList.take off ++ (ρ' y).cells.toList ++ us.toList.drop (off + (ρ' y).cells.toList.length)).toArray) (by simpa using hsp) (by
          intro u hu
          simp only [List.mem_append] at hu
          rcases hu with (hu | hu) | hu
          · exact r3 u (List.mem_of_mem_take hu)
          · exact hyo u hu
          · exact r3 u (List.mem_of_mem_drop hu))
        refine ⟨.skip, undef, _, _, ?_, .inr ⟨rfl, rfl⟩, rfl, g1, g2, by simp only [RV]⟩
        simp [execOp, hx1, Sem.run_bind, Instr.storeAt, Instr.sureAddr, hrun]
      · cases h
    · cases h
  · rename_i id off e hxx
    rw [hxx] at hx
    simp only [RV] at hx
    split at h
    · rename_i ty' xs n lo fz hst
      split at h
      · rename_i hc
        obtain ⟨hc1, hc2, rfl, rfl, hc3, hc4⟩ := hc
        cases h
        obtain ⟨ty2, xs2, n2, lo2, fz2, k1, k2, _, k3⟩ := hx
        rw [hst] at k1; cases k1
        have hro := g.1 id _ hst
        simp only [RO] at hro
        obtain ⟨us, s, C, r1, r2, r3, r4, r5, r6, r7, r8, r9, r10, _⟩ := hro
        obtain ⟨b, C', s', hp, hs, hh⟩ := k3 r8
        obtain ⟨e3, xs3, n3, lo3, fz3, s3, us3, fr, q1, q2, q3, q4, q5, q5', q6, q7, q8, q9, q10⟩ := hh
        rw [hst] at q1; cases q1
        obtain ⟨rfl, hsz⟩ := q10 rfl
        rw [r3] at q6; cases q6
        obtain ⟨hyr, hyo⟩ := cells_sound hy hc3
        have hyc := RVl.RCl hc4 hyo hyr
        have hl1 := RVl.length hyr
        have hul : us.toList.length = C * s := by rw [Array.length_toList, r4]
        have hle : e * s ≤ C * s := Nat.mul_le_mul_right _ r5
        rw [Array.length_toList] at hl1
        have hrun := run_storeVar (P := P) (w := w) (n := (cellsV (ρ y)).length) (off := off) hc1.symm r3 (by rw [hl1]) (by rw [r4]; omega) hyo
        have hz : (us.toList.take off ++ (ρ' y).cells.toList ++ us.toList.drop (off + (ρ' y).cells.toList.length)).toArray.size = us.size := by
          simp only [List.size_toArray, List.length_append, List.length_take, List.length_drop, hul, r4, Array.length_toList, hl1]; omega
        have hcont : RCl σ.L w (splice xs (cellsV (ρ y)) off) ((us.toList.take off ++ (ρ' y).cells.toList ++ us.toList.drop (off + (ρ' y).cells.toList.length)).take (e * s)) := by
          have h1 := splice_take (a := us.toList) (b := (ρ' y).cells.toList) (off := off) (k := e * s) (by rw [Array.length_toList]; omega) (by omega)
          rw [h1, splice, ← hl1, ← Array.length_toList]
          exact RCl.app (RCl.app (RCl.take r9) hyc) (RCl.drop r9)
        obtain ⟨g1, g2⟩ := set_row (P := P) g hst r3 r1 r4 (Chg.setRow r3) hz (by simpa using hcont) (by rw [splice_len hc2, r7])
        refine ⟨.skip, undef, _, _, ?_, .inr ⟨rfl, rfl⟩, rfl, g1, g2, by simp only [RV]⟩
        simp [execOp, hp, Sem.run_bind, Instr.storeAt, Instr.sureAddr, hrun]
      · cases h
    · cases h
  · cases h

theorem y_nilCheck (g : Good P σ w) (hρ : ∀ x, RV P σ w (ρ x) (ρ' x)) {x : Operand} (h : aval P ρ σ.st ⟨dst, .nilCheck x, ty, pos, after, gd⟩ = some (v, st')) : YieldS P σ ρ' w ⟨dst, .nilCheck x, ty, pos, after, gd⟩ v st' := by
  have hx := hρ x
  simp only [aval] at h
  split at h
  · rename_i id off hxx
    cases h
    rw [hxx] at hx
    have hx' := hx
    simp only [RV] at hx'
    exact Yield.same (u := ρ' x) g (by simp [execOp, hx'.1]) hx
  · rename_i id off e hxx
    cases h
    rw [hxx] at hx
    have hx' := hx
    simp only [RV] at hx'
    obtain ⟨_, _, _, _, _, _, _, ⟨a, ha⟩, _⟩ := hx'
    exact Yield.same (u := ρ' x) g (by simp [execOp, ha]) hx
  · rename_i xs hxx
    cases h
    rw [hxx] at hx
    have hx' := hx
    simp only [RV] at hx'
    obtain ⟨a, us, ha, _⟩ := hx'
    exact Yield.same (u := ρ' x) g (by simp [execOp, ha]) hx
  · rename_i f cs hxx
    split at h
    · cases h
      rw [hxx] at hx
      have hx' := hx
      simp only [RV] at hx'
      obtain ⟨us, ha, _⟩ := hx'
      exact Yield.same (u := ρ' x) g (by simp [execOp, ha]) hx
    · cases h
  · cases h

theorem sort1 {x : V} {u : Value} (hs : sortV x = 1) (h : RV P σ w x u) : ∃ A n c, u = .slice A n c ∧ A.isNone = nilV x := by
  cases x with
  | tsl xs len nil full =>
    simp only [RV, RC] at h
    obtain ⟨A, c, us, rfl, _, _, _, h4, h5, _⟩ := h
    refine ⟨A, len, c, rfl, ?_⟩
    cases nil with
    | true => rw [(h4 rfl).1]; rfl
    | false => have := h5 rfl; cases A <;> simp_all [nilV]
  | sl id off len full gg =>
    simp only [RV, RSl] at h
    obtain ⟨_, _, _, _, _, _, _, _, _, ⟨a, c, rfl, _⟩, _⟩ := h
    exact ⟨some a, len, c, rfl, rfl⟩
  | sc v => simp only [sortV] at hs; split at hs <;> simp_all
  | _ => simp [sortV] at hs

theorem sort2 {x : V} {u : Value} (hs : sortV x = 2) (h : RV P σ w x u) : ∃ A, u = .pointer A ∧ A.isNone = nilV x := by
  cases x with
  | ref id off => simp only [RV] at h; exact ⟨_, h.1, rfl⟩
  | rref id off e => simp only [RV] at h; obtain ⟨_, _, _, _, _, _, _, ⟨a, rfl⟩, _⟩ := h; exact ⟨some a, rfl, rfl⟩
  | tref xs => simp only [RV] at h; obtain ⟨a, us, rfl, _⟩ := h; exact ⟨some a, rfl, rfl⟩
  | sc v =>
    simp only [RV] at h
    subst h
    simp only [sortV] at hs
    split at hs <;> simp_all [nilV]
  | _ => simp [sortV] at hs

theorem sort3 {x : V} {u : Value} (hs : sortV x = 3) (h : RV P σ w x u) : ∃ A, u = .map A ∧ A.isNone = nilV x := by
  cases x with
  | map id => simp only [RV] at h; exact ⟨_, h.1, rfl⟩
  | sc v =>
    simp only [RV] at h
    subst h
    simp only [sortV] at hs
    split at hs <;> simp_all [nilV]
  | _ => simp [sortV] at hs

theorem sort4 {x : V} {u : Value} (hs : sortV x = 4) (h : RV P σ w x u) : (u = .nilFunc ∧ nilV x = true) ∨ (∃ f a b, u = .func f a b ∧ nilV x = false) := by
  cases x with
  | fn f caps => simp only [RV] at h; obtain ⟨us, rfl, _⟩ := h; exact .inr ⟨_, _, _, rfl, rfl⟩
  | yl id => simp only [RV] at h; obtain ⟨rfl, _⟩ := h; exact .inr ⟨_, _, _, rfl, rfl⟩
  | sc v =>
    simp only [RV] at h
    subst h
    simp only [sortV] at hs
    split at hs <;> simp_all [nilV]
  | _ => simp [sortV] at hs

theorem eq_slice {t e : TypeId} (hu : P.underlying t = some (.slice e)) {A B : Option Addr} {n m c d : Nat} (h : (A.isNone || B.isNone) = true) : (Op.equal t (.slice A n c) (.slice B m d)).run P w = .ok (A.isNone && B.isNone) w := by
  show (Op.equalIn (9999 + 1) t (.slice A n c) (.slice B m d)).run P w = _
  rw [Op.equalIn, Sem.run_bind, run_underlying hu, Result.andThen_ok]
  cases A <;> cases B <;> first | rfl | simp at h
theorem eq_pointer {t e : TypeId} (hu : P.underlying t = some (.pointer e)) {A B : Option Addr} (h : (A.isNone || B.isNone) = true) : (Op.equal t (.pointer A) (.pointer B)).run P w = .ok (A.isNone && B.isNone) w := by
  show (Op.equalIn (9999 + 1) t (.pointer A) (.pointer B)).run P w = _
  rw [Op.equalIn, Sem.run_bind, run_underlying hu, Result.andThen_ok]
  cases A <;> cases B <;> first | rfl | simp at h
theorem eq_map {t k e : TypeId} (hu : P.underlying t = some (.map k e)) {A B : Option Nat} (h : (A.isNone || B.isNone) = true) : (Op.equal t (.map A) (.map B)).run P w = .ok (A.isNone && B.isNone) w := by
  show (Op.equalIn (9999 + 1) t (.map A) (.map B)).run P w = _
  rw [Op.equalIn, Sem.run_bind, run_underlying hu, Result.andThen_ok]
  cases A <;> cases B <;> first | rfl | simp at h

theorem eql_of {t : TypeId} {x y : Operand} {a b : Value} {r : Bool} (h1 : eqGuard .eql t x y a b = pure ()) (h2 : eqGuard .neq t x y a b = pure ()) (h3 : binOp .eql t a b = (do pure (.bool (← Op.equal t a b)))) (h4 : binOp .neq t a b = (do pure (.bool (!(← Op.equal t a b)))))
    (h : (Op.equal t a b).run P w = .ok r w) : (do eqGuard .eql t x y a b; binOp .eql t a b : Sem Value).run P w = .ok (.bool r) w ∧ (do eqGuard .neq t x y a b; binOp .neq t a b : Sem Value).run P w = .ok (.bool !r) w := by
  rw [h1, h2, h3, h4]
  simp [Sem.run_bind, h]

theorem y_binOp (g : Good P σ w) (hρ : ∀ x, RV P σ w (ρ x) (ρ' x)) {op : BinOp} {t t2 : TypeId} {x y : Operand} (h : aval P ρ σ.st ⟨dst, .binOp op t x y t2, ty, pos, after, gd⟩ = some (v, st')) : YieldS P σ ρ' w ⟨dst, .binOp op t x y t2, ty, pos, after, gd⟩ v st' := by
  have hx := hρ x
  have hy := hρ y
  simp only [aval, abin] at h
  split at h
  · rename_i a b ha hb
    simp only [Option.map_map] at h
    obtain ⟨u, hu, hh⟩ := Option.map_eq_some_iff.1 h
    cases hh
    have := pureRun_sound hu w
    rw [← toVal_sound ha hx, ← toVal_sound hb hy] at this
    exact Yield.same g (by simp only [execOp]; exact run_v (α := Unit) this) (by simp only [RV])
  · have key : ∀ b, eqNil P t (ρ x) (ρ y) = some b → (do eqGuard .eql t x y (ρ' x) (ρ' y); binOp .eql t (ρ' x) (ρ' y)).run P w = .ok (.bool b) w ∧ (do eqGuard .neq t x y (ρ' x) (ρ' y); binOp .neq t (ρ' x) (ρ' y)).run P w = .ok (.bool !b) w := by
      intro b hb
      unfold eqNil at hb
      cases hu : P.underlying t with
      | none => simp [hu] at hb
      | some d =>
        simp only [hu] at hb
        split at hb
        · rename_i hc
          obtain ⟨h1, h2, h3⟩ := hc
          cases hb
          cases d with
          | slice e =>
            obtain ⟨A, n, c, hA, hA2⟩ := sort1 h1 hx
            obtain ⟨B, m, c2, hB, hB2⟩ := sort1 h2 hy
            rw [hA, hB, ← hA2, ← hB2]
            rw [← hA2, ← hB2] at h3
            exact eql_of rfl rfl rfl rfl (eq_slice hu h3)
          | pointer e =>
            obtain ⟨A, hA, hA2⟩ := sort2 h1 hx
            obtain ⟨B, hB, hB2⟩ := sort2 h2 hy
            rw [hA, hB, ← hA2, ← hB2]
            rw [← hA2, ← hB2] at h3
            refine eql_of rfl rfl ?_ ?_ (eq_pointer hu h3)
            · cases A <;> cases B <;> rfl
            · cases A <;> cases B <;> rfl
          | map k e =>
            obtain ⟨A, hA, hA2⟩ := sort3 h1 hx
            obtain ⟨B, hB, hB2⟩ := sort3 h2 hy
            rw [hA, hB, ← hA2, ← hB2]
            rw [← hA2, ← hB2] at h3
            exact eql_of rfl rfl rfl rfl (eq_map hu h3)
          | func a b c =>
            rcases sort4 h1 hx with ⟨hA, hA2⟩ | ⟨f1, f2, f3, hA, hA2⟩ <;> rcases sort4 h2 hy with ⟨hB, hB2⟩ | ⟨f4, f5, f6, hB, hB2⟩ <;> rw [hA, hB, hA2, hB2] <;> rw [hA2, hB2] at h3
            · refine eql_of rfl rfl rfl rfl ?_
              show (Op.equalIn (9999 + 1) t _ _).run P w = _
              rw [Op.equalIn, Sem.run_bind, run_underlying hu, Result.andThen_ok]
              rfl
            · refine eql_of rfl rfl rfl rfl ?_
              show (Op.equalIn (9999 + 1) t _ _).run P w = _
              rw [Op.equalIn, Sem.run_bind, run_underlying hu, Result.andThen_ok]
              rfl
            · refine eql_of rfl rfl rfl rfl ?_
              show (Op.equalIn (9999 + 1) t _ _).run P w = _
              rw [Op.equalIn, Sem.run_bind, run_underlying hu, Result.andThen_ok]
              rfl
            · simp at h3
          | _ =>
            exfalso
            have h5 : sortV (ρ x) = 5 := h1
            have : sortV (ρ x) ≤ 4 := by
              unfold sortV
              split <;> omega
            omega
        · cases hb
    split at h
    · rename_i b hb
      cases h
      exact Yield.same (u := .bool b) g (by simp only [execOp]; exact run_v (α := Unit) (key b hb).1) (by simp only [RV])
    · rename_i b hb
      cases h
      exact Yield.same (u := .bool !b) g (by simp only [execOp]; exact run_v (α := Unit) (key b hb).2) (by simp only [RV])
    · cases h
end
end Go.M
namespace Go.M
open Go Go.RowKit
section
variable {P : Program} {σ σ' : Sg} {w w' w1 : World} {L L' : Nat → Lb}
variable {ρ : Operand → V} {ρ' : Operand → Value} {st' : List Ob} {v : V} {dst : Option Tmp} {ty : TypeId} {pos : String} {after : Array Edge} {gd : Option (Nat × Bool)}

theorem y_move (g : Good P σ w) (hρ : ∀ x, RV P σ w (ρ x) (ρ' x)) {x : Operand} (h : aval P ρ σ.st ⟨dst, .move x, ty, pos, after, gd⟩ = some (v, st')) : YieldS P σ ρ' w ⟨dst, .move x, ty, pos, after, gd⟩ v st' := by
  simp only [aval] at h
  cases h
  exact Yield.same (u := ρ' x) g (by simp [execOp]) (hρ x)
theorem y_assign (g : Good P σ w) (hρ : ∀ x, RV P σ w (ρ x) (ρ' x)) {x : Operand} (h : aval P ρ σ.st ⟨dst, .assign x, ty, pos, after, gd⟩ = some (v, st')) : YieldS P σ ρ' w ⟨dst, .assign x, ty, pos, after, gd⟩ v st' := by
  simp only [aval] at h
  cases h
  exact Yield.same (u := ρ' x) g (by simp [execOp]) (hρ x)

theorem y_unOp (g : Good P σ w) (hρ : ∀ x, RV P σ w (ρ x) (ρ' x)) {op : UnOp} {t : TypeId} {x : Operand} (h : aval P ρ σ.st ⟨dst, .unOp op t x, ty, pos, after, gd⟩ = some (v, st')) : YieldS P σ ρ' w ⟨dst, .unOp op t x, ty, pos, after, gd⟩ v st' := by
  simp only [aval] at h
  split at h
  · rename_i a ha
    obtain ⟨u, hu, hh⟩ := Option.map_eq_some_iff.1 h
    cases hh
    have := pureRun_sound hu w
    rw [← toVal_sound ha (hρ x)] at this
    exact Yield.same g (by simp only [execOp]; exact run_v (α := Unit) this) (by simp only [RV])
  · cases h

theorem elems_sound {e : TypeId} {x : V} {u : Value} {xs : List V} {n : Nat} (hr : RV P σ w x u) (h : elems P σ.st e x = some (xs, n)) (hs : ∀ b, x ≠ .sc (.string b)) :
    ∃ A c us, u = .slice A n c ∧ n ≤ c ∧ RCl σ.L w xs us ∧ (∀ a, A = some a → CA w a us) ∧ (A = none → xs = [] ∧ n = 0 ∧ c = 0) := by
  cases x with
  | tsl xs' len nil full =>
    simp only [elems] at h
    cases h
    simp only [RV, RC] at hr
    obtain ⟨A, c, us, rfl, h1, _, _, h4, h5, h6, h7⟩ := hr
    refine ⟨A, c, us, rfl, h1, h6, fun a ha => (h7 a ha).1, fun ha => ?_⟩
    cases nil with
    | true => obtain ⟨_, h8, h9⟩ := h4 (by simp); exact ⟨h9, by omega, h8⟩
    | false => exact absurd ha (h5 (by simp))
  | sl id off len full gg =>
    simp only [elems] at h
    split at h
    · rename_i e' ys n' lo fz s hst hsz
      split at h
      · rename_i hc
        obtain ⟨rfl, hlo, _⟩ := hc
        cases h
        simp only [RV, RSl] at hr
        obtain ⟨e2, ys2, n2, lo2, fz2, s2, k1, k2, k3, ⟨a5, c5, k5, k6, _⟩, k4⟩ := hr
        rw [hst] at k1; cases k1
        rw [hsz] at k2; cases k2
        obtain ⟨b, c, C, rfl, hh, _⟩ := k4 hlo
        have h7 : n ≤ c := by cases k5; exact k6
        obtain ⟨e3, xs3, n3, lo3, fz3, s3, us, fr, q1, q2, q3, q4, q5, q5', q6, q7, q8, q9, q10⟩ := hh
        rw [hst] at q1; cases q1
        rw [hsz] at q2; cases q2
        have hd := RCl.drop (k := off * s) q8
        have hm : (off + n) * s = off * s + n * s := Nat.add_mul ..
        have hgg : (off + n) * s ≤ gg * s := Nat.mul_le_mul_right _ k3.1
        have hd := RCl.take (k := n * s) hd
        rw [List.drop_take, List.drop_take, List.take_take, List.take_take, Nat.min_eq_left (by omega)] at hd
        refine ⟨_, c, _, rfl, h7, hd, fun a ha j u hj => ?_, fun ha => by cases ha⟩
        cases ha
        rw [add_at]
        simp only [World.cell?, q6]
        rw [List.getElem?_take] at hj
        split at hj
        · rw [List.getElem?_drop] at hj
          simpa using hj
        · cases hj
      · cases h
    · cases h
  | sc v =>
    cases v <;> simp only [elems] at h <;> try cases h
    exact absurd rfl (hs _)
  | _ => simp [elems] at h

theorem allByte_sound : ∀ {xs : List V} {us : List Value} {bs : List UInt8}, RCl L w xs us → allByte xs = some bs → ∃ ns : List Int, us = ns.map (Value.int .u8) ∧ bs = ns.map fun n => UInt8.ofNat n.toNat
  | [], us, bs, hr, h => by
    simp only [RCl] at hr
    simp [allByte] at h
    exact ⟨[], by simp [hr], by simp [← h]⟩
  | x :: xs, us, bs, hr, h => by
    simp only [RCl] at hr
    obtain ⟨u, us', rfl, _, h1, h2⟩ := hr
    unfold allByte at h
    split at h
    · rename_i heq; cases heq
    rotate_left
    · cases h
    rename_i n xs' heq
    cases heq
    obtain ⟨bs', hb, rfl⟩ := Option.map_eq_some_iff.1 h
    obtain ⟨ns, h3, h4⟩ := allByte_sound h2 hb
    simp only [RC] at h1
    exact ⟨n :: ns, by simp [h1, h3], by simp [h4]⟩

theorem push_bytes : ∀ (ns : List Int) (s : ByteArray), ns.foldl (fun r n => r.push (UInt8.ofNat n.toNat)) s = ⟨(s.data.toList ++ ns.map fun n => UInt8.ofNat n.toNat).toArray⟩
  | [], s => by simp
  | n :: ns, s => by
    rw [List.foldl_cons, push_bytes ns]
    simp [ByteArray.push]

theorem y_convert (g : Good P σ w) (hρ : ∀ x, RV P σ w (ρ x) (ρ' x)) {s d : TypeId} {x : Operand} (h : aval P ρ σ.st ⟨dst, .convert s d x, ty, pos, after, gd⟩ = some (v, st')) : YieldS P σ ρ' w ⟨dst, .convert s d x, ty, pos, after, gd⟩ v st' := by
  simp only [aval, aconvert] at h
  split at h
  · rename_i a ha
    simp only [Option.map_map] at h
    obtain ⟨u, hu, hh⟩ := Option.map_eq_some_iff.1 h
    cases hh
    have := pureRun_sound hu w
    rw [← toVal_sound ha (hρ x)] at this
    exact Yield.same g (by simp only [execOp]; exact run_v (α := Unit) this) (by simp only [RV])
  · rename_i hnv
    split at h
    · rename_i e hs hd
      split at h
      · rename_i he
        split at h
        · rename_i xs n hel
          obtain ⟨v0, hv0, hh⟩ := Option.map_eq_some_iff.1 h
          cases hh
          split at hv0
          rotate_left
          · cases hv0
          rename_i hxl
          obtain ⟨bs, hb, rfl⟩ := Option.map_eq_some_iff.1 hv0
          obtain ⟨A, c, us, hu, hnc, hr, hca, hnone⟩ := elems_sound (P := P) (hρ x) hel (fun b hb => by rw [hb] at hnv; simp [toVal] at hnv)
          obtain ⟨ns, rfl, rfl⟩ := allByte_sound hr hb
          refine Yield.same (u := .string ⟨(ns.map fun n => UInt8.ofNat n.toNat).toArray⟩) g ?_ (by simp only [RV])
          simp only [execOp]
          refine run_v (α := Unit) ?_
          rw [hu, show (convert s d (.slice A n c)).run P w = (Conv.bytesToString (.slice A n c)).run P w by simp [convert, run_underlying hs, run_underlying hd, run_underlying he]]
          cases A with
          | none =>
            obtain ⟨h1, h2, h3⟩ := hnone rfl
            subst h1
            have := RCl.length hr
            simp at this
            subst this
            rfl
          | some a =>
            have hl := run_loadCells_list (P := P) w a _ (hca a rfl)
            have hlen : (ns.map (Value.int .u8)).length = n := by rw [RCl.length hr, hxl]
            rw [hlen] at hl
            rw [run_bytesToString w a n c ns hl, push_bytes]
            rfl
        · cases h
      · cases h
    · cases h

theorem y_makeFunc (g : Good P σ w) (hρ : ∀ x, RV P σ w (ρ x) (ρ' x)) {f : Fn} {first caps : Array Operand} (h : aval P ρ σ.st ⟨dst, .makeFunc f first caps, ty, pos, after, gd⟩ = some (v, st')) : YieldS P σ ρ' w ⟨dst, .makeFunc f first caps, ty, pos, after, gd⟩ v st' := by
  simp only [aval] at h
  split at h
  · rename_i h0
    cases h
    refine Yield.same (u := .func f #[] (caps.map ρ')) g ?_ ?_
    · have : first = #[] := Array.eq_empty_of_size_eq_zero h0
      subst this
      simp [execOp, Instr.makeFunc]
    · simp only [RV]
      refine ⟨caps.toList.map ρ', by rw [← Array.toList_map, Array.toArray_toList], ?_⟩
      generalize caps.toList = l
      induction l with
      | nil => simp [RVl]
      | cons x l ih => simp only [List.map_cons, RVl]; exact ⟨_, _, rfl, hρ x, ih⟩
  · cases h

theorem fieldOf_sound {t : TypeId} {i off s : Nat} {ft : TypeId} (h : fieldOf P t i = some (off, s, ft)) : ∃ fs f, P.underlying t = some (.struct fs) ∧ fs[i]? = some f ∧ f.offset = off ∧ f.type = ft ∧ szOf P ft = some s := by
  unfold fieldOf at h
  split at h
  · rename_i fs hu
    split at h
    · rename_i f hf
      obtain ⟨s', hs, hh⟩ := Option.map_eq_some_iff.1 h
      cases hh
      exact ⟨fs, f, hu, hf, rfl, rfl, hs⟩
    · cases h
  · cases h

theorem fieldAt_run {t : TypeId} {i off s : Nat} {ft : TypeId} (h : fieldOf P t i = some (off, s, ft)) (h0 : s ≠ 0) (a : Addr) : (Instr.fieldAt t (.pointer (some a)) i).run P w = .ok (.pointer (some (a.add off))) w := by
  obtain ⟨fs, f, h1, h2, rfl, rfl, h3⟩ := fieldOf_sound h
  simp [Instr.fieldAt, run_underlying h1, h2, Instr.sureAddr, fieldPlace, Sem.run_bind, szOf_run h3, h0]

theorem CA.drop {a : Addr} {us : List Value} {k : Nat} (h : CA w a us) : CA w (a.add k) (us.drop k) := fun j u hj => by
  rw [List.getElem?_drop] at hj
  rw [add_add]
  exact h _ _ hj

theorem y_fieldAddr (g : Good P σ w) (hρ : ∀ x, RV P σ w (ρ x) (ρ' x)) {t : TypeId} {x : Operand} {i : Nat} (h : aval P ρ σ.st ⟨dst, .fieldAddr t x i, ty, pos, after, gd⟩ = some (v, st')) : YieldS P σ ρ' w ⟨dst, .fieldAddr t x i, ty, pos, after, gd⟩ v st' := by
  have hx := hρ x
  simp only [aval] at h
  split at h
  · rename_i off s ft hf
    split at h
    · cases h
    · rename_i h0
      split at h
      · rename_i id o hxx
        cases h
        rw [hxx] at hx
        simp only [RV] at hx
        refine Yield.same (u := .pointer (some ⟨σ.φ id, o + off, none⟩)) g ?_ (by unfold RV; exact ⟨rfl, hx.2⟩)
        simp only [execOp]
        refine run_v (α := Unit) ?_
        rw [hx.1, fieldAt_run hf h0, add_at]
      · rename_i id o e hxx
        cases h
        rw [hxx] at hx
        simp only [RV] at hx
        obtain ⟨ty2, xs, n, lo, fz, k1, k2, ⟨a, ha⟩, k3⟩ := hx
        refine Yield.same (u := .pointer (some (a.add off))) g ?_ ?_
        · simp only [execOp]
          refine run_v (α := Unit) ?_
          rw [ha, fieldAt_run hf h0]
        · simp only [RV]
          refine ⟨ty2, xs, n, lo, fz, k1, k2, ⟨_, rfl⟩, fun hlo => ?_⟩
          obtain ⟨b, C, s', h1, h2, h3⟩ := k3 hlo
          rw [ha] at h1
          cases h1
          exact ⟨b, C, s', by rw [add_at], h2, h3⟩
      · rename_i xs hxx
        cases h
        rw [hxx] at hx
        simp only [RV] at hx
        obtain ⟨a, us, h1, h2, h3, h4⟩ := hx
        refine Yield.same (u := .pointer (some (a.add off))) g ?_ ?_
        · simp only [execOp]
          refine run_v (α := Unit) ?_
          rw [h1, fieldAt_run hf h0]
        · simp only [RV]
          exact ⟨_, us.drop off, rfl, RCl.drop h2, CA.drop h3, fun hn => by rw [add_block]; exact h4 (by rintro rfl; simp at hn)⟩
      · cases h
  · cases h

theorem y_field (g : Good P σ w) (hρ : ∀ x, RV P σ w (ρ x) (ρ' x)) {t : TypeId} {x : Operand} {i : Nat} (h : aval P ρ σ.st ⟨dst, .field t x i, ty, pos, after, gd⟩ = some (v, st')) : YieldS P σ ρ' w ⟨dst, .field t x i, ty, pos, after, gd⟩ v st' := by
  have hx := hρ x
  simp only [aval] at h
  split at h
  · rename_i off s ft hf
    split at h
    · rename_i xs hxx
      rw [hxx] at hx
      simp only [RV] at hx
      obtain ⟨us, hu, hr⟩ := hx
      obtain ⟨v0, hv, hh⟩ := Option.map_eq_some_iff.1 h
      cases hh
      obtain ⟨u, h1, h2⟩ := part_sound off hr hv
      obtain ⟨fs, f, k1, k2, rfl, rfl, _⟩ := fieldOf_sound hf
      refine Yield.same g ?_ h2
      simp only [execOp]
      refine run_v (α := Unit) ?_
      rw [hu]
      simp [Instr.field, Sem.run_bind, run_underlying k1, k2, asAgg, h1]
    · cases h
  · cases h

theorem y_extract (g : Good P σ w) (hρ : ∀ x, RV P σ w (ρ x) (ρ' x)) {x : Operand} {i : Nat} (h : aval P ρ σ.st ⟨dst, .extract x i, ty, pos, after, gd⟩ = some (v, st')) : YieldS P σ ρ' w ⟨dst, .extract x i, ty, pos, after, gd⟩ v st' := by
  have hx := hρ x
  simp only [aval] at h
  split at h
  · rename_i xs hxx
    rw [hxx] at hx
    simp only [RV] at hx
    obtain ⟨us, hu, hr⟩ := hx
    obtain ⟨v0, hv, hh⟩ := Option.map_eq_some_iff.1 h
    cases hh
    obtain ⟨u, h1, h2⟩ := RVl.get hr hv
    refine Yield.same g ?_ h2
    simp only [execOp]
    refine run_v (α := Unit) ?_
    rw [hu]
    simp [Instr.extract, h1]
  · cases h

theorem y_index (g : Good P σ w) (hρ : ∀ x, RV P σ w (ρ x) (ρ' x)) {t : TypeId} {x y : Operand} (h : aval P ρ σ.st ⟨dst, .index t x y, ty, pos, after, gd⟩ = some (v, st')) : YieldS P σ ρ' w ⟨dst, .index t x y, ty, pos, after, gd⟩ v st' := by
  have hx := hρ x
  simp only [aval] at h
  split at h
  · rename_i j hj
    obtain ⟨k, hk⟩ := asI_sound hj (hρ y)
    split at h
    · rename_i n e xs hu hxx
      rw [hxx] at hx
      simp only [RV] at hx
      obtain ⟨us, hus, hr⟩ := hx
      split at h
      · rename_i s hs
        split at h
        · rename_i hc
          obtain ⟨v0, hv, hh⟩ := Option.map_eq_some_iff.1 h
          cases hh
          obtain ⟨u, h1, h2⟩ := part_sound (j.toNat * s) hr hv
          refine Yield.same g ?_ h2
          simp only [execOp]
          refine run_v (α := Unit) ?_
          rw [hus, hk]
          simp [Instr.index, asIntOf, Sem.run_bind, run_underlying hu, hc, szOf_run hs, h1]
        · cases h
      · cases h
    · rename_i b hu hxx
      rw [hxx] at hx
      simp only [RV] at hx
      split at h
      · rename_i h0
        obtain ⟨c, hc, hh⟩ := Option.map_eq_some_iff.1 h
        cases hh
        refine Yield.same (u := .int .u8 c.toNat) g ?_ (by simp only [RV])
        simp only [execOp]
        refine run_v (α := Unit) ?_
        rw [hx, hk]
        have hlt : j.toNat < b.size := by
          have := (List.getElem?_eq_some_iff.1 hc).1
          rw [Array.length_toList] at this
          exact this
        have hb : b[j.toNat]? = some c := by
          rw [← hc]
          rw [Array.getElem?_toList]
          rfl
        simp [Instr.index, asIntOf, Sem.run_bind, run_underlying hu, h0, hb]
      · cases h
    · cases h
  · cases h

theorem y_indexAddr (g : Good P σ w) (hρ : ∀ x, RV P σ w (ρ x) (ρ' x)) {t : TypeId} {x y : Operand} (h : aval P ρ σ.st ⟨dst, .indexAddr t x y, ty, pos, after, gd⟩ = some (v, st')) : YieldS P σ ρ' w ⟨dst, .indexAddr t x y, ty, pos, after, gd⟩ v st' := by
  have hx := hρ x
  simp only [aval] at h
  split at h
  · rename_i j hj
    obtain ⟨k, hk⟩ := asI_sound hj (hρ y)
    split at h
    · rename_i n e id o hu hxx
      rw [hxx] at hx
      simp only [RV] at hx
      split at h
      · rename_i s hs
        split at h
        · rename_i hc
          cases h
          refine Yield.same (u := .pointer (some ⟨σ.φ id, o + j.toNat * s, none⟩)) g ?_ (by unfold RV; exact ⟨rfl, hx.2⟩)
          simp only [execOp]
          refine run_v (α := Unit) ?_
          rw [hx.1, hk]
          simp [Instr.indexAt, asIntOf, Sem.run_bind, run_underlying hu, hc, szOf_run hs, Instr.sureAddr, add_at]
        · cases h
      · cases h
    · rename_i e id off len full gg hu hxx
      rw [hxx] at hx
      simp only [RV, RSl] at hx
      split at h
      · rename_i e' xs n lo fz s hst hs
        split at h
        · rename_i hc
          obtain ⟨rfl, h0, h1, hlo⟩ := hc
          cases h
          obtain ⟨e2, xs2, n2, lo2, fz2, s2, k1, k2, k3, _, k4⟩ := hx
          rw [hst] at k1; cases k1
          rw [hs] at k2; cases k2
          obtain ⟨b, c, C, hu2, hh, _⟩ := k4 hlo
          refine Yield.same (u := .pointer (some ⟨b, (off + j.toNat) * s, none⟩)) g ?_ ?_
          · simp only [execOp]
            refine run_v (α := Unit) ?_
            rw [hu2, hk]
            simp [Instr.indexAt, asIntOf, Sem.run_bind, run_underlying hu, h0, h1, szOf_run hs, add_at, Nat.add_mul]
          · unfold RV
            exact ⟨e', xs, n, lo, fz, hst, k3.2, ⟨_, rfl⟩, fun _ => ⟨b, _, s, rfl, hs, hh⟩⟩
        · cases h
      · cases h
    · rename_i e xs len nil full hu hxx
      rw [hxx] at hx
      simp only [RV, RC] at hx
      split at h
      · rename_i s hs
        split at h
        · rename_i hc
          obtain ⟨h0, h1⟩ := hc
          cases h
          obtain ⟨A, c, us, hA, h2, _, _, h4, h5, h6, h7⟩ := hx
          cases nil with
          | true => obtain ⟨_, h8, _⟩ := h4 (by simp); exfalso; omega
          | false =>
            cases A with
            | none => exact absurd rfl (h5 (by simp))
            | some a =>
              obtain ⟨h8, h9⟩ := h7 a rfl
              refine Yield.same (u := .pointer (some (a.add (j.toNat * s)))) g ?_ ?_
              · simp only [execOp]
                refine run_v (α := Unit) ?_
                rw [hA, hk]
                simp [Instr.indexAt, asIntOf, Sem.run_bind, run_underlying hu, h0, h1, szOf_run hs]
              · unfold RV
                exact ⟨_, us.drop (j.toNat * s), rfl, RCl.drop h6, CA.drop h8, fun hn => by rw [add_block]; exact h9 (by rintro rfl; simp at hn)⟩
        · cases h
      · cases h
    · cases h
  · cases h

theorem abound_sound {x : Option Operand} {dflt most i : Nat} (hρ : ∀ x, RV P σ w (ρ x) (ρ' x)) (h : abound (x.map ρ) dflt most = some i) : (x = none ∧ i = dflt) ∨ ∃ o k, x = some o ∧ ρ' o = .int k i ∧ i ≤ most := by
  cases x with
  | none => simp [abound] at h; exact .inl ⟨rfl, h.symm⟩
  | some o =>
    simp only [abound, Option.map_some] at h
    split at h
    · rename_i j hj
      split at h
      · rename_i hc
        cases h
        obtain ⟨k, hk⟩ := asI_sound hj (hρ o)
        exact .inr ⟨o, k, rfl, by rw [hk]; congr; omega, by omega⟩
      · cases h
    · cases h

theorem sliceBound_run {i : Nat} {k : IntKind} {y : Nat} {c : BoundsCode} (h : i ≤ y) : (Instr.sliceBound (.int k i) y c).run P w = .ok i w := by
  simp [Instr.sliceBound, asIntOf, Sem.run_bind, h]

theorem bounds_run (hρ : ∀ x, RV P σ w (ρ x) (ρ' x)) {lo hi mx : Option Operand} {n cap h l m : Nat} {b : Bool} (hn : n ≤ cap) (h1 : abound (hi.map ρ) n n = some h) (h2 : abound (lo.map ρ) 0 h = some l) (h3 : abound (mx.map ρ) h n = some m) (hm : m = h) (hmx : mx ≠ none → hi ≠ none) :
    (Instr.sliceBounds b n cap (lo.map ρ') (hi.map ρ') (mx.map ρ')).run P w = .ok (l, h, if mx.isSome then h else cap) w ∧ l ≤ h ∧ h ≤ n := by
  subst hm
  have hl : l ≤ m := by rcases abound_sound hρ h2 with ⟨_, e⟩ | ⟨_, _, _, _, e⟩ <;> omega
  have hh : m ≤ n := by rcases abound_sound hρ h1 with ⟨_, e⟩ | ⟨_, _, _, _, e⟩ <;> omega
  refine ⟨?_, hl, hh⟩
  rcases abound_sound hρ h3 with ⟨rfl, _⟩ | ⟨o3, k3, rfl, e3, e3'⟩
  · rcases abound_sound hρ h1 with ⟨rfl, rfl⟩ | ⟨o1, k1, rfl, e1, _⟩
    · rcases abound_sound hρ h2 with ⟨rfl, rfl⟩ | ⟨o2, k2, rfl, e2, _⟩
      · simp [Instr.sliceBounds]
      · simp [Instr.sliceBounds, e2, Sem.run_bind, sliceBound_run hl]
    · have hmc : m ≤ cap := by omega
      rcases abound_sound hρ h2 with ⟨rfl, rfl⟩ | ⟨o2, k2, rfl, e2, _⟩
      · simp [Instr.sliceBounds, e1, Sem.run_bind, sliceBound_run hmc]
      · simp [Instr.sliceBounds, e1, e2, Sem.run_bind, sliceBound_run hmc, sliceBound_run hl]
  · have hmc : m ≤ cap := by omega
    rcases abound_sound hρ h1 with ⟨rfl, rfl⟩ | ⟨o1, k1, rfl, e1, _⟩
    · exact absurd rfl (hmx (by simp))
    · rcases abound_sound hρ h2 with ⟨rfl, rfl⟩ | ⟨o2, k2, rfl, e2, _⟩
      · simp [Instr.sliceBounds, e1, e3, Sem.run_bind, sliceBound_run hmc, sliceBound_run (Nat.le_refl m)]
      · simp [Instr.sliceBounds, e1, e2, e3, Sem.run_bind, sliceBound_run hmc, sliceBound_run (Nat.le_refl m), sliceBound_run hl]
end
end Go.M
namespace Go.M
open Go Go.RowKit
section
variable {P : Program} {σ σ' : Sg} {w w' w1 : World} {L L' : Nat → Lb}
variable {ρ : Operand → V} {ρ' : Operand → Value} {st' : List Ob} {v : V} {dst : Option Tmp} {ty : TypeId} {pos : String} {after : Array Edge} {gd : Option (Nat × Bool)}

theorem y_slice (g : Good P σ w) (hρ : ∀ x, RV P σ w (ρ x) (ρ' x)) {t : TypeId} {x : Operand} {lo hi mx : Option Operand} (h : aval P ρ σ.st ⟨dst, .slice t x lo hi mx, ty, pos, after, gd⟩ = some (v, st')) : YieldS P σ ρ' w ⟨dst, .slice t x lo hi mx, ty, pos, after, gd⟩ v st' := by
  have hx := hρ x
  simp only [aval] at h
  split at h
  · cases h
  rename_i hmx0
  have hmx : mx ≠ none → hi ≠ none := by
    intro h1 h2
    apply hmx0
    cases mx with
    | none => exact absurd rfl h1
    | some _ => exact ⟨rfl, by rw [h2]; rfl⟩
  obtain ⟨v0, hv, hh⟩ := Option.map_eq_some_iff.1 h
  cases hh
  unfold aslice at hv
  split at hv
  · -- a string
    rename_i b hxx
    rw [hxx] at hx
    simp only [RV] at hx
    split at hv
    · rename_i hu hm
      split at hv
      · rename_i hq h1
        split at hv
        · rename_i l h2
          cases hv
          have hmn : mx = none := by cases mx <;> simp at hm ⊢
          subst hmn
          obtain ⟨hb, _, _⟩ := bounds_run (P := P) (mx := none) (m := hq) (b := false) (cap := b.size) hρ (Nat.le_refl _) h1 h2 rfl rfl (by simp)
          refine Yield.same (u := .string (b.extract l hq)) g ?_ (by simp only [RV])
          simp only [execOp]
          refine run_v (α := Unit) ?_
          rw [hx]
          simp only [Option.map_none] at hb
          simp [Instr.sliceAt, Sem.run_bind, run_underlying hu, Instr.slice, hb]
        · cases hv
      · cases hv
    · cases hv
  · -- what is only read
    rename_i xs n nil full hxx
    rw [hxx] at hx
    simp only [RV, RC] at hx
    obtain ⟨A, c, us, hA, h2, h3, h4, h5, h6, h7, h8⟩ := hx
    split at hv
    · rename_i e hu
      split at hv
      · rename_i s hs
        split at hv
        · rename_i hq h1
          split at hv
          · rename_i l m hl hm
            split at hv
            · rename_i hmh
              cases hv
              obtain ⟨hb, hb1, hb2⟩ := bounds_run (P := P) (w := w) (b := true) (cap := c) hρ h2 h1 hl hm hmh hmx
              have hrun : (Instr.sliceAt t (ρ' x) (lo.map ρ') (hi.map ρ') (mx.map ρ')).run P w = .ok (.slice (if (if mx.isSome then hq else c) = l then A else A.map (·.add (l * s))) (hq - l) ((if mx.isSome then hq else c) - l)) w := by
                rw [hA]
                simp [Instr.sliceAt, Sem.run_bind, run_underlying hu, Instr.slice, hb, szOf_run hs]
              refine Yield.same g (by simp only [execOp]; exact run_v (α := Unit) hrun) ?_
              have hml : (mx.map ρ).isSome = mx.isSome := by cases mx <;> rfl
              rw [hml]
              have hcm : (if mx.isSome then hq else c) ≤ maxLen := by split <;> omega
              have hqc : hq ≤ (if mx.isSome then hq else c) := by split <;> omega
              have hful : (mx.isSome || (full && hq == n)) = true → (if mx.isSome then hq else c) = hq := by
                intro hf
                cases hs2 : mx.isSome with
                | true => simp
                | false =>
                  rw [hs2] at hf
                  simp only [Bool.false_or, Bool.and_eq_true, beq_iff_eq] at hf
                  simp only [Bool.false_eq_true, if_false]
                  have := h4 hf.1
                  omega
              by_cases hl0 : hq = l
              · rw [if_pos hl0]
                subst hl0
                simp only [RV, RC]
                refine ⟨_, _, [], by rw [Nat.sub_self], by omega, by omega, fun hf => ?_, fun hn => ?_, fun hn => ?_, by simp [RCl], fun a _ => ⟨fun j u hj => by simp at hj, fun h => absurd rfl h⟩⟩
                · simp only [Bool.or_eq_true] at hf
                  rcases hf with (hf | hf) | hf
                  · obtain ⟨k1, k2, k3⟩ := h5 hf
                    split <;> omega
                  · have := hful (by simp [hf])
                    omega
                  · have := hful (by simp only [Bool.or_eq_true]; exact .inr hf)
                    omega
                · obtain ⟨k1, k2, k3⟩ := h5 hn
                  subst k1
                  refine ⟨by simp, ?_, by simp⟩
                  split <;> omega
                · have := h6 hn
                  cases A with
                  | none => exact absurd rfl this
                  | some a =>
                    by_cases hc : (if mx.isSome = true then hq else c) = hq
                    · rw [if_pos hc]; exact Option.some_ne_none _
                    · rw [if_neg hc]; exact Option.some_ne_none _
              · rw [if_neg hl0]
                simp only [RV, RC]
                have hne : (if mx.isSome then hq else c) ≠ l := by omega
                rw [if_neg hne]
                refine ⟨_, _, (us.drop (l * s)).take ((hq - l) * s), rfl, by omega, by omega, fun hf => by have := hful hf; omega, fun hn => ?_, fun hn => ?_, RCl.take (RCl.drop h7), fun a ha => ?_⟩
                · obtain ⟨k1, k2, k3⟩ := h5 hn
                  exfalso
                  omega
                · have := h6 hn
                  cases A with
                  | none => exact absurd rfl this
                  | some a => simp
                · cases A with
                  | none => cases ha
                  | some a0 =>
                    simp only [Option.map_some, Option.some.injEq] at ha
                    subst ha
                    obtain ⟨k1, k2⟩ := h8 a0 rfl
                    refine ⟨fun j u hj => ?_, fun hn => ?_⟩
                    · rw [List.getElem?_take] at hj
                      split at hj
                      · exact CA.drop k1 j u hj
                      · cases hj
                    · rw [add_block]
                      exact k2 (by rintro rfl; simp at hn)
            · cases hv
          · cases hv
        · cases hv
      · cases hv
    · cases hv
  · -- an own row
    rename_i id off n full gg hxx
    rw [hxx] at hx
    simp only [RV, RSl] at hx
    obtain ⟨e2, xs2, n2, lo2, fz2, s2, k1, k2, k3, ⟨a5, c5, k5, k6, k7, k8⟩, k4⟩ := hx
    split at hv
    · rename_i e hu
      split at hv
      · rename_i e' xs3 n3 lo3 fz3 s hst hs
        rw [hst] at k1; cases k1
        split at hv
        · rename_i he
          subst he
          rw [hs] at k2
          have hs2 := Option.some.inj k2
          subst hs2
          split at hv
          · rename_i hq h1
            split at hv
            · rename_i l m hl hm
              split at hv
              · rename_i hmh
                obtain ⟨hb, hb1, hb2⟩ := bounds_run (P := P) (w := w) (b := true) (cap := c5) hρ k6 h1 hl hm hmh hmx
                have hrun : (Instr.sliceAt t (ρ' x) (lo.map ρ') (hi.map ρ') (mx.map ρ')).run P w = .ok (.slice (if (if mx.isSome then hq else c5) = l then some a5 else some (a5.add (l * s))) (hq - l) ((if mx.isSome then hq else c5) - l)) w := by
                  rw [k5]
                  simp [Instr.sliceAt, Sem.run_bind, run_underlying hu, Instr.slice, hb, szOf_run hs]
                have hml : (mx.map ρ).isSome = mx.isSome := by cases mx <;> rfl
                rw [hml] at hv
                have hcm : (if mx.isSome then hq else c5) ≤ c5 := by split <;> omega
                have hqc : hq ≤ (if mx.isSome then hq else c5) := by split <;> omega
                have hful : (mx.isSome || (full && hq == n)) = true → (if mx.isSome then hq else c5) = hq := by
                  intro hf
                  cases hs2 : mx.isSome with
                  | true => simp
                  | false =>
                    rw [hs2] at hf
                    simp only [Bool.false_or, Bool.and_eq_true, beq_iff_eq] at hf
                    simp only [Bool.false_eq_true, if_false]
                    have := k8 hf.1
                    omega
                by_cases hl0 : hq = l
                · rw [if_pos hl0] at hv
                  subst hl0
                  cases hv
                  refine Yield.same g (by simp only [execOp]; exact run_v (α := Unit) hrun) ?_
                  simp only [RV, RC]
                  refine ⟨_, _, [], by rw [Nat.sub_self], by omega, by omega, fun hf => by have := hful hf; omega, fun hn => by simp at hn, fun hn => (by
                    by_cases hc : (if mx.isSome = true then hq else c5) = hq
                    · rw [if_pos hc]; exact Option.some_ne_none _
                    · rw [if_neg hc]; exact Option.some_ne_none _), by simp [RCl], fun a _ => ⟨fun j u hj => by simp at hj, fun h => absurd rfl h⟩⟩
                · rw [if_neg hl0] at hv
                  split at hv
                  · cases hv
                  · rename_i hff
                    cases hv
                    have hne : (if mx.isSome then hq else c5) ≠ l := by omega
                    rw [if_neg hne] at hrun
                    refine Yield.same g (by simp only [execOp]; exact run_v (α := Unit) hrun) ?_
                    simp only [RV, RSl]
                    refine ⟨_, _, _, _, _, s, hst, hs, by omega, ⟨_, _, rfl, by omega, by omega, fun hf => by have := hful hf; omega⟩, fun hlo => ?_⟩
                    obtain ⟨b, c, C, q1, q2, q3, q4⟩ := k4 (by omega)
                    rw [k5] at q1
                    cases q1
                    refine ⟨b, (if mx.isSome then hq else c5) - l, C, by rw [add_at, Nat.add_mul], q2, by omega, fun hf => ?_⟩
                    · simp only [Bool.or_eq_false_iff] at hf
                      rw [hf.1]
                      simp only [Bool.false_eq_true, if_false]
                      have hf2 : full = false := by
                        cases full with
                        | false => rfl
                        | true =>
                          simp only [Bool.true_and, beq_eq_false_iff_ne] at hf
                          exact absurd ⟨rfl, hf.1, hf.2⟩ hff
                      have := q4 hf2
                      omega
              · cases hv
            · cases hv
          · cases hv
        · cases hv
      · cases hv
    · cases hv
  · cases hv
end
end Go.M
namespace Go.M
open Go Go.RowKit
section
variable {P : Program} {σ σ' : Sg} {w w' w1 : World} {L L' : Nat → Lb}

theorem append_grow {t t' ty e : TypeId} {d : TypeDesc} {i : TypeInfo} {z : Value} (ht : P.underlying t = some (.slice e)) (ht' : P.underlying t' = some d) (hd : (∃ e', d = .slice e') ∨ d = .string) (hi : P.info? e = some i) (hz : i.zero = some z)
    {A : Option Addr} {n c m : Nat} {x : Value} {olds vs : List Value} (hL : ∀ W : World, (Builtin.lenOf x).run P W = .ok m W) (hF : (Builtin.firstCells i.size m x).run P w.drew = .ok vs.toArray w.drew)
    (hO : (Builtin.firstCells i.size n (.slice A n c)).run P w.drew = .ok olds.toArray w.drew) (hg : c < n + m) (h63 : n + m ≤ 9223372036854775807) (hb : (n + m) * i.bytes ≤ 140737488355328) :
    (Builtin.append_ #[t, t'] ty #[.slice A n c, x]).run P w =
      .ok (.slice (some ⟨w.heap.size, 0, none⟩) (n + m) (grownCap w (n + m) c e)) (w.drew.alloc (.cells (olds ++ vs ++ (Builtin.zeroCells z.cells (grownCap w (n + m) c e - (n + m))).toList).toArray e)) := by
  have hn : ¬ (n + m ≤ c) := by omega
  have h63' : ¬ (9223372036854775807 < ((n : Int) + (m : Int))) := by omega
  have h48' : ¬ (281474976710656 < Builtin.nextslicecap (n + m) c * i.bytes) := by have := growslice_fits hg hb; omega
  rcases hd with ⟨e', rfl⟩ | rfl
  · simp [Builtin.append_, run_underlying ht, run_underlying ht', sizeOf, typeInfo, zeroValue, hi, hz, hL, hn, h63', h48', Question.forced, hF, hO, newRow, grownCap]
    congr 2
    apply Array.ext'
    simp [List.append_assoc]
  · simp [Builtin.append_, run_underlying ht, run_underlying ht', sizeOf, typeInfo, zeroValue, hi, hz, hL, hn, h63', h48', Question.forced, hF, hO, newRow, grownCap]
    congr 2
    apply Array.ext'
    simp [List.append_assoc]

theorem append_room {t t' ty e : TypeId} {d : TypeDesc} {i : TypeInfo} (ht : P.underlying t = some (.slice e)) (ht' : P.underlying t' = some d) (hd : (∃ e', d = .slice e') ∨ d = .string) (hi : P.info? e = some i)
    {g n c m : Nat} {x : Value} {vs : List Value} {us : Array Value} (hL : ∀ W : World, (Builtin.lenOf x).run P W = .ok m W) (hF : (Builtin.firstCells i.size m x).run P w = .ok vs.toArray w)
    (hg : w.heap[g]? = some (.cells us e (0, 0))) (hroom : n + m ≤ c) (hfit : n * i.size + vs.length ≤ us.size) (h1 : ∀ u ∈ vs, u.oneCell' = true) :
    (Builtin.append_ #[t, t'] ty #[.slice (some ⟨g, 0, none⟩) n c, x]).run P w =
      .ok (.slice (some ⟨g, 0, none⟩) (n + m) c) (w.setRow g (us.toList.take (n * i.size) ++ vs ++ us.toList.drop (n * i.size + vs.length)).toArray) := by
  have hst := run_storeCells_at P g (n * i.size) e vs 0 us w hg (by simpa using hfit) h1
  simp only [Nat.add_zero] at hst
  rcases hd with ⟨e', rfl⟩ | rfl
  · simp [Builtin.append_, run_underlying ht, run_underlying ht', sizeOf, typeInfo, hi, hL, hroom, hF, Addr.add_lit, hst]
  · simp [Builtin.append_, run_underlying ht, run_underlying ht', sizeOf, typeInfo, hi, hL, hroom, hF, Addr.add_lit, hst]

theorem append_none {t t' ty e : TypeId} {d : TypeDesc} {i : TypeInfo} (ht : P.underlying t = some (.slice e)) (ht' : P.underlying t' = some d) (hd : (∃ e', d = .slice e') ∨ d = .string) (hi : P.info? e = some i)
    {A : Option Addr} {n c : Nat} {x : Value} (hL : ∀ W : World, (Builtin.lenOf x).run P W = .ok 0 W) (hF : (Builtin.firstCells i.size 0 x).run P w = .ok #[] w) (hc : n ≤ c) :
    (Builtin.append_ #[t, t'] ty #[.slice A n c, x]).run P w = .ok (.slice A n c) w := by
  rcases hd with ⟨e', rfl⟩ | rfl
  · cases A <;> simp [Builtin.append_, run_underlying ht, run_underlying ht', sizeOf, typeInfo, hi, hL, hc, hF, storeCells]
  · cases A <;> simp [Builtin.append_, run_underlying ht, run_underlying ht', sizeOf, typeInfo, hi, hL, hc, hF, storeCells]

theorem source_sound {e : TypeId} {x : V} {u : Value} {xs : List V} {n s : Nat} (hr : RV P σ w x u) (h : elems P σ.st e x = some (xs, n)) (hl : xs.length = n * s) :
    ∃ us, RCl σ.L w xs us ∧ (∀ W : World, (Builtin.lenOf u).run P W = .ok n W) ∧ (Builtin.firstCells s n u).run P w = .ok us.toArray w ∧ (Builtin.firstCells s n u).run P w.drew = .ok us.toArray w.drew := by
  by_cases hb : ∃ b, x = .sc (.string b)
  · obtain ⟨b, rfl⟩ := hb
    simp only [elems] at h
    cases h
    simp only [RV] at hr
    subst hr
    have hx : b.extract 0 b.size = b := by
      apply ByteArray.ext
      rw [ByteArray.data_extract]
      exact Array.extract_size
    refine ⟨b.data.toList.map (fun c => Value.int .u8 c.toNat), ?_, fun W => by simp [Builtin.lenOf], ?_, ?_⟩
    · generalize b.data.toList = l
      induction l with
      | nil => simp [RCl]
      | cons c l ih => simp only [List.map_cons, RCl]; exact ⟨_, _, rfl, rfl, rfl, ih⟩
    · simp [Builtin.firstCells, hx]
      rw [← Array.toList_map, Array.toArray_toList]
    · simp [Builtin.firstCells, hx]
      rw [← Array.toList_map, Array.toArray_toList]
  · obtain ⟨A, c, us, rfl, h1, h2, h3, h4⟩ := elems_sound hr h (fun b hb' => hb ⟨b, hb'⟩)
    have hlen := RCl.length h2
    refine ⟨us, h2, fun W => by simp [Builtin.lenOf], ?_, ?_⟩
    · cases A with
      | none =>
        obtain ⟨rfl, _, _⟩ := h4 rfl
        simp at hlen
        subst hlen
        exact run_firstCells_none w s n n c
      | some a => exact run_firstCells_some w s n a n c us (by omega) (h3 a rfl)
    · cases A with
      | none =>
        obtain ⟨rfl, _, _⟩ := h4 rfl
        simp at hlen
        subst hlen
        exact run_firstCells_none w.drew s n n c
      | some a => exact run_firstCells_some w.drew s n a n c us (by omega) (fun j u hj => h3 a rfl j u hj)
end
end Go.M
