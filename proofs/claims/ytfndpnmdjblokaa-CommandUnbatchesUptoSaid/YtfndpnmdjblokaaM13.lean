/- The machine is sound: calls; a law's call from its arguments on. -/
import Derived.Test.YtfndpnmdjblokaaMD
set_option linter.unusedVariables false
set_option linter.unusedSimpArgs false
namespace Go.M
open Go Go.RowKit
section
variable {P : Program} {σ σ' : Sg} {w w' w1 : World}

theorem run_map {α β : Type} (f : α → β) (s : Sem α) : (f <$> s).run P w = (s.run P w).andThen fun a w' => .ok (f a) w' := by
  rw [show f <$> s = (do pure (f (← s))) from by simp, Sem.run_bind]
  simp

def resF (tmps : Array Value) : ResultVar → Sem Value
  | .tmp t => pure (tmps.getD t undef)
  | .cell x t => do loadVar t (← asAddr (tmps.getD x undef))
theorem results_eq (fn : Func) (tmps : Array Value) : results fn tmps = (do
    let vs ← fn.results.mapM (resF tmps)
    pure (if h : vs.size = 1 then vs[0] else .tuple vs)) := by
  unfold results
  congr 1

theorem res1_sound (g : Good P σ w) {t : List V} {a : Act} (hr : RT P σ w t a) {r : ResultVar} {v : V} (h : ares1 P t σ.st r = some v) :
    ∃ u, (resF a.tmps r).run P w = .ok u w ∧ RV P σ w v u := by
  cases r with
  | tmp i =>
    simp only [ares1] at h
    cases h
    exact ⟨_, by simp [resF], hr.get i⟩
  | cell x ty =>
    simp only [ares1] at h
    have hx := hr.get x
    split at h
    · rename_i id off hxx
      rw [hxx] at hx
      simp only [RV] at hx
      split at h
      · rename_i xs hst
        have hro := g.1 id _ hst
        simp only [RO] at hro
        obtain ⟨us, e, r1, r2, r3, r4⟩ := hro
        obtain ⟨u, k1, k2⟩ := aload_sound (P := P) (RVl.drop (k := off) r2) ⟨σ.φ id, off, none⟩ (fun j u hj => by
          rw [add_at]
          simp only [World.cell?, r1]
          rw [List.getElem?_drop] at hj
          simpa using hj) h
        exact ⟨u, by show (do loadVar ty (← asAddr (a.tmps.getD x undef)) : Sem Value).run P w = _; rw [hx.1]; simp [asAddr, Sem.run_bind, k1], k2⟩
      · cases h
    · cases h

theorem resL_sound (g : Good P σ w) {t : List V} {a : Act} (hr : RT P σ w t a) : ∀ {rs : List ResultVar} {vs : List V}, rs.mapM (ares1 P t σ.st) = some vs →
    ∃ us : List Value, (rs.mapM (resF a.tmps)).run P w = .ok us w ∧ RVl P σ w vs us
  | [], vs, h => by simp at h; subst h; exact ⟨[], by simp, by simp [RVl]⟩
  | r :: rs, vs, h => by
    simp only [List.mapM_cons, Option.bind_eq_bind, Option.bind_eq_some_iff, Option.pure_def, Option.some.injEq] at h
    obtain ⟨v, hv, vs', hvs, rfl⟩ := h
    obtain ⟨u, k1, k2⟩ := res1_sound g hr hv
    obtain ⟨us, q1, q2⟩ := resL_sound g hr hvs
    refine ⟨u :: us, ?_, by simp only [RVl]; exact ⟨u, us, rfl, k2, q2⟩⟩
    rw [List.mapM_cons, Sem.run_bind]
    rw [k1, Result.andThen_ok, Sem.run_bind, q1, Result.andThen_ok, Sem.run_pure]

theorem res_sound (g : Good P σ w) {t : List V} {a : Act} (hr : RT P σ w t a) {fn : Func} {v : V} (h : ares P fn t σ.st = some v) : ∃ u, (results fn a.tmps).run P w = .ok u w ∧ RV P σ w v u := by
  have key : ∀ vs, fn.results.toList.mapM (ares1 P t σ.st) = some vs → ∃ us : List Value, (fn.results.mapM (resF a.tmps)).run P w = .ok us.toArray w ∧ RVl P σ w vs us := by
    intro vs hvs
    obtain ⟨us, q1, q2⟩ := resL_sound g hr hvs
    refine ⟨us, ?_, q2⟩
    rw [← Array.toArray_toList (xs := fn.results), List.mapM_toArray, run_map, q1]
    rfl
  unfold ares at h
  rw [results_eq]
  split at h
  · rename_i r hrs
    obtain ⟨us, q1, q2⟩ := key [v] (by rw [hrs]; simp [h])
    simp only [RVl] at q2
    obtain ⟨u, _, rfl, q3, rfl⟩ := q2
    exact ⟨u, by rw [Sem.run_bind, q1, Result.andThen_ok]; simp, q3⟩
  · rename_i hne
    obtain ⟨vs, hvs, rfl⟩ := Option.map_eq_some_iff.1 h
    obtain ⟨us, q1, q2⟩ := key vs hvs
    have hl : vs.length = fn.results.toList.length := by
      have key2 : ∀ (rs : List ResultVar) (vs : List V), rs.mapM (ares1 P t σ.st) = some vs → vs.length = rs.length := by
        intro rs
        induction rs with
        | nil => intro vs h; simp at h; subst h; rfl
        | cons r rs ih =>
          intro vs h
          simp only [List.mapM_cons, Option.bind_eq_bind, Option.bind_eq_some_iff, Option.pure_def, Option.some.injEq] at h
          obtain ⟨v, hv, vs', hvs, rfl⟩ := h
          simp [ih vs' hvs]
      exact key2 _ _ hvs
    have hul := RVl.length q2
    refine ⟨.tuple us.toArray, ?_, by simp only [RV]; exact ⟨us, rfl, q2⟩⟩
    rw [Sem.run_bind, q1, Result.andThen_ok, Sem.run_pure]
    rw [dif_neg]
    simp only [List.size_toArray]
    intro h1
    have : fn.results.toList.length = 1 := by omega
    obtain ⟨r, hr1⟩ := List.length_eq_one_iff.1 this
    exact hne r hr1

/-- Calls are told. -/
theorem acallF_sound (hm : P.follows .mixedOrders = true) (hN : ∀ (f : FuncId) (fn : Func), P.funcs[f]? = some fn → (fn.name == "runtime.NumGoroutine") = false) {pl : Plans} (hD : plansOK P pl = true) (m : Nat) : ∀ n, CS P (acallF P pl n m)
  | 0 => fun f args st K h => h.elim
  | n + 1 => by
    intro f args st K h σ w us hst g hr
    subst hst
    simp only [acallF] at h
    split at h
    · rename_i fn hfn
      split at h
      · rename_i c hc
        refine calls_of_wp hfn hc ?_
        refine acode_sound (acallF_sound hm hN hD m n) ?_ hm (acallF_CF n) (pl f) m c _ _ σ w _ _ ?_ h g ?_ ?_
        · intro f args st K h
          cases n with
          | zero => exact h.elim
          | succ n =>
            simp only [acallF] at h
            split at h
            · rename_i fn hfn
              split at h
              · rename_i c hc
                exact ⟨fn, hfn, by rw [hc]; rfl, hN f fn hfn⟩
              · exact h.elim
            · exact h.elim
        · unfold plansOK at hD
          have := (List.all_eq_true.1 hD) f (List.mem_range.2 (Array.getElem?_eq_some_iff.1 hfn).1)
          simpa [hfn, hc] using this
        · refine ⟨?_, rfl⟩
          have hl := RVl.length hr
          simp only [Array.toList_append, Array.toList_replicate, List.size_toArray, hl]
          refine RVl.app hr ?_
          generalize fn.ntmps - args.length = k
          induction k with
          | zero => simp [RVl]
          | succ k ih => simp only [List.replicate_succ, RVl]; exact ⟨_, _, rfl, by simp only [RV], ih⟩
        · intro e t' st' σ' w' a' hk hst' g' hs hr'
          subst hst'
          obtain ⟨he, hk⟩ := hk
          split at hk
          · rename_i v hv
            obtain ⟨u, h1, h2⟩ := res_sound g' hr' hv
            rcases he with rfl | rfl
            · exact ⟨hr'.2, u, h1, v, u, _, σ', rfl, hk, rfl, g', hs, h2⟩
            · exact ⟨hr'.2, u, h1, v, u, _, σ', rfl, hk, rfl, g', hs, h2⟩
          · exact hk.elim
      · exact h.elim
    · exact h.elim

/-- The beginning: all that lies there is only read. -/
def Sg.start (w : World) : Sg := { st := [], φ := fun _ => 0, L := fun b => if b < w.heap.size then .pers else .frn }

theorem Good.start (w : World) : Good P (Sg.start w) w := by
  refine ⟨fun id o h => by simp [Sg.start] at h, fun b id h => ?_, fun b h => ?_⟩
  · simp only [Sg.start] at h
    split at h <;> cases h
  · simp only [Sg.start]
    rw [if_neg (by omega)]

/-- A law's call. -/
theorem law_calls (hm : P.follows .mixedOrders = true) (hN : ∀ (f : FuncId) (fn : Func), P.funcs[f]? = some fn → (fn.name == "runtime.NumGoroutine") = false) {pl : Plans} (hD : plansOK P pl = true) {n m : Nat} {f : FuncId} {args : List V} {us : List Value} (hr : RVl P (Sg.start w) w args us)
    (h : acallF P pl n m f args [] fun v _ => v = .sc (.bool true)) : Calls P f us.toArray w fun e w' => e = .returned (.bool true) ∧ Below w.heap.size w w' := by
  refine (acallF_sound hm hN hD m n f args [] _ h (Sg.start w) w us rfl (Good.start w) hr).mono fun e w' hh => ?_
  obtain ⟨v, u, st', σ', rfl, rfl, _, _, hs, hv⟩ := hh
  simp only [RV] at hv
  subst hv
  exact ⟨rfl, hs.os, hs.tape, hs.output, hs.size, fun k hk => (hs.pers k (by simp only [Sg.start]; rw [if_pos hk])).2⟩
end
end Go.M
