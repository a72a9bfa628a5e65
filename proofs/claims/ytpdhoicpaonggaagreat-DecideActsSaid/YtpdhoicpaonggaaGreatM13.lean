/- The machine is sound: calls; a law's call from its arguments on. -/
import Derived.Test.YtpdhoicpaonggaaGreatMD
set_option linter.unusedVariables false
set_option linter.unusedSimpArgs false
namespace Go.M
open Go Go.RowKit
section
variable {P : Program} {σ σ' : Sg} {w w' w1 : World} {B : Nat}

theorem run_map {α β : Type} (f : α → β) (s : Sem α) : (f <$> s).run P w = (s.run P w).andThen fun a w' => .ok (f a) w' := by
  rw [show f <$> s = (do pure (f (← s))) from by simp, Sem.run_bind]
  simp

def resF (tmps : Array Value) : ResultVar → Sem Value
  | .tmp t => pure (tmps.getD t undef)
  | .cell x t => do loadVar t (← asAddr (tmps.getD x undef))
theorem results_eq (fn : Func) (tmps : Array Value) : results fn tmps = (do
    let vs ← fn.results.mapM (resF tmps)
    pure (if h : vs.size = 1 then vs[0] else .tuple vs)) := by
  unfold results
  congr 1

theorem res1_sound (g : Good P σ w) {t : List V} {a : Act} (hr : RT P B σ w t a) {r : ResultVar} {v : V} (h : ares1 P t σ.st r = some v) :
    ∃ u, (resF a.tmps r).run P w = .ok u w ∧ RV P σ w v u := by
  cases r with
  | tmp i =>
    simp only [ares1] at h
    cases h
    exact ⟨_, by simp [resF], hr.get i⟩
  | cell x ty =>
    simp only [ares1] at h
    have hx := hr.get x
    split at h
    · rename_i id off hxx
      rw [hxx] at hx
      simp only [RV] at hx
      split at h
      · rename_i xs hst
        have hro := g.1 id _ hst
        simp only [RO] at hro
        obtain ⟨us, e, r1, r2, r3, r4⟩ := hro
        obtain ⟨u, k1, k2⟩ := aload_sound (P := P) (RVl.drop (k := off) r2) ⟨σ.φ id, off, none⟩ (fun j u hj => by
          rw [add_at]
          simp only [World.cell?, r1]
          rw [List.getElem?_drop] at hj
          simpa using hj) h
        exact ⟨u, by show (do loadVar ty (← asAddr (a.tmps.getD x undef)) : Sem Value).run P w = _; rw [hx.1]; simp [asAddr, Sem.run_bind, k1], k2⟩
      · cases h
    · cases h

theorem resL_sound (g : Good P σ w) {t : List V} {a : Act} (hr : RT P B σ w t a) : ∀ {rs : List ResultVar} {vs : List V}, rs.mapM (ares1 P t σ.st) = some vs →
    ∃ us : List Value, (rs.mapM (resF a.tmps)).run P w = .ok us w ∧ RVl P σ w vs us
  | [], vs, h => by simp at h; subst h; exact ⟨[], by simp, by simp [RVl]⟩
  | r :: rs, vs, h => by
    simp only [List.mapM_cons, Option.bind_eq_bind, Option.bind_eq_some_iff, Option.pure_def, Option.some.injEq] at h
    obtain ⟨v, hv, vs', hvs, rfl⟩ := h
    obtain ⟨u, k1, k2⟩ := res1_sound g hr hv
    obtain ⟨us, q1, q2⟩ := resL_sound g hr hvs
    refine ⟨u :: us, ?_, by simp only [RVl]; exact ⟨u, us, rfl, k2, q2⟩⟩
    rw [List.mapM_cons, Sem.run_bind]
    rw [k1, Result.andThen_ok, Sem.run_bind, q1, Result.andThen_ok, Sem.run_pure]

theorem res_sound (g : Good P σ w) {t : List V} {a : Act} (hr : RT P B σ w t a) {fn : Func} {v : V} (h : ares P fn t σ.st = some v) : ∃ u, (results fn a.tmps).run P w = .ok u w ∧ RV P σ w v u := by
  have key : ∀ vs, fn.results.toList.mapM (ares1 P t σ.st) = some vs → ∃ us : List Value, (fn.results.mapM (resF a.tmps)).run P w = .ok us.toArray w ∧ RVl P σ w vs us := by
    intro vs hvs
    obtain ⟨us, q1, q2⟩ := resL_sound g hr hvs
    refine ⟨us, ?_, q2⟩
    rw [← Array.toArray_toList (xs := fn.results), List.mapM_toArray, run_map, q1]
    rfl
  unfold ares at h
  rw [results_eq]
  split at h
  · rename_i r hrs
    obtain ⟨us, q1, q2⟩ := key [v] (by rw [hrs]; simp [h])
    simp only [RVl] at q2
    obtain ⟨u, _, rfl, q3, rfl⟩ := q2
    exact ⟨u, by rw [Sem.run_bind, q1, Result.andThen_ok]; simp, q3⟩
  · rename_i hne
    obtain ⟨vs, hvs, rfl⟩ := Option.map_eq_some_iff.1 h
    obtain ⟨us, q1, q2⟩ := key vs hvs
    have hl : vs.length = fn.results.toList.length := by
      have key2 : ∀ (rs : List ResultVar) (vs : List V), rs.mapM (ares1 P t σ.st) = some vs → vs.length = rs.length := by
        intro rs
        induction rs with
        | nil => intro vs h; simp at h; subst h; rfl
        | cons r rs ih =>
          intro vs h
          simp only [List.mapM_cons, Option.bind_eq_bind, Option.bind_eq_some_iff, Option.pure_def, Option.some.injEq] at h
          obtain ⟨v, hv, vs', hvs, rfl⟩ := h
          simp [ih vs' hvs]
      exact key2 _ _ hvs
    have hul := RVl.length q2
    refine ⟨.tuple us.toArray, ?_, by simp only [RV]; exact ⟨us, rfl, q2⟩⟩
    rw [Sem.run_bind, q1, Result.andThen_ok, Sem.run_pure]
    rw [dif_neg]
    simp only [List.size_toArray]
    intro h1
    have : fn.results.toList.length = 1 := by omega
    obtain ⟨r, hr1⟩ := List.length_eq_one_iff.1 this
    exact hne r hr1

theorem shut_mark (g : Good P σ w) {D : Nat} (hD : σ.L D = .frn) (hD2 : ∀ ens c, w.heap[D]? ≠ some (.map ens c)) {o : Obj} : Good P σ (w.putObj D o) ∧ Stq P σ σ w (w.putObj D o) := by
  have he : ∀ b, σ.L b ≠ .frn → (w.putObj D o).heap[b]? = w.heap[b]? := fun b hb => World.putObj_heap_other (fun h => by subst h; exact hb hD)
  have hst : Stq P σ σ w (w.putObj D o) := by
    refine ⟨rfl, rfl, rfl, by simp, fun b hb => ⟨hb, he b (by rw [hb]; simp)⟩, fun i ys hi => ⟨rfl, ys, hi⟩, fun i hi => ⟨rfl, hi⟩, fun i hi => ⟨rfl, hi⟩, fun i ty ys n lo fz hi => ⟨ys, n, lo, fz, hi, Nat.le_refl _, Nat.le_refl _, fun b k C _ _ hh => ?_⟩⟩
    obtain ⟨e, xs, n, lo, fz, s, us, fr, k1, k2, k3, k4, k5, k5', k6, k7, k8, k9, k10⟩ := hh
    refine ⟨e, xs, n, lo, fz, s, us, fr, k1, k2, k3, k4, k5, k5', ?_, k7, RCl.mono (L := σ.L) (L' := σ.L) (fun b hb => ⟨hb, he b (by rw [hb]; simp)⟩) k8, k9, k10⟩
    rw [he b (by rcases k7 with k7 | ⟨_, k7⟩ <;> rw [k7] <;> simp)]
    exact k6
  refine ⟨⟨fun i o2 hi => ?_, fun b i hb => ?_, fun b hb => g.2.2 b (by simpa using hb)⟩, hst⟩
  · by_cases hne : o2 = .gone
    · subst hne; simp [RO]
    · have hr := g.1 i o2 hi
      have he2 : ∀ ens c, w.heap[σ.φ i]? = some (.map ens c) → (w.putObj D o).heap[σ.φ i]? = w.heap[σ.φ i]? := fun ens c hh => World.putObj_heap_other (fun h => by rw [h] at hh; exact hD2 _ _ hh)
      by_cases hh : ∃ es, o2 = .held es
      · obtain ⟨es, rfl⟩ := hh
        refine RO.mono hst rfl rfl ?_ hr
        simp only [RO] at hr
        obtain ⟨ens, c, h1, _⟩ := hr
        exact he2 _ _ h1
      refine RO.mono hst rfl rfl (he _ ?_) hr
      cases o2 with
      | held es => exact absurd ⟨es, rfl⟩ hh
      | cells xs => simp only [RO] at hr; obtain ⟨_, _, _, _, _, h4⟩ := hr; rw [h4]; simp
      | row e xs n lo fz =>
        simp only [RO] at hr
        obtain ⟨us, s, C, _, _, _, _, _, _, _, _, _, h8, h9⟩ := hr
        cases fz with
        | false => rw [h8 rfl]; simp
        | true => rw [h9 rfl]; simp
      | map es => simp only [RO] at hr; obtain ⟨_, _, _, _, h4, _⟩ := hr; rw [h4]; simp
      | loop s p pl t ps a b => simp only [RO] at hr; obtain ⟨_, _, _, _, _, _, _, _, h4, _⟩ := hr; rw [h4]; simp
      | gone => exact absurd rfl hne
  · have := g.2.1 b i hb
    exact ⟨by simpa using this.1, this.2⟩
theorem leaves_marks {σ0 : Sg} {w0 : World} {fn : Func} {t : List V} {tmps : Array Value} {R : Ending → World → Prop} (hR : ∀ w', Good P σ w' → Stp P σ0 σ w0 w' → RVl P σ w' t tmps.toList → ∃ v, (results fn tmps).run P w' = .ok v w' ∧ R (.returned v) w') :
    ∀ (Ds : List Nat) (w : World), Ds.Nodup → (∀ D ∈ Ds, w0.heap.size ≤ D ∧ D < w.heap.size ∧ σ.L D = .frn ∧ w.heap[D]? = some (.deferred (some []))) → Good P σ w → Stp P σ0 σ w0 w → RVl P σ w t tmps.toList → LeavesInM Fence.wide 0 P fn tmps R (Ds.map mark) .returning w
  | [], w, _, _, g, p, hr => by
    simp only [List.map_nil, LeavesInM, LeavesIn]
    exact hR w g p hr
  | D :: Ds, w, hnd, hm, g, p, hr => by
    obtain ⟨m1, m2, m3, m4⟩ := hm D (by simp)
    obtain ⟨g', p'⟩ := shut_mark (o := .deferred none) g m3 (fun ens c h => by rw [m4] at h; cases h)
    obtain ⟨n1, n2⟩ := List.nodup_cons.1 hnd
    simp only [List.map_cons, LeavesInM]
    refine ⟨by simp, .inl ⟨D, _, rfl, run_takeDeferred m4, ?_⟩⟩
    refine leaves_marks hR Ds _ n2 (fun D' hD' => ?_) g' ?_ (RVl.mono p' hr)
    · obtain ⟨q1, q2, q3, q4⟩ := hm D' (by simp [hD'])
      have hne : D' ≠ D := fun h => by subst h; exact n1 hD'
      exact ⟨q1, by simpa using q2, q3, by rw [World.putObj_heap_other hne]; exact q4⟩
    · refine ⟨⟨p'.os.trans p.os, p'.tape.trans p.tape, p'.output.trans p.output, Nat.le_trans p.size p'.size, fun b hb => ?_, p.cells, p.map, p.loop, fun i e xs n lo fz hi => ?_⟩, fun b hb hl => ?_, p.hld⟩
      · obtain ⟨q1, q2⟩ := p.pers b hb
        obtain ⟨q3, q4⟩ := p'.pers b q1
        exact ⟨q3, q4.trans q2⟩
      · obtain ⟨xs', n', lo', fz', k1, k2, k3, k4⟩ := p.row i e xs n lo fz hi
        refine ⟨xs', n', lo', fz', k1, k2, k3, fun b k C hlo hk hh => ?_⟩
        obtain ⟨xs2, n2', lo2, fz2, j1, j2, j3, j4⟩ := p'.row i e xs' n' lo' fz' k1
        rw [k1] at j1
        cases j1
        exact j4 b k C hlo (by omega) (k4 b k C hlo hk hh)
      · obtain ⟨q1, q2⟩ := p.frn b hb hl
        exact ⟨q1, (World.putObj_heap_other (by omega)).trans q2⟩
theorem aputs_sound {vs : List V} {us : List Value} : ∀ {ps : List Tmp} {vs : List V} {us : List Value} {t : List V} {tmps : List Value}, RVl P σ w t tmps → RVl P σ w vs us → RVl P σ w (aputs t ps vs) ((ps.zip us).foldl (fun tmps x => tmps.set x.1 x.2) tmps)
  | [], vs, us, t, tmps, h, _ => by simpa [aputs] using h
  | p :: ps, [], us, t, tmps, h, k => by simp only [RVl] at k; subst k; simpa [aputs] using h
  | p :: ps, v :: vs, us, t, tmps, h, k => by
    simp only [RVl] at k
    obtain ⟨u, us', rfl, k1, k2⟩ := k
    simp only [aputs, List.zip_cons_cons, List.foldl_cons]
    exact aputs_sound (vs := vs) (us := us') (RVl.set h k1) k2
theorem foldl_puts : ∀ (l : List (Tmp × Value)) (a : Array Value), (l.foldl (fun tmps (x : Tmp × Value) => tmps.setIfInBounds x.1 x.2) a).toList = l.foldl (fun tmps x => tmps.set x.1 x.2) a.toList
  | [], a => rfl
  | x :: l, a => by simp only [List.foldl_cons]; rw [foldl_puts l]; simp
theorem grow_row (g : Good P σ w) {w1 : World} {xs : List V} {us : Array Value} {e : TypeId} {s n C B : Nat} (hb : Below w.heap.size w w1) (hB : w.heap.size ≤ B) (hh : w1.heap[B]? = some (.cells us e (0, 0))) (hs : szOf P e = some s) (h0 : 0 < s) (hr : RCl σ.L w xs (us.toList.take (n * s))) (hl : xs.length = n * s) (hC : us.size = C * s) (hn : n ≤ C) (hm : C ≤ maxLen) :
    Good P (σ.push (.row e xs n 0 false) B (.obj σ.st.length)) w1 ∧ Stp P σ (σ.push (.row e xs n 0 false) B (.obj σ.st.length)) w w1 ∧ RV P (σ.push (.row e xs n 0 false) B (.obj σ.st.length)) w1 (.sl σ.st.length 0 n false n) (.slice (some ⟨B, 0, none⟩) n C) := by
  have hBl : B < w1.heap.size := (Array.getElem?_eq_some_iff.1 hh).1
  have hp : ∀ b, σ.L b = .pers → (σ.push (.row e xs n 0 false) B (.obj σ.st.length)).L b = .pers ∧ w1.heap[b]? = w.heap[b]? := fun b hb' => by
    have := pers_lt g hb'
    exact ⟨by simp only [Sg.push]; rw [if_neg (by omega)]; exact hb', hb.block b this⟩
  have hst : Stp P σ (σ.push (.row e xs n 0 false) B (.obj σ.st.length)) w w1 := by
    refine Stp.of hb.os hb.tape hb.output hb.size (fun b hb1 hl1 => ⟨by simp only [Sg.push]; rw [if_neg (by omega)]; exact hl1, hb.block b hb1⟩) hp (fun id ys hx => ?_) (fun id hx => ?_) (fun id hx => ?_) (fun id ty ys q lo fz hx => ?_) (fun id es hx => ?_)
    · have := g.lt hx
      exact ⟨push_φ this, ys, by rw [push_get this]; exact hx⟩
    · have := hx.lt
      exact ⟨push_φ this, hx.keep (push_get this)⟩
    · obtain ⟨s', p', pl', t', ps', a', b', hx⟩ := hx
      have := g.lt hx
      exact ⟨push_φ this, s', p', pl', t', ps', a', b', by rw [push_get this]; exact hx⟩
    · have hid := g.lt hx
      refine ⟨ys, q, lo, fz, by rw [push_get hid]; exact hx, Nat.le_refl _, Nat.le_refl _, fun b k C' _ _ hh' => ?_⟩
      obtain ⟨e', xs', n', lo', fz', s', us', fr, h1, h2, h3, h4, h5, h5', h6, h7, h8, h9, h10⟩ := hh'
      have hb1 : b < w.heap.size := (Array.getElem?_eq_some_iff.1 h6).1
      refine ⟨e', xs', n', lo', fz', s', us', fr, by rw [push_get hid]; exact h1, h2, h3, h4, h5, h5', by rw [hb.block b hb1]; exact h6, ?_, RCl.mono hp h8, h9, fun hk => by rw [push_φ hid]; exact h10 hk⟩
      simp only [Sg.push]
      rw [if_neg (by omega)]
      exact h7
    · by_cases hid : id < σ.st.length
      · rw [push_get hid] at hx
        exact ⟨hx, push_φ hid⟩
      · have hid' : id = σ.st.length := by
          have := (List.getElem?_eq_some_iff.1 hx).1
          simp [Sg.push] at this
          omega
        subst hid'
        rw [push_new] at hx
        cases hx
  have hr1 : RCl (σ.push (.row e xs n 0 false) B (.obj σ.st.length)).L w1 xs (us.toList.take (n * s)) := RCl.mono hst.pers hr
  refine ⟨⟨fun id o' h => ?_, fun b id h => ?_, fun b h => ?_⟩, hst, ?_⟩
  · by_cases hid : id < σ.st.length
    · rw [push_get hid] at h
      have hro := g.1 id o' h
      by_cases hne : o' = .gone
      · subst hne; simp [RO]
      · have hφ : σ.φ id < w.heap.size := by
          cases o' with
          | cells xs => obtain ⟨us, e, h1, _⟩ := hro; exact (Array.getElem?_eq_some_iff.1 h1).1
          | row e xs n lo fz => obtain ⟨us, s, C, _, _, h1, _⟩ := hro; exact (Array.getElem?_eq_some_iff.1 h1).1
          | map es => obtain ⟨ens, c, h1, _⟩ := hro; exact (Array.getElem?_eq_some_iff.1 h1).1
          | held es => obtain ⟨ens, c, h1, _⟩ := hro; exact (Array.getElem?_eq_some_iff.1 h1).1
          | loop s p pl t ps a b => obtain ⟨r, h1, _⟩ := hro; exact (Array.getElem?_eq_some_iff.1 h1).1
          | gone => exact absurd rfl hne
        exact RO.mono hst.toStq (push_φ hid) (by simp only [Sg.push]; rw [if_neg (by omega)]) (hb.block _ hφ) hro
    · have hid' : id = σ.st.length := by
        have := (List.getElem?_eq_some_iff.1 h).1
        simp [Sg.push] at this
        omega
      subst hid'
      rw [push_new] at h
      cases h
      simp only [RO]
      exact ⟨us, s, C, hs, h0, by simp only [Sg.push, if_true]; exact hh, hC, hn, hm, hl, Nat.zero_le _, hr1, fun _ => by simp [Sg.push], fun h => by cases h⟩
  · simp only [Sg.push] at h
    split at h
    · rename_i hb1
      subst hb1
      cases h
      exact ⟨hBl, by simp [Sg.push]⟩
    · obtain ⟨h1, h2⟩ := g.2.1 b id h
      have := hb.size
      exact ⟨by omega, by simp [Sg.push]; omega⟩
  · have := hb.size
    simp only [Sg.push]
    rw [if_neg (by omega)]
    exact g.2.2 b (by omega)
  · simp only [RV]
    refine ⟨e, xs, n, 0, false, s, push_new, hs, by omega, ⟨_, _, rfl, hn, hm, fun h => by cases h⟩, fun _ => ⟨B, C, C, by simp, ?_, by omega, fun _ => by omega⟩⟩
    refine ⟨e, xs, n, 0, false, s, us, _, push_new, hs, h0, by omega, by omega, by omega, hh, .inl (by simp [Sg.push]), ?_, ?_, fun _ => ⟨by simp [Sg.push], hC⟩⟩
    · rw [List.take_of_length_le (by rw [hl]; exact Nat.le_refl _)]
      exact hr1
    · rw [hC]; exact Nat.mul_le_mul_right _ hn
theorem grow_none (g : Good P σ w) {w1 : World} (hb : Below w.heap.size w w1) : Good P σ w1 ∧ Stp P σ σ w w1 := by
  have hp : ∀ b, σ.L b = .pers → σ.L b = .pers ∧ w1.heap[b]? = w.heap[b]? := fun b hb' => ⟨hb', hb.block b (pers_lt g hb')⟩
  have hst : Stp P σ σ w w1 := by
    refine Stp.of hb.os hb.tape hb.output hb.size (fun b hb1 hl1 => ⟨hl1, hb.block b hb1⟩) hp (fun id ys hx => ⟨rfl, ys, hx⟩) (fun id hx => ⟨rfl, hx⟩) (fun id hx => ⟨rfl, hx⟩) (fun id ty ys q lo fz hx => ?_) (fun id es hx => ⟨hx, rfl⟩)
    refine ⟨ys, q, lo, fz, hx, Nat.le_refl _, Nat.le_refl _, fun b k C' _ _ hh' => ?_⟩
    obtain ⟨e', xs', n', lo', fz', s', us', fr, h1, h2, h3, h4, h5, h5', h6, h7, h8, h9, h10⟩ := hh'
    have hb1 : b < w.heap.size := (Array.getElem?_eq_some_iff.1 h6).1
    exact ⟨e', xs', n', lo', fz', s', us', fr, h1, h2, h3, h4, h5, h5', by rw [hb.block b hb1]; exact h6, h7, RCl.mono hp h8, h9, h10⟩
  refine ⟨⟨fun id o' h => ?_, fun b id h => ?_, fun b h => ?_⟩, hst⟩
  · have hro := g.1 id o' h
    by_cases hne : o' = .gone
    · subst hne; simp [RO]
    · have hφ : σ.φ id < w.heap.size := by
        cases o' with
        | cells xs => obtain ⟨us, e, h1, _⟩ := hro; exact (Array.getElem?_eq_some_iff.1 h1).1
        | row e xs n lo fz => obtain ⟨us, s, C, _, _, h1, _⟩ := hro; exact (Array.getElem?_eq_some_iff.1 h1).1
        | map es => obtain ⟨ens, c, h1, _⟩ := hro; exact (Array.getElem?_eq_some_iff.1 h1).1
        | held es => obtain ⟨ens, c, h1, _⟩ := hro; exact (Array.getElem?_eq_some_iff.1 h1).1
        | loop s p pl t ps a b => obtain ⟨r, h1, _⟩ := hro; exact (Array.getElem?_eq_some_iff.1 h1).1
        | gone => exact absurd rfl hne
      exact RO.mono hst.toStq rfl rfl (hb.block _ hφ) hro
  · obtain ⟨h1, h2⟩ := g.2.1 b id h
    have := hb.size
    exact ⟨by omega, h2⟩
  · have := hb.size
    exact g.2.2 b (by omega)
def PrimOK (P : Program) (pl : Plans) : Prop := ∀ f gs e, prim pl f = some (gs, e) → szOf P e = some 1 ∧ (∃ fn : Func, P.funcs[f]? = some fn ∧ fn.body.isNone = false) ∧
  (gs = [] → ∀ (w : World) (b : Nat) (ens : Array MapEntry) (clock : Nat), w.heap[b]? = some (.map ens clock) → Calls P f #[.map (some b)] w fun r w' => r = .returned (.map (some w.heap.size)) ∧ w' = w.alloc (.map ens clock)) ∧
  ∀ g ∈ gs, ∀ (w : World) (Bm b : Nat) (ens : Array MapEntry) (clock : Nat) (ks : List Int), Bm < w.heap.size → w.cell? ⟨Bm, 0, none⟩ = some (.map (some b)) → w.heap[b]? = some (.map ens clock) → ens.toList.map (·.key) = ks.map (Value.int .i64) → ks.Nodup → ks.length ≤ 1000000 → (∀ k ∈ ks, -9223372036854775808 ≤ k ∧ k < 9223372036854775808) → StB ens.toList clock →
    Calls P f #[.func (.func g) #[] #[.pointer (some ⟨Bm, 0, none⟩)]] w fun r w' => ∃ v, r = .returned v ∧ Below w.heap.size w w' ∧ w'.ownsRow w.heap.size e 1 v ks.length ((ks.mergeSort fun x y => decide (x ≤ y)).map (Value.int .i64)) ∧ (v = .slice none 0 0 ↔ ks = [])
theorem REs.keysI : ∀ {es : List (Value × V)} {ens : List MapEntry} {ks : List Int}, REs P σ w es ens → M.keysI es = some ks → ens.map (·.key) = ks.map (Value.int .i64)
  | [], ens, ks, hr, h => by
    simp only [REs] at hr
    simp only [M.keysI, Option.some.injEq] at h
    subst hr; subst h; rfl
  | (k, v) :: l, ens, ks, hr, h => by
    simp only [REs] at hr
    obtain ⟨e, es', rfl, rfl, _, hr2⟩ := hr
    unfold M.keysI at h
    split at h
    · rename_i heq; cases heq
    · rename_i k' v' l' heq
      simp only [List.cons.injEq, Prod.mk.injEq] at heq
      obtain ⟨⟨h1, _⟩, rfl⟩ := heq
      obtain ⟨ks', h3, rfl⟩ := Option.map_eq_some_iff.1 h
      rw [List.map_cons, List.map_cons, h1, REs.keysI hr2 h3]
    · cases h
theorem sorted_len (ks : List Int) : (ks.mergeSort fun x y => decide (x ≤ y)).length = ks.length := List.length_mergeSort _
theorem sortedK_sound {pl : Plans} (hP : PrimOK P pl) {f e : Nat} {g : List Nat} (hp : prim pl f = some (g, e)) {args : List V} {us : List Value} {v : V} {st' : List Ob} {K : V → List Ob → Prop} (gd : Good P σ w) (hr : RVl P σ w args us) (hs : sortedK g e args σ.st = some (v, st')) (hK : K v st') :
    CallsIn Fence.wide 0 P f us.toArray w (RK P K σ w) := by
  obtain ⟨hsz, _, hclo, hcon⟩ := hP f g e hp
  unfold sortedK at hs
  split at hs
  · rename_i g' c
    split at hs
    · rename_i hg
      split at hs
      · rename_i a hc
        split at hs
        · rename_i es ha
          split at hs
          · rename_i ks hk
            split at hs
            · rename_i hcond
              obtain ⟨hnd, hlen, hall⟩ := hcond
              simp only [RVl, RV] at hr
              obtain ⟨u, _, rfl, ⟨us1, rfl, hr1⟩, rfl⟩ := hr
              obtain ⟨u1, _, rfl, ⟨rfl, _⟩, rfl⟩ := hr1
              have hro := gd.1 _ _ hc
              simp only [RO, RVl, RV] at hro
              obtain ⟨us2, ty, r1, ⟨u2, us3, r2, ⟨rfl, _⟩, r3⟩, _, _⟩ := hro
              have hra := gd.1 _ _ ha
              simp only [RO] at hra
              obtain ⟨ens, clock, q1, q2, _, q4⟩ := hra
              have hcell : w.cell? ⟨σ.φ c, 0, none⟩ = some (.map (some (σ.φ a))) := by
                simp only [World.cell?, r1]
                have : us2[0]? = some (.map (some (σ.φ a))) := by rw [← Array.getElem?_toList, r2]; rfl
                exact this
              have hrange : ∀ k ∈ ks, -9223372036854775808 ≤ k ∧ k < 9223372036854775808 := fun k hk' => by
                have := List.all_eq_true.1 hall k hk'
                simpa using this
              refine (callsIn_wide.2 (hcon _ hg w (σ.φ c) (σ.φ a) ens clock ks (Array.getElem?_eq_some_iff.1 r1).1 hcell q1 (REs.keysI q2 hk) hnd hlen hrange q4)).mono ?_
              rintro r w' ⟨v', rfl, hb, hrow, hnil⟩
              split at hs
              · rename_i h0
                cases hs
                obtain rfl := hnil.2 h0
                obtain ⟨g1, g2⟩ := grow_none gd hb
                exact ⟨_, _, _, σ, rfl, hK, rfl, g1, g2, RV.ofVal (.slice none 0 0)⟩
              · rename_i h0
                cases hs
                obtain ⟨hl, hrow⟩ := hrow
                rcases hrow with ⟨rfl, _⟩ | ⟨B, cap, cur, rfl, hB, hh, h1, h2, h3, h4⟩
                · exact absurd (hnil.1 rfl) h0
                · have hrc : RCl σ.L w ((ks.mergeSort fun x y => decide (x ≤ y)).map fun k => V.sc (.int .i64 k)) (cur.toList.take (ks.length * 1)) := by
                    rw [h4]
                    generalize (ks.mergeSort fun x y => decide (x ≤ y)) = l
                    induction l with
                    | nil => simp [RCl]
                    | cons a l ih => simp only [List.map_cons, RCl]; exact ⟨_, _, rfl, rfl, by simp only [RC], ih⟩
                  obtain ⟨g1, g2, g3⟩ := grow_row (P := P) (e := e) (s := 1) (n := ks.length) (C := cap) gd hb hB hh hsz (by omega) hrc (by rw [List.length_map, sorted_len, Nat.mul_one]) h3 h1 h2
                  exact ⟨_, _, _, _, rfl, hK, rfl, g1, g2, g3⟩
            · cases hs
          · cases hs
        · cases hs
      · cases hs
    · cases hs
  · rename_i a
    split at hs
    · rename_i hg
      split at hs
      · rename_i es ha
        cases hs
        simp only [RVl, RV] at hr
        obtain ⟨u, _, rfl, ⟨rfl, _⟩, rfl⟩ := hr
        have hra := gd.1 _ _ ha
        simp only [RO] at hra
        obtain ⟨ens, clock, q1, q2, _, q4⟩ := hra
        refine (callsIn_wide.2 (hclo hg w (σ.φ a) ens clock q1)).mono ?_
        rintro r w' ⟨rfl, rfl⟩
        have hst : Stp P σ (σ.push (.map es) w.heap.size (.obj σ.st.length)) w (w.alloc (.map ens clock)) := Stp.push gd (by simp) rfl rfl rfl (by show w.heap.push _ = _; rfl)
        refine ⟨_, _, _, σ.push (.map es) w.heap.size (.obj σ.st.length), rfl, hK, rfl, Good.push gd (by simp) rfl rfl rfl (by show w.heap.push _ = _; rfl) (.inl rfl) ?_, hst, ?_⟩
        · simp only [RO]
          exact ⟨ens, clock, by show (w.heap.push _)[_]? = _; simp [Sg.push], REs.mono hst.toStq q2, by simp [Sg.push], q4⟩
        · simp only [RV]
          exact ⟨by simp [Sg.push], es, .inl push_new⟩
      · cases hs
    · cases hs
  · cases hs
theorem acallF_sound (hm : P.follows .mixedOrders = true) (hN : ∀ (f : FuncId) (fn : Func), P.funcs[f]? = some fn → (fn.name == "runtime.NumGoroutine") = false) {pl : Plans} (hD : plansOK P pl = true) (hP : PrimOK P pl) (m : Nat) : ∀ n, CS P (acallF P pl n m)
  | 0 => ⟨fun f args st K _ h => h.elim, fun id args st K h => h.elim⟩
  | n + 1 => by
    have hF : ∀ f args st K, f ≠ P.funcs.size → acallF P pl n m f args st K → ∃ fn : Func, P.funcs[f]? = some fn ∧ fn.body.isNone = false ∧ (fn.name == "runtime.NumGoroutine") = false := by
      intro f args st K hfs h
      cases n with
      | zero => exact h.elim
      | succ n =>
        simp only [acallF] at h
        split at h
        · rename_i fn hfn
          rcases h with ⟨v, st', ht, hk⟩ | h
          · obtain ⟨⟨fn', h1, h2⟩, _⟩ := ht
            exact ⟨fn', h1, h2, hN f fn' h1⟩
          split at h
          · rename_i pg pe hp
            obtain ⟨_, ⟨fn', h1, h2⟩, _, _⟩ := hP f _ _ hp
            exact ⟨fn', h1, h2, hN f fn' h1⟩
          split at h
          · rename_i c hc
            exact ⟨fn, hfn, by rw [hc]; rfl, hN f fn hfn⟩
          · exact h.elim
        · rw [if_neg hfs] at h
          exact h.elim
    refine ⟨?_, ?_⟩
    · intro f args st K hfs h σ w us hst g hr
      subst hst
      simp only [acallF] at h
      split at h
      · rename_i fn hfn
        rcases h with ⟨v, st', ht, hk⟩ | h
        · have := ht.2.2.2 (fun _ => none) ⟨fun _ _ => rfl, fun _ => by simp⟩ σ w us (over_none _).symm g hr
          refine this.mono ?_
          rintro e w' ⟨v2, u, st2, σ', rfl, ⟨rfl, rfl⟩, h1, h2, h3, h4⟩
          exact ⟨_, u, _, σ', rfl, hk, by rw [h1, over_none], h2, h3, h4⟩
        split at h
        · rename_i pg pe hp
          split at h
          · rename_i v st' hs
            exact sortedK_sound hP hp g hr hs h
          · exact h.elim
        split at h
        · rename_i c hc
          refine callsIn_of_wp_marks hfn hc trivial ?_
          refine acode_sound (ro := none) (B := w.heap.size) (acallF_sound hm hN hD hP m n) hF hm (acallF_CF n) (pl f) m (rd := false) (.inl rfl) c _ _ σ w _ _ ?_ (fun l hl => by cases hl) (Nat.le_refl _) h g ?_ ?_
          · unfold plansOK at hD
            have := (List.all_eq_true.1 hD) f (List.mem_range.2 (Array.getElem?_eq_some_iff.1 hfn).1)
            simpa [hfn, hc] using this
          · refine ⟨?_, MK.nil _ _ _⟩
            have hl := RVl.length hr
            simp only [Array.toList_append, Array.toList_replicate, List.size_toArray, hl]
            refine RVl.app hr ?_
            generalize fn.ntmps - args.length = k
            induction k with
            | zero => simp [RVl]
            | succ k ih => simp only [List.replicate_succ, RVl]; exact ⟨_, _, rfl, by simp only [RV], ih⟩
          · intro e t' st' σ' w' a' hk hst' g' hs hr'
            subst hst'
            obtain ⟨he, hk⟩ := hk
            split at hk
            · rename_i v hv
              obtain ⟨hrt, Ds, hds, hnd, hmk⟩ := hr'
              have key : LeavesInM Fence.wide 0 P fn a'.tmps (RK P K σ w) a'.defers .returning w' := by
                rw [hds]
                refine leaves_marks (t := t') (σ0 := σ) (w0 := w) (fun w2 g2 p2 hr2 => ?_) Ds w' hnd hmk g' hs hrt
                obtain ⟨u, h1, h2⟩ := res_sound (B := 0) g2 (t := t') (a := { tmps := a'.tmps, defers := [] }) ⟨hr2, MK.nil _ _ _⟩ hv
                exact ⟨u, h1, v, u, _, σ', rfl, hk, rfl, g2, p2, h2⟩
              rcases he with rfl | rfl
              · exact key
              · exact key
            · exact hk.elim
        · exact h.elim
      · rw [if_neg hfs] at h
        exact h.elim
    · intro id args st K h σ w us hst g hr
      subst hst
      simp only [acallF, Array.getElem?_eq_none (Nat.le_refl _), if_true] at h
      unfold around at h
      split at h
      · rename_i p0 plf t ps asg body hl
        obtain ⟨hlen, h⟩ := h
        have hro := g.1 _ _ hl
        simp only [RO] at hro
        obtain ⟨r, q1, q2, q3, q4, q5, q6, q7, q8, q9, q10⟩ := hro
        have hul := RVl.length hr
        have hsz : us.length = r.params.size := by rw [hul, hlen, ← q5, Array.length_toList]
        refine ⟨r, q1, hsz, ?_⟩
        have hRT : RVl P σ w (aputs t ps args) ((r.params.zip us.toArray).foldl (fun tmps (t, a) => tmps.setIfInBounds t a) r.tmps).toList := by
          have e : ((r.params.zip us.toArray).foldl (fun tmps (t, a) => tmps.setIfInBounds t a) r.tmps) = ((ps.zip us).foldl (fun tmps (x : Tmp × Value) => tmps.setIfInBounds x.1 x.2) r.tmps) := by
            rw [← Array.foldl_toList, Array.toList_zip, q5]
          rw [e, foldl_puts]
          exact aputs_sound (vs := []) (us := []) q4 hr
        rw [q6, q7]
        refine roundIn_of_wpIn (F := Fence.wide) trivial ?_
        have hHR : HR (some (σ.φ id)) σ := fun l hl2 => by cases hl2; exact ⟨id, rfl, _, _, _, _, _, _, _, hl⟩
        refine acode_sound (ro := some (σ.φ id)) (B := w.heap.size) (acallF_sound hm hN hD hP m n) hF hm (acallF_CF n) plf m (rd := true) (.inr rfl) asg _ _ σ w _ _ q9 hHR (Nat.le_refl _) h g ⟨hRT, MK.nil _ _ _⟩ ?_
        intro e t1 st1 σ1 w1 a1 hk hst1 g1 p1 hr1
        subst hst1
        obtain ⟨he, hk⟩ := hk
        subst he
        simp only [Exit.then]
        split at hk
        · rename_i pend1 pl1 u1 ps1 asg1 body1 hl1
          have hro1 := g1.1 _ _ hl1
          simp only [RO] at hro1
          obtain ⟨r1, s1, s2, s3, s4, s5, s6, s7, s8, s9, s10⟩ := hro1
          have hφ1 : σ1.φ id = σ.φ id := (p1.loop id ⟨_, _, _, _, _, _, _, hl⟩).1
          rw [hφ1] at s1
          refine ⟨_, run_beginRound s1 s2, ?_⟩
          obtain ⟨g2, p2⟩ := loop_set (s' := .busy) (p' := pend1) g1 hl1 (r := r1) (by rw [hφ1]; exact s1)
          have hw : ({ r1 with state := .busy, pending := pend1 } : Loop) = { r1 with state := .busy } := by rw [← s3]
          rw [hw, hφ1] at g2 p2
          -- the body's code is what the record held when the round began
          refine acode_sound (ro := some (σ.φ id)) (B := w.heap.size) (acallF_sound hm hN hD hP m n) hF hm (acallF_CF n) plf m (rd := true) (.inr rfl) body _ _ (σ1.set id (.loop .busy pend1 pl1 u1 ps1 asg1 body1)) _ _ _ q10 ?_ ?_ hk g2 (hr1.mono p2) ?_
          · have := (hHR.mono p1).mono p2
            exact this
          · exact Nat.le_trans p1.size p2.size
          · intro e2 t2 st2 σ2 w2 a2 hk2 hst2 g3 p3 hr3
            subst hst2
            split at hk2
            · rename_i s5' p5 pl2 u2 ps2 asg2 body2 hl2
              have hro2 := g3.1 _ _ hl2
              simp only [RO] at hro2
              obtain ⟨r2, v1, v2, v3, v4, v5, v6, v7, v8, v9, v10⟩ := hro2
              have hφ2 : σ2.φ id = σ.φ id := by
                rw [(p3.loop id ⟨_, _, _, _, _, _, _, set_same (g1.lt hl1)⟩).1]
                exact hφ1
              rw [hφ2] at v1
              have fin : ∀ (jump : Option Code) (s : LoopState) (b : Bool), s = (if jump.isNone then .ready else .done) → b = jump.isNone → K (.sc (.bool b)) (σ2.st.set id (.loop s jump pl2 u2 ps2 asg2 body2)) → ∃ v w', (Instr.endRound (σ.φ id) jump).run P w2 = .ok v w' ∧ RK P K σ w (.returned v) w' := by
                rintro jump s b rfl rfl hk3
                refine ⟨_, _, run_endRound jump v1, ?_⟩
                obtain ⟨g4, p4⟩ := loop_set (s' := if jump.isNone then .ready else .done) (p' := jump) g3 hl2 (r := r2) (by rw [hφ2]; exact v1)
                rw [hφ2] at g4 p4
                exact ⟨_, _, _, _, rfl, hk3, rfl, g4, ((p1.trans p2).trans p3).trans p4, by simp only [RV]⟩
              split at hk2
              · rename_i s6 p6 b6 hro6
                cases e2 with
                | normal => simp only [roundOut, Option.some.injEq, Prod.mk.injEq] at hro6; obtain ⟨rfl, rfl, rfl⟩ := hro6; exact fin none _ _ rfl rfl hk2
                | ret => simp only [roundOut, Option.some.injEq, Prod.mk.injEq] at hro6; obtain ⟨rfl, rfl, rfl⟩ := hro6; exact fin (some .ret) _ _ rfl rfl hk2
                | exit j => simp only [roundOut, Option.some.injEq, Prod.mk.injEq] at hro6; obtain ⟨rfl, rfl, rfl⟩ := hro6; exact fin (some (.exit j)) _ _ rfl rfl hk2
                | _ => simp [roundOut] at hro6
              · exact hk2.elim
            · exact hk2.elim
        · exact hk.elim
      · exact h.elim

def Sg.start (w : World) : Sg := { st := [], φ := fun _ => 0, L := fun b => if b < w.heap.size then .pers else .frn }

theorem Good.start (w : World) : Good P (Sg.start w) w := by
  refine ⟨fun id o h => by simp [Sg.start] at h, fun b id h => ?_, fun b h => ?_⟩
  · simp only [Sg.start] at h
    split at h <;> cases h
  · simp only [Sg.start]
    rw [if_neg (by omega)]

theorem law_calls (hm : P.follows .mixedOrders = true) (hN : ∀ (f : FuncId) (fn : Func), P.funcs[f]? = some fn → (fn.name == "runtime.NumGoroutine") = false) {pl : Plans} (hD : plansOK P pl = true) (hP : PrimOK P pl) {n m : Nat} {f : FuncId} {args : List V} {us : List Value} (hr : RVl P (Sg.start w) w args us)
    (h : acallF P pl n m f args [] fun v _ => v = .sc (.bool true)) : Calls P f us.toArray w fun e w' => e = .returned (.bool true) ∧ Below w.heap.size w w' := by
  have hfs : f ≠ P.funcs.size := fun he => by
    subst he
    cases n with
    | zero => exact h.elim
    | succ n =>
      simp only [acallF, Array.getElem?_eq_none (Nat.le_refl _), if_true] at h
      split at h
      · simp only [RVl] at hr
        obtain ⟨u, us', _, hy, _⟩ := hr
        simp only [RV] at hy
        obtain ⟨_, _, _, _, _, _, _, _, hy⟩ := hy
        simp [Sg.start] at hy
      · exact h.elim
  refine (callsIn_wide.1 ((acallF_sound hm hN hD hP m n).fn f args [] _ hfs h (Sg.start w) w us rfl (Good.start w) hr)).mono fun e w' hh => ?_
  obtain ⟨v, u, st', σ', rfl, rfl, _, _, hs, hv⟩ := hh
  simp only [RV] at hv
  subst hv
  exact ⟨rfl, hs.os, hs.tape, hs.output, hs.size, fun k hk => (hs.pers k (by simp only [Sg.start]; rw [if_pos hk])).2⟩
end
end Go.M
