/- Operations that are no calls: what the machine tells is what the run yields. -/
import Derived.Test.YtfndpnmdjblokaaM5
set_option linter.unusedVariables false
set_option linter.unusedSimpArgs false
namespace Go.M
open Go Go.RowKit
section
variable {P : Program} {σ σ' : Sg} {w w' w1 : World} {L L' : Nat → Lb}

def Yield (P : Program) (σ : Sg) (ρ : Operand → Value) (w : World) (o : Oper) (v : V) (st' : List Ob) : Prop :=
  ∃ nx u w' σ', (execOp ρ o).run P w = .ok nx w' ∧ (nx = .value u ∨ (nx = .skip ∧ u = undef)) ∧ σ'.st = st' ∧ Good P σ' w' ∧ Stp P σ σ' w w' ∧ RV P σ' w' v u

/-- .. and nothing turns. -/
def YieldS (P : Program) (σ : Sg) (ρ : Operand → Value) (w : World) (o : Oper) (v : V) (st' : List Ob) : Prop :=
  st' = σ.st ∧ ∃ u, (execOp ρ o).run P w = .ok (.value u) w ∧ RV P σ w v u

theorem Yield.same {ρ : Operand → Value} {o : Oper} {v : V} {u : Value} (g : Good P σ w) (h : (execOp ρ o).run P w = .ok (.value u) w) (hv : RV P σ w v u) : YieldS P σ ρ w o v σ.st :=
  ⟨rfl, u, h, hv⟩
theorem YieldS.yield {ρ : Operand → Value} {o : Oper} {v : V} {st' : List Ob} (g : Good P σ w) (h : YieldS P σ ρ w o v st') : Yield P σ ρ w o v st' := by
  obtain ⟨rfl, u, h1, h2⟩ := h
  exact ⟨_, u, w, σ, h1, .inl rfl, rfl, g, .refl, h2⟩

theorem run_v {α : Type} {s : Sem Value} {P : Program} {w w' : World} {u : Value} (h : s.run P w = .ok u w') : (do pure (Next.value (← s)) : Sem Next).run P w = .ok (.value u) w' := by
  simp [Sem.run_bind, h]

variable {ρ : Operand → V} {ρ' : Operand → Value} {st' : List Ob} {v : V} {dst : Option Tmp} {ty : TypeId} {pos : String} {after : Array Edge} {gd : Option (Nat × Bool)}

theorem y_pick (g : Good P σ w) (hρ : ∀ x, RV P σ w (ρ x) (ρ' x)) {c a b : Operand} (h : aval P ρ σ.st ⟨dst, .pick c a b, ty, pos, after, gd⟩ = some (v, st')) : YieldS P σ ρ' w ⟨dst, .pick c a b, ty, pos, after, gd⟩ v st' := by
  simp only [aval] at h
  split at h
  · rename_i t ht
    cases h
    have hc := hρ c
    rw [ht] at hc
    simp only [RV] at hc
    refine Yield.same (u := if t then ρ' a else ρ' b) g ?_ ?_
    · simp [execOp, hc, asBool]
    · cases t <;> simp [hρ]
  · cases h

theorem y_alloc (g : Good P σ w) {t : TypeId} (h : aval P ρ σ.st ⟨dst, .alloc t, ty, pos, after, gd⟩ = some (v, st')) : Yield P σ ρ' w ⟨dst, .alloc t, ty, pos, after, gd⟩ v st' := by
  simp only [aval] at h
  split at h
  · rename_i z hz
    split at h
    · rename_i h1
      cases h
      obtain ⟨h2, h3⟩ := new_cells (P := P) g (RVl.ofVals z.cells.toList) (fun u hu => (List.all_eq_true.1 h1) u hu) t
      refine ⟨_, .pointer (some ⟨w.heap.size, 0, none⟩), _, _, ?_, .inl rfl, rfl, h2, h3, ?_⟩
      · simp [execOp, Instr.alloc, Sem.run_bind, zeroOf_run hz, newVar, newRow]
      · simp only [RV]
        exact ⟨by simp [Sg.push], _, push_new⟩
    · cases h
  · cases h

theorem y_box (g : Good P σ w) (hρ : ∀ x, RV P σ w (ρ x) (ρ' x)) {t : TypeId} {x : Operand} (h : aval P ρ σ.st ⟨dst, .box t x, ty, pos, after, gd⟩ = some (v, st')) : Yield P σ ρ' w ⟨dst, .box t x, ty, pos, after, gd⟩ v st' := by
  simp only [aval] at h
  split at h
  · rename_i h1
    cases h
    obtain ⟨hr, ho⟩ := cells_sound (hρ x) h1
    obtain ⟨h2, h3⟩ := new_cells (P := P) g hr ho t
    refine ⟨_, .pointer (some ⟨w.heap.size, 0, none⟩), _, _, ?_, .inl rfl, rfl, h2, h3, ?_⟩
    · simp [execOp, Instr.box, newVar, newRow]
    · simp only [RV]
      exact ⟨by simp [Sg.push], _, push_new⟩
  · cases h

theorem parts_fst (ps : Array (Nat × Operand)) : (ps.toList.map fun (x : Nat × Operand) => (x.1, ρ x.2)).map (·.1) = ((ps.map fun (x : Nat × Operand) => (x.1, ρ' x.2)).toList).map (·.1) := by simp

theorem parts_snd (hρ : ∀ x, RV P σ w (ρ x) (ρ' x)) (ps : Array (Nat × Operand)) (j : Nat) (p : Nat × V) (q : Nat × Value) (h1 : (ps.toList.map fun (x : Nat × Operand) => (x.1, ρ x.2))[j]? = some p) (h2 : (ps.map fun (x : Nat × Operand) => (x.1, ρ' x.2)).toList[j]? = some q) : RV P σ w p.2 q.2 := by
  simp only [List.getElem?_map, Option.map_eq_some_iff, Array.toList_map] at h1 h2
  obtain ⟨a, ha, rfl⟩ := h1
  obtain ⟨b, hb, rfl⟩ := h2
  rw [ha] at hb
  cases hb
  exact hρ _

theorem y_build (g : Good P σ w) (hρ : ∀ x, RV P σ w (ρ x) (ρ' x)) {t : TypeId} {ps : Array (Nat × Operand)} (h : aval P ρ σ.st ⟨dst, .build t ps, ty, pos, after, gd⟩ = some (v, st')) : YieldS P σ ρ' w ⟨dst, .build t ps, ty, pos, after, gd⟩ v st' := by
  simp only [aval] at h
  split at h
  · rename_i z pl hz hpl
    split at h
    · rename_i cs hcs
      cases h
      obtain ⟨cs', h1, h2, _⟩ := fill_sound (P := P) (σ := σ) (w := w) (us := z.cells) (parts_fst (ρ := ρ) (ρ' := ρ') ps) (parts_snd hρ ps) (RVl.ofVals _) hcs
      have hb : P.built t (ps.map fun (x : Nat × Operand) => (x.1, ρ' x.2)).toList = some cs' := by
        unfold zeroOf at hz
        obtain ⟨it, hi, hz⟩ := Option.bind_eq_some_iff.1 hz
        unfold places at hpl
        unfold Program.built
        split at hpl
        · rename_i fs hu
          obtain ⟨pl', hm, rfl⟩ := Option.map_eq_some_iff.1 hpl
          simp only [hi, hu, hz, hm]
          exact h1
        · rename_i n e hu
          obtain ⟨s, hs, rfl⟩ := Option.map_eq_some_iff.1 hpl
          unfold szOf at hs
          obtain ⟨ie, hie, rfl⟩ := Option.map_eq_some_iff.1 hs
          simp only [hi, hu, hz, hie]
          exact h1
        · cases hpl
      refine Yield.same (u := .agg cs') g ?_ ?_
      · have := run_build (P := P) w t (ps.map fun (x : Nat × Operand) => (x.1, ρ' x.2)) cs' hb
        simp only [execOp]
        exact run_v (α := Unit) this
      · simp only [RV]
        exact ⟨cs'.toList, by simp, h2⟩
    · cases h
  · cases h

theorem y_buildSlice (g : Good P σ w) (hρ : ∀ x, RV P σ w (ρ x) (ρ' x)) {t : TypeId} {n : Nat} {ps : Array (Nat × Operand)} (h : aval P ρ σ.st ⟨dst, .buildSlice t n ps, ty, pos, after, gd⟩ = some (v, st')) : Yield P σ ρ' w ⟨dst, .buildSlice t n ps, ty, pos, after, gd⟩ v st' := by
  simp only [aval] at h
  split at h
  · rename_i e hu
    split at h
    · rename_i s z hs hz
      split at h
      · rename_i hc
        obtain ⟨hc0, hc1, hc2⟩ := hc
        split at h
        · rename_i cs hcs
          split at h
          · rename_i hcl
            cases h
            have hi : RVl P σ w ((List.range (n * s)).map fun i => M.ofVal (z.cells[i % z.cells.size]!)) ((Array.range (n * s)).map (z.cells[· % z.cells.size]!)).toList := by
              have := RVl.ofVals (P := P) (σ := σ) (w := w) ((List.range (n * s)).map fun i => z.cells[i % z.cells.size]!)
              simpa [Function.comp_def] using this
            obtain ⟨cs', h1, h2, h3⟩ := fill_sound (P := P) (σ := σ) (w := w) (us := (Array.range (n * s)).map (z.cells[· % z.cells.size]!)) (parts_fst (ρ := ρ) (ρ' := ρ') ps) (parts_snd hρ ps) hi hcs
            have hlen : cs.length = n * s := by rw [h3]; simp
            have hone := RVl.ones hcl.2 h2
            have hr : RCl σ.L w cs cs'.toList := RVl.RCl hcl.1 hone h2
            have hul := RCl.length hr
            unfold zeroOf at hz
            obtain ⟨ie, hie, hz'⟩ := Option.bind_eq_some_iff.1 hz
            have hsz : ie.size = s := by unfold szOf at hs; rw [hie] at hs; simpa using hs
            have hby : n ≤ maxLen := by
              have : n * 1 ≤ n * s := Nat.mul_le_mul_left _ hc0
              simp only [maxLen]; omega
            obtain ⟨k1, k2, k3⟩ := new_row (P := P) (rest := []) (w1 := w.alloc (.cells cs' e)) (n := n) (C := n) g rfl rfl rfl (by show w.heap.push _ = _; simp) hs hc0 hr hlen (by simp [hul, hlen]) (Nat.le_refl _) hby
            refine ⟨_, .slice (some ⟨w.heap.size, 0, none⟩) n n, _, _, ?_, .inl rfl, rfl, k1, k2, k3⟩
            by_cases hpos : n * s = 0
            · have hcs0 : cs' = #[] := by
                apply Array.eq_empty_of_size_eq_zero
                rw [← Array.length_toList, hul, hlen, hpos]
              have h1' := h1
              rw [hpos, show Array.range 0 = #[] from rfl, Array.map_empty] at h1'
              simp only [execOp]
              refine run_v (α := Unit) ?_
              subst hsz
              simp [Instr.buildSlice, run_underlying hu, sizeOf, typeInfo, zeroValue, hie, hz', hpos, newRow]
              rw [show Array.range 0 = #[] from rfl, Array.map_empty]
              simp only [Array.toList_map] at h1'
              simp [h1']
            · simp only [execOp]
              refine run_v (α := Unit) ?_
              subst hsz
              exact run_buildSlice (P := P) w t e n _ cs' ie z hu hie hz' (by omega) hpos h1
          · cases h
        · cases h
      · cases h
    · cases h
  · cases h

theorem y_load (g : Good P σ w) (hρ : ∀ x, RV P σ w (ρ x) (ρ' x)) {t : TypeId} {x : Operand} (h : aval P ρ σ.st ⟨dst, .load t x, ty, pos, after, gd⟩ = some (v, st')) : YieldS P σ ρ' w ⟨dst, .load t x, ty, pos, after, gd⟩ v st' := by
  have hx := hρ x
  have key : ∀ (a : Addr) (xs : List V) (us : List Value), ρ' x = .pointer (some a) → RVl P σ w xs us → (∀ j u, us[j]? = some u → w.cell? (a.add j) = some u) → (aload P t xs).map (·, σ.st) = some (v, st') → YieldS P σ ρ' w ⟨dst, .load t x, ty, pos, after, gd⟩ v st' := by
    intro a xs us ha hr hc h
    obtain ⟨v', hv, hh⟩ := Option.map_eq_some_iff.1 h
    cases hh
    obtain ⟨u, h1, h2⟩ := aload_sound hr a hc hv
    refine Yield.same g ?_ h2
    simp only [execOp, ha]
    exact run_v (α := Unit) (by simpa [Instr.loadAt, Instr.sureAddr] using h1)
  simp only [aval] at h
  split at h
  · rename_i id off hxx
    rw [hxx] at hx
    simp only [RV] at hx
    obtain ⟨hx1, _⟩ := hx
    split at h
    · rename_i xs hst
      have hro := g.1 id _ hst
      simp only [RO] at hro
      obtain ⟨us, e, r1, r2, r3, r4⟩ := hro
      refine key _ (xs.drop off) (us.toList.drop off) hx1 (RVl.drop r2) (fun j u hj => ?_) h
      rw [add_at]
      simp only [World.cell?, r1]
      rw [List.getElem?_drop] at hj
      simpa using hj
    · cases h
  · rename_i id off e hxx
    rw [hxx] at hx
    simp only [RV] at hx
    split at h
    · rename_i ty' xs n lo fz hst
      obtain ⟨ty2, xs2, n2, lo2, fz2, k1, k2, _, k3⟩ := hx
      rw [hst] at k1
      cases k1
      split at h
      · rename_i kk s0 hkk hs0
        split at h
        · rename_i hlo
          obtain ⟨hlo, hk0, hke⟩ := hlo
          obtain ⟨b, C, s, hp, hs, hh⟩ := k3 hlo
          obtain ⟨e3, xs3, n3, lo3, fz3, s3, us, fr, q1, q2, q3, q4, q5, q5', q6, q7, q8, q9, q10⟩ := hh
          rw [hst] at q1; cases q1
          rw [hs] at q2; cases q2
          rw [hs] at hs0; cases hs0
          refine key _ ((xs.take (e * s0)).drop off) ((us.toList.take (e * s0)).drop off) hp (RCl.RVl (RCl.drop q8)) (fun j u hj => ?_) ?_
          · rw [add_at]
            simp only [World.cell?, q6]
            rw [List.getElem?_drop, List.getElem?_take] at hj
            split at hj
            · simpa using hj
            · cases hj
          · rw [← h]
            congr 1
            unfold aload
            rw [hkk]
            have hd : ((xs.take (e * s0)).drop off).take kk = (xs.drop off).take kk := by
              rw [List.drop_take, List.take_take, Nat.min_eq_left (by omega)]
            have h0 : ((xs.take (e * s0)).drop off)[0]? = (xs.drop off)[0]? := by
              rw [List.drop_take, List.getElem?_take_of_lt (by omega)]
            have hq := RCl.length q8
            have hlx : (xs.take (e * s0)).length = e * s0 := by
              rw [← hq, List.length_take, Array.length_toList]; omega
            have hlx2 : e * s0 ≤ xs.length := by rw [List.length_take] at hlx; omega
            rw [h0]
            split
            · rename_i h1 h2
              cases h2
              rw [hd, if_pos (by rw [List.length_drop, hlx]; omega), if_pos (by rw [List.length_drop]; omega)]
            · rfl
            · rfl
        · cases h
      · cases h
    · cases h
  · rename_i xs hxx
    rw [hxx] at hx
    simp only [RV] at hx
    obtain ⟨a, us, k1, k2, k3, k4⟩ := hx
    exact key a xs us k1 (RCl.RVl k2) k3 h
  · cases h
end
end Go.M
