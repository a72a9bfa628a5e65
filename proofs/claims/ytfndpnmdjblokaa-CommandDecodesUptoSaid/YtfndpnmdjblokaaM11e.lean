/- What a run comes to: regions that draw, loops, code, calls. -/
import Derived.Test.YtfndpnmdjblokaaM11d
set_option linter.unusedVariables false
set_option linter.unusedSimpArgs false
namespace Go.M
open Go Go.RowKit
section
variable {P : Program} {ov : Nat → Option Ob} {m : Nat}

theorem ovOf_lt {base : Nat} {xs : List (Option Ob)} {needs : List Nat} {i : Nat} (h : i < base) : ovOf base xs needs i = none := by
  unfold ovOf
  rw [if_neg (by omega)]
theorem ovOf_ng {base : Nat} {xs : List (Option Ob)} (hx : NoGone xs) (needs : List Nat) (i : Nat) : ovOf base xs needs i ≠ some .gone := by
  unfold ovOf
  split
  · intro h
    cases hg : xs[i - base]? with
    | none => rw [hg] at h; cases h
    | some y => rw [hg] at h; simp only [Option.getD_some] at h; exact hx (i - base) (by rw [hg, h])
  · simp
theorem patch_comm {base : Nat} {xs : List (Option Ob)} (hx : NoGone xs) (needs : List Nat) (hf : Fine ov base) (st : List Ob) : patch base xs needs (over ov st) = over ov (patch base xs needs st) := by
  rw [patch_over hx, patch_over hx]
  refine over_comm (fun i => ?_) hf.2 (ovOf_ng hx needs) st
  by_cases hi : base ≤ i
  · exact .inl (hf.1 i hi)
  · exact .inr (ovOf_lt (by omega))
theorem patch_len {base : Nat} {xs : List (Option Ob)} (hx : NoGone xs) (needs : List Nat) (st : List Ob) : (patch base xs needs st).length = st.length := by rw [patch_over hx, over_len]
theorem patch_lt {base : Nat} {xs : List (Option Ob)} (hx : NoGone xs) (needs : List Nat) (st : List Ob) {i : Nat} (h : i < base) : (patch base xs needs st)[i]? = st[i]? := by
  rw [patch_over hx, over_at, ovOf_lt h]
  cases st[i]? with
  | none => rfl
  | some o => cases o <;> rfl
theorem Grw.over {a b : List Ob} (h : Grw a b) : Grw (over ov a) (over ov b) := fun i o hi => by
  rw [over_at] at hi ⊢
  cases ha : a[i]? with
  | none => rw [ha] at hi; cases hi
  | some x =>
    rw [ha] at hi
    rw [h i x ha]
    exact hi

theorem pendOK_over {ops : Array Oper} {plan : List PI} {base : Nat} {xs : List (Option Ob)} (hx : NoGone xs) (hf : Fine ov base) {t : List V} {st : List Ob} :
    ∀ {l : List Nat}, pendOK P ops plan base xs t st l → pendOK P ops plan base xs t (over ov st) l
  | [], _ => trivial
  | q :: r, h => by
    simp only [pendOK] at h ⊢
    refine ⟨?_, pendOK_over hx hf h.2⟩
    have h1 := h.1
    split
    · rename_i o p ho hp
      simp only [ho, hp] at h1
      refine ⟨h1.1, fun hw => ?_⟩
      have := h1.2 hw
      rw [patch_comm hx _ hf]
      split
      · rename_i d hd
        simp only [hd] at this
        exact ⟨this.1, qop_le (LE.over _) h1.1 this.2⟩
      · rename_i hd
        simp only [hd] at this
    · rename_i hne
      split at h1
      · rename_i o p ho hp
        exact (hne o p ho hp).elim
      · exact h1

theorem NoGone.snoc {xs : List (Option Ob)} (hx : NoGone xs) {y : Option Ob} (hy : y ≠ some .gone) : NoGone (xs ++ [y]) := fun a h => by
  by_cases ha : a < xs.length
  · rw [List.getElem?_append_left ha] at h; exact hx a h
  · rw [List.getElem?_append_right (by omega)] at h
    cases hk : a - xs.length with
    | zero => rw [hk] at h; simp at h; exact hy h
    | succ k => rw [hk] at h; simp at h
theorem aobj_ng {ρ : Operand → V} {id : Nat} {o : Oper} {v : V} {X : Ob} (h : aobj P ρ id o = some (v, X)) : X ≠ .gone := by
  unfold aobj at h
  split at h
  · split at h
    · split at h
      · simp only [Option.some.injEq, Prod.mk.injEq] at h; rw [← h.2]; simp
      · cases h
    · cases h
  · split at h
    · simp only [Option.some.injEq, Prod.mk.injEq] at h; rw [← h.2]; simp
    · cases h
  · split at h
    · split at h
      · split at h
        · split at h
          · split at h
            · simp only [Option.some.injEq, Prod.mk.injEq] at h; rw [← h.2]; simp
            · cases h
          · cases h
        · cases h
      · cases h
    · cases h
  · cases h

theorem adraw_CF {C : CallK} (hC : CF C) {ops : Array Oper} {plan : List PI} {base : Nat} :
    ∀ {l : List Oper} {ps : List PI} {t : List V} {st : List Ob} {hs : List (List Ob)} {xs : List (Option Ob)} {K : List V → List Ob → Prop}, adraw P C ops plan base l ps t st hs xs K → NoGone xs → base ≤ st.length →
      ∃ t' st', K t' st' ∧ (∀ i, i < base → st[i]? = some .gone → st'[i]? = some .gone) ∧ st.length ≤ st'.length ∧
        ∀ ov (K' : List V → List Ob → Prop), Fine ov base → K' t' (over ov st') → adraw P C ops plan base l ps t (over ov st) (hs.map (over ov)) xs K'
  | [], ps, t, st, hs, xs, K, h, hx, hb => by
    have h' : K t (patch base xs (List.range xs.length) st) := by cases ps <;> simpa [adraw] using h
    refine ⟨t, _, h', fun i hi hg => by rw [patch_lt hx _ _ hi]; exact hg, by rw [patch_len hx]; exact Nat.le_refl _, fun ov K' hf k => ?_⟩
    have : adraw P C ops plan base [] ps t (over ov st) (hs.map (over ov)) xs K' = K' t (patch base xs (List.range xs.length) (over ov st)) := by cases ps <;> simp [adraw]
    rw [this, patch_comm hx _ hf]
    exact k
  | o :: l, [], t, st, hs, xs, K, h, hx, hb => by
    simp only [adraw] at h
    refine ⟨t, _, h, fun i hi hg => by rw [patch_lt hx _ _ hi]; exact hg, by rw [patch_len hx]; exact Nat.le_refl _, fun ov K' hf k => ?_⟩
    simp only [adraw]
    rw [patch_comm hx _ hf]
    exact k
  | o :: l, p :: ps, t, st, hs, xs, K, h, hx, hb => by
    simp only [adraw] at h
    split at h
    · rename_i hw
      split at h
      · rename_i hA
        split at h
        · rename_i v X hX
          obtain ⟨t', st', h1, h2, h3, h4⟩ := adraw_CF hC h (hx.snoc (by simpa using aobj_ng hX)) hb
          refine ⟨t', st', h1, h2, h3, fun ov K' hf k => ?_⟩
          simp only [adraw, hw, hA, if_true, hX]
          exact h4 ov K' hf k
        · exact h.elim
      · rename_i hA
        split at h
        · rename_i hQ
          split at h
          · rename_i v hv
            obtain ⟨hm, h⟩ := h
            obtain ⟨t', st', h1, h2, h3, h4⟩ := adraw_CF hC h hx hb
            refine ⟨t', st', h1, h2, h3, fun ov K' hf k => ?_⟩
            simp only [adraw, hw, hA, hQ, if_true, Bool.false_eq_true, if_false, patch_comm hx _ hf, qop_le (LE.over _) hQ hv]
            refine ⟨fun hmm s hs' => ?_, h4 ov K' hf k⟩
            rw [← List.map_drop] at hs'
            obtain ⟨s0, hs0, rfl⟩ := List.mem_map.1 hs'
            rw [patch_comm hx _ hf]
            exact qop_le (LE.over _) hQ (hm hmm s0 hs0)
          · exact h.elim
        · rename_i hQ
          obtain ⟨v, st1, ⟨k0, k1⟩, k2, k3, k4⟩ := aop_CF hC h
          rw [patch_len hx] at k3 k4
          obtain ⟨t', st', h1, h2, h3, h4⟩ := adraw_CF hC k1 hx (by omega)
          refine ⟨t', st', h1, fun i hi hg => h2 i hi (k2 i (by rw [patch_lt hx _ _ hi]; exact hg)), by omega, fun ov K' hf k => ?_⟩
          simp only [adraw, hw, hA, hQ, if_true, Bool.false_eq_true, if_false, patch_comm hx _ hf]
          refine k4 ov _ (hf.le hb) ⟨?_, ?_⟩
          · rcases k0 with k0 | k0
            · exact .inl k0.over
            · exact .inr (pendOK_over hx hf k0)
          · have := h4 ov K' hf k
            rw [List.map_append] at this
            exact this
    · rename_i hw
      obtain ⟨t', st', h1, h2, h3, h4⟩ := adraw_CF hC h (by split; exact hx.snoc (by simp); exact hx) hb
      refine ⟨t', st', h1, h2, h3, fun ov K' hf k => ?_⟩
      have := h4 ov K' hf k
      simp only [adraw, hw]
      rw [show (if isE o.op = true then hs.map (over ov) ++ [over ov st] else hs.map (over ov)) = (if isE o.op = true then hs ++ [st] else hs).map (over ov) from by split <;> simp]
      exact this
    · exact h.elim

theorem over_gones {n : Nat} (st : List Ob) (hf : Fine ov st.length) : over ov st ++ List.replicate n .gone = over ov (st ++ List.replicate n .gone) := by
  apply List.ext_getElem?
  intro i
  rw [over_at]
  by_cases hi : i < st.length
  · rw [List.getElem?_append_left (by rw [over_len]; exact hi), List.getElem?_append_left hi, over_at]
  · rw [List.getElem?_append_right (by rw [over_len]; omega), List.getElem?_append_right (by omega), over_len, List.getElem?_replicate]
    split
    · rw [hf.1 i (by omega)]; rfl
    · rfl

theorem aloop_CF {body : ExK → List V → List Ob → Prop} (hb : ∀ (K : ExK) t st, body K t st → ∃ e t' st', K e t' st' ∧ KG1 st st' ∧ st.length ≤ st'.length ∧ ∀ ov (K' : ExK), Fine ov st.length → K' e t' (over ov st') → body K' t (over ov st)) :
    ∀ (k : Nat) {K : ExK} {t : List V} {st : List Ob}, aloop body k K t st → ∃ e t' st', K e t' st' ∧ KG1 st st' ∧ st.length ≤ st'.length ∧ ∀ ov (K' : ExK), Fine ov st.length → K' e t' (over ov st') → aloop body k K' t (over ov st)
  | 0, K, t, st, h => h.elim
  | k + 1, K, t, st, h => by
    rw [aloop] at h
    obtain ⟨e, t1, st1, h1, h2, h3, h4⟩ := hb _ _ _ h
    cases e with
    | normal =>
      obtain ⟨e', t', st', k1, k2, k3, k4⟩ := aloop_CF hb k h1
      refine ⟨e', t', st', k1, h2.trans k2, Nat.le_trans h3 k3, fun ov K' hf hk => ?_⟩
      rw [aloop]
      exact h4 ov _ hf (k4 ov K' (hf.le h3) hk)
    | _ =>
      refine ⟨_, t1, st1, h1, h2, h3, fun ov K' hf hk => ?_⟩
      rw [aloop]
      exact h4 ov _ hf hk

theorem acode_CF {C : CallK} (hC : CF C) {pl : Nat → Option (List PI)} : ∀ (c : Code) (K : ExK) (t : List V) (st : List Ob), acode P C m pl c K t st →
    ∃ e t' st', K e t' st' ∧ KG1 st st' ∧ st.length ≤ st'.length ∧ ∀ ov (K' : ExK), Fine ov st.length → K' e t' (over ov st') → acode P C m pl c K' t (over ov st) := by
  intro c
  induction c with
  | skip => intro K t st h; simp only [acode] at h ⊢; exact ⟨_, _, _, h, fun _ h => h, Nat.le_refl _, fun ov K' _ h => h⟩
  | region id ops draw =>
    intro K t st h
    have flat : aops P C ops ops.toList t st (fun t st => K .normal t st) → ∃ e t' st', K e t' st' ∧ KG1 st st' ∧ st.length ≤ st'.length ∧ ∀ ov (K' : ExK), Fine ov st.length → K' e t' (over ov st') → aops P C ops ops.toList t (over ov st) fun t st => K' .normal t st := fun h => by
      obtain ⟨t', st', h1, h2, h3, h4⟩ := aops_CF hC h
      exact ⟨_, t', st', h1, h2, h3, fun ov K' hf hk => h4 ov _ hf hk⟩
    cases draw with
    | false => simp only [acode] at h ⊢; exact flat h
    | true =>
      simp only [acode] at h ⊢
      split at h
      · rename_i hpl
        exact flat h
      · rename_i plan hpl
        obtain ⟨t', st', h1, h2, h3, h4⟩ := adraw_CF hC h (fun a => by simp) (by simp)
        rw [List.length_append] at h3
        refine ⟨_, t', st', h1, fun i hi => ?_, by omega, fun ov K' hf hk => ?_⟩
        · have hlt := (List.getElem?_eq_some_iff.1 hi).1
          exact h2 i hlt (by rw [List.getElem?_append_left hlt]; exact hi)
        · rw [over_len, over_gones st hf]
          exact h4 ov _ hf hk
  | seq a b iha ihb =>
    intro K t st h
    simp only [acode] at h ⊢
    obtain ⟨e, t1, st1, h1, h2, h3, h4⟩ := iha _ _ _ h
    cases e with
    | normal =>
      obtain ⟨e', t', st', k1, k2, k3, k4⟩ := ihb _ _ _ h1
      exact ⟨e', t', st', k1, h2.trans k2, Nat.le_trans h3 k3, fun ov K' hf hk => h4 ov _ hf (k4 ov K' (hf.le h3) hk)⟩
    | _ => exact ⟨_, t1, st1, h1, h2, h3, fun ov K' hf hk => h4 ov _ hf hk⟩
  | cond c a b iha ihb =>
    intro K t st h
    simp only [acode] at h ⊢
    split at h
    · split at h
      · rename_i hx; simp only [if_pos hx]; exact iha _ _ _ h
      · rename_i hx; simp only [if_neg hx]; exact ihb _ _ _ h
    · exact h.elim
  | block id b ih =>
    intro K t st h
    simp only [acode] at h ⊢
    obtain ⟨e, t1, st1, h1, h2, h3, h4⟩ := ih _ _ _ h
    cases e with
    | exit j =>
      simp only at h1
      split at h1
      · rename_i hj
        exact ⟨_, t1, st1, h1, h2, h3, fun ov K' hf hk => h4 ov _ hf (by simp only; rw [if_pos hj]; exact hk)⟩
      · rename_i hj
        exact ⟨_, t1, st1, h1, h2, h3, fun ov K' hf hk => h4 ov _ hf (by simp only; rw [if_neg hj]; exact hk)⟩
    | _ => exact ⟨_, t1, st1, h1, h2, h3, fun ov K' hf hk => h4 ov _ hf hk⟩
  | loop b ih =>
    intro K t st h
    simp only [acode] at h ⊢
    exact aloop_CF (fun K t st h => ih K t st h) m h
  | exit id => intro K t st h; simp only [acode] at h ⊢; exact ⟨_, _, _, h, fun _ h => h, Nat.le_refl _, fun ov K' _ h => h⟩
  | ret => intro K t st h; simp only [acode] at h ⊢; exact ⟨_, _, _, h, fun _ h => h, Nat.le_refl _, fun ov K' _ h => h⟩
  | _ => intro K t st h; simp [acode] at h

theorem ares1_fill {t : List V} {st : List Ob} {r : ResultVar} {v : V} (h : ares1 P t st r = some v) : ares1 P t (over ov st) r = some v := by
  cases r with
  | tmp i => simpa [ares1] using h
  | cell a ty =>
    simp only [ares1] at h ⊢
    split at h
    · rename_i id off ha
      split at h
      · rename_i xs hx
        simp only [fill_cells hx]
        exact h
      · cases h
    · cases h
theorem aresL_fill {t : List V} {st : List Ob} : ∀ {rs : List ResultVar} {vs : List V}, rs.mapM (ares1 P t st) = some vs → rs.mapM (ares1 P t (over ov st)) = some vs
  | [], vs, h => by simpa using h
  | r :: rs, vs, h => by
    simp only [List.mapM_cons, Option.bind_eq_bind, Option.pure_def, Option.bind_eq_some_iff, Option.some.injEq] at h ⊢
    obtain ⟨v, h1, vs', h2, rfl⟩ := h
    exact ⟨v, ares1_fill h1, vs', aresL_fill h2, rfl⟩
theorem ares_fill {fn : Func} {t : List V} {st : List Ob} {v : V} (h : ares P fn t st = some v) : ares P fn t (over ov st) = some v := by
  unfold ares at h ⊢
  split at h
  · exact ares1_fill h
  · obtain ⟨vs, h1, rfl⟩ := Option.map_eq_some_iff.1 h
    rw [aresL_fill h1]
    rfl

theorem acallF_CF {pl : Plans} : ∀ n, CF (acallF P pl n m)
  | 0 => fun f args st K h => h.elim
  | n + 1 => fun f args st K h => by
    simp only [acallF] at h
    split at h
    · rename_i fn hf
      split at h
      · rename_i c hc
        obtain ⟨e, t', st', ⟨h0, h1⟩, h2, h3, h4⟩ := acode_CF (acallF_CF n) _ _ _ _ h
        split at h1
        · rename_i v hv
          refine ⟨v, st', h1, h2, h3, fun ov K' hf' hk => ?_⟩
          simp only [acallF, hf, hc]
          exact h4 ov _ hf' ⟨h0, by simp only [ares_fill hv]; exact hk⟩
        · exact h1.elim
      · exact h.elim
    · exact h.elim
end
end Go.M
