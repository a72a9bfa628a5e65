/- The machine is sound: code. -/
import Derived.Test.YtfndpnmdjblokaaM12e
set_option linter.unusedVariables false
set_option linter.unusedSimpArgs false
namespace Go.M
open Go Go.RowKit
section
variable {P : Program} {σ σ' : Sg} {w w' w1 : World}
theorem rep_false (m j : Nat) : (Array.replicate m false).getD j false = false := by
  rcases Nat.lt_or_ge j m with h | h
  · simp [h]
  · simp [h]

/-- Code. -/
theorem acode_sound {C : CallK} (hC : CS P C) (hF : ∀ f args st K, C f args st K → ∃ fn : Func, P.funcs[f]? = some fn ∧ fn.body.isNone = false ∧ (fn.name == "runtime.NumGoroutine") = false) (hm : P.follows .mixedOrders = true) (hCF : CF C) (pl : Nat → Option (List PI)) (m : Nat) : ∀ (c : Code) (t : List V) (a : Act) (σ : Sg) (w : World) (K : ExK) (Q : Exit → Act → World → Prop),
    codeOK pl c = true → acode P C m pl c K t σ.st → Good P σ w → RT P σ w t a → (∀ e t' st' σ' w' a', K e t' st' → σ'.st = st' → Good P σ' w' → Stp P σ σ' w w' → RT P σ' w' t' a' → Q e a' w') → c.wp P Q a w := by
  intro c
  induction c with
  | skip =>
    intro t a σ w K Q hok h g hr hq
    exact wp_skip (hq _ _ _ σ w a h rfl g .refl hr)
  | region id ops draw =>
    intro t a σ w K Q hok h g hr hq
    cases draw with
    | false =>
      simp only [acode] at h
      exact wp_region_list (aops_sound hC hF ops.toList t a σ w _ h g hr fun t' st' σ' w' a' k1 k2 k3 k4 k5 => hq _ _ _ _ _ _ k1 k2 k3 k4 k5)
    | true =>
      simp only [acode] at h
      simp only [codeOK] at hok
      split at h
      · rename_i hpl
        simp only [hpl, Bool.and_eq_true] at hok
        refine wp_region_still hm hok.2 ?_
        exact still_sound (g.drew (w.drawn + 1)) ops.toList t a _ (by rw [Array.all_toList]; exact hok.1) h (hr.mono (Stp.drew _)) fun t' a' k1 k2 => hq _ _ _ _ _ _ k1 rfl (g.drew _) (Stp.drew _) k2
      · rename_i plan hpl
        simp only [hpl] at hok
        have hp := planOK_spec hok
        obtain ⟨vs1, ss1, xs1, j1, j2, j3, j4⟩ := extract (P := P) hCF (base := σ.st.length) (t0 := t) hp.len (fun i p hi => hp.needs_lt i p hi) ops.toList plan 0 (σ.st ++ List.replicate (numA ops) .gone) [] [] (fun t st => K .normal t st) []
          (by simp) (by simp) rfl (Nat.zero_le _) (by simp [cnt]) (by simp [cnt]) (fun a => by simp) (by simpa [TL] using h)
        simp only [List.nil_append] at j1 j2 j3 j4
        have hnum : numA ops = cnt isA ops ops.size := by
          rw [cnt_all, idxs_eq]
          unfold numA
          have : ∀ (l : List Oper) (k : Nat), (∀ j, l[j]? = ops[k + j]?) → (l.filter fun o => isA o.op).length = (((List.range l.length).map (k + ·)).filter (isAt isA ops)).length := by
            intro l
            induction l with
            | nil => intro k _; rfl
            | cons o l ih =>
              intro k hl
              have h0 : ops[k]? = some o := by simpa using (hl 0).symm
              have ih := ih (k + 1) fun j => by have := hl (j + 1); simpa [Nat.add_assoc, Nat.add_comm 1 j] using this
              have hr2 : (List.range (o :: l).length).map (k + ·) = k :: (List.range l.length).map (k + 1 + ·) := by
                rw [List.length_cons, List.range_succ_eq_map, List.map_cons, List.map_map, Nat.add_zero]
                congr 1
                apply List.map_congr_left
                intro x _
                simp only [Function.comp]
                omega
              have hat : isAt isA ops k = isA o.op := by simp [isAt, h0]
              rw [hr2]
              by_cases hA : isA o.op = true
              · rw [List.filter_cons_of_pos (p := fun o : Oper => isA o.op) hA, List.filter_cons_of_pos (by rw [hat]; exact hA), List.length_cons, List.length_cons, ih]
              · rw [List.filter_cons_of_neg (p := fun o : Oper => isA o.op) hA, List.filter_cons_of_neg (by rw [hat]; exact hA), ih]
          have h1 := this ops.toList 0 (by simp)
          have h2 : (List.range ops.toList.length).map (0 + ·) = List.range ops.size := by
            rw [Array.length_toList]
            conv => rhs; rw [← List.map_id (List.range ops.size)]
            apply List.map_congr_left
            intro x _
            simp
          rw [h1, h2]
        have run : Run P C ops plan σ.st.length t (fun j => vs1.getD j .dead) (fun k => ((σ.st ++ List.replicate (numA ops) .gone) :: ss1).getD k []) xs1 := by
          refine ⟨fun i o p ho hpl => j4 i o p (Nat.zero_le _) ho hpl, j1, j2, fun b hb => ?_⟩
          simp only [List.getD_cons_zero]
          rw [List.getElem?_append_right (Nat.le_add_right _ _), Nat.add_sub_cancel_left, List.getElem?_replicate, if_pos (by rw [hnum]; exact hb)]
        have e0 : Stp P σ { σ with st := σ.st ++ List.replicate (numA ops) .gone } w { w with drawn := w.drawn + 1 } := by
          refine ⟨rfl, rfl, rfl, Nat.le_refl _, fun b _ hb => ⟨hb, rfl⟩, fun b hb => ⟨hb, rfl⟩, fun i ys hi => ⟨rfl, ys, ?_⟩, fun i ys hi => ⟨rfl, ys, ?_⟩, fun i e ys n lo fz hi => ⟨ys, n, lo, fz, ?_, Nat.le_refl _, Nat.le_refl _, fun b k C _ _ hh => ?_⟩⟩
          · exact (List.getElem?_append_left (g.lt hi)).trans hi
          · exact (List.getElem?_append_left (g.lt hi)).trans hi
          · exact (List.getElem?_append_left (g.lt hi)).trans hi
          · obtain ⟨e, ys, n, lo, fz, s, us, fr, q1, q2, q3, q4, q5, q5', q6, q7, q8, q9, q10⟩ := hh
            exact ⟨e, ys, n, lo, fz, s, us, fr, (List.getElem?_append_left (g.lt q1)).trans q1, q2, q3, q4, q5, q5', q6, q7, RCl.mono (L := σ.L) (w := w) (L' := σ.L) (w' := { w with drawn := w.drawn + 1 }) (fun b hb => ⟨hb, rfl⟩) q8, q9, q10⟩
        have g0 : Good P { σ with st := σ.st ++ List.replicate (numA ops) .gone } { w with drawn := w.drawn + 1 } := by
          refine ⟨fun i o hi => ?_, fun b i hb => ⟨(g.2.1 b i hb).1, by have := (g.2.1 b i hb).2; simp only [List.length_append]; omega⟩, g.2.2⟩
          by_cases hil : i < σ.st.length
          · have hi' : σ.st[i]? = some o := by rw [← hi]; exact (List.getElem?_append_left hil).symm
            exact RO.mono e0 rfl rfl rfl (g.1 i o hi')
          · simp only at hi
            rw [List.getElem?_append_right (by omega), List.getElem?_replicate] at hi
            split at hi
            · cases hi; simp [RO]
            · cases hi
        refine wp_region_any hm ?_
        refine draw_any (P := P) (σ0 := σ) (w0 := w) hp run hC hF ?_ ?_ ops.size (Array.replicate ops.size false) 0 a _ { σ with st := σ.st ++ List.replicate (numA ops) .gone } ?_ ?_
        · simp only [List.getD_cons_zero, List.length_append, List.length_replicate]
          rw [j2, hnum]
          exact Nat.le_refl _
        · intro a' w' σ' k1 k2 k3 k4
          refine hq _ _ _ σ' w' a' j3 ?_ k2 k3 k4
          exact k1
        · refine ⟨by simp, fun j hj => ?_, fun i hi => ?_, Nat.zero_le _, ?_, g0, e0, ?_⟩
          · rw [rep_false] at hj; cases hj
          · rw [rep_false]; simp
          · simp only [List.getD_cons_zero]
            have : ovOf σ.st.length xs1 (ordL ops xs1.length (Array.replicate ops.size false)) = fun _ => none := by
              funext x
              unfold ovOf
              rw [if_neg]
              rintro ⟨_, hm⟩
              obtain ⟨_, j, _, hj⟩ := ordL_mem.1 hm
              rw [rep_false] at hj; cases hj
            rw [this, over_none]
          · have e := TL_stop (ops := ops) (vs := fun j => vs1.getD j .dead) (S := fun i => (Array.replicate ops.size false).getD i false) (t0 := t) (m := 0) ops.size (Nat.zero_le _) fun i _ _ => rep_false _ _
            rw [e]
            exact hr.mono e0
        · exact Nat.le_trans (List.length_filter_le _ _) (by simp)
  | seq x y ihx ihy =>
    intro t a σ w K Q hok h g hr hq
    simp only [acode] at h
    simp only [codeOK, Bool.and_eq_true] at hok
    refine wp_seq (ihx t a σ w _ _ hok.1 h g hr fun e t' st' σ' w' a' k1 k2 k3 k4 k5 => ?_)
    subst k2
    cases e with
    | normal => exact ihy t' a' σ' w' K Q hok.2 k1 k3 k5 fun e2 t2 st2 σ2 w2 a2 q1 q2 q3 q4 q5 => hq _ _ _ _ _ _ q1 q2 q3 (k4.trans q4) q5
    | _ => exact hq _ _ _ _ _ _ k1 rfl k3 k4 k5
  | cond c x y ihx ihy =>
    intro t a σ w K Q hok h g hr hq
    simp only [acode] at h
    split at h
    · rename_i b hc
      have he := hr.eval c
      rw [hc] at he
      simp only [RV] at he
      simp only [codeOK, Bool.and_eq_true] at hok
      refine wp_cond he ?_
      cases b with
      | true => exact ihx t a σ w K Q hok.1 (by simpa using h) g hr hq
      | false => exact ihy t a σ w K Q hok.2 (by simpa using h) g hr hq
    · exact h.elim
  | block id b ih =>
    intro t a σ w K Q hok h g hr hq
    simp only [acode] at h
    refine wp_block (ih t a σ w _ _ (by simpa [codeOK] using hok) h g hr fun e t' st' σ' w' a' k1 k2 k3 k4 k5 => ?_)
    cases e with
    | exit j =>
      simp only [Exit.inBlock]
      simp only at k1
      split
      · rename_i hj
        rw [if_pos hj] at k1
        exact hq _ _ _ _ _ _ k1 k2 k3 k4 k5
      · rename_i hj
        rw [if_neg hj] at k1
        exact hq _ _ _ _ _ _ k1 k2 k3 k4 k5
    | _ => exact hq _ _ _ _ _ _ k1 k2 k3 k4 k5
  | loop b ih =>
    intro t a σ w K Q hok h g hr hq
    simp only [acode] at h
    refine wp_loop_rounds m ?_
    have key : ∀ (k : Nat) (t : List V) (a : Act) (σ : Sg) (w : World) (K : ExK), aloop (acode P C m pl b) k K t σ.st → Good P σ w → RT P σ w t a → (∀ e t' st' σ' w' a', K e t' st' → σ'.st = st' → Good P σ' w' → Stp P σ σ' w w' → RT P σ' w' t' a' → Q e a' w') → Code.rounds P b Q k a w := by
      intro k
      induction k with
      | zero => intro t a σ w K h g hr hq; exact h.elim
      | succ k ihk =>
        intro t a σ w K h g hr hq
        simp only [aloop] at h
        rw [rounds_succ]
        refine ih t a σ w _ _ (by simpa [codeOK] using hok) h g hr fun e t' st' σ' w' a' k1 k2 k3 k4 k5 => ?_
        subst k2
        cases e with
        | normal => exact ihk t' a' σ' w' K k1 k3 k5 fun e2 t2 st2 σ2 w2 a2 q1 q2 q3 q4 q5 => hq _ _ _ _ _ _ q1 q2 q3 (k4.trans q4) q5
        | _ => exact hq _ _ _ _ _ _ k1 rfl k3 k4 k5
    exact key m t a σ w K h g hr hq
  | exit id =>
    intro t a σ w K Q hok h g hr hq
    exact wp_exit (hq _ _ _ σ w a h rfl g .refl hr)
  | ret =>
    intro t a σ w K Q hok h g hr hq
    exact wp_ret (hq _ _ _ σ w a h rfl g .refl hr)
  | _ =>
    intro t a σ w K Q hok h g hr hq
    exact h.elim
end
end Go.M
