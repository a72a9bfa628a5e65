/- The machine is sound: operations, regions, code. -/
import Derived.Test.YtfndpnmdjblokaaM11f
import Derived.Still
import Derived.LoopN
set_option linter.unusedVariables false
set_option linter.unusedSimpArgs false
namespace Go.M
open Go Go.RowKit
section
variable {P : Program} {σ σ' : Sg} {w w' w1 : World}

theorem RVl.set : ∀ {t : List V} {us : List Value} {i : Nat} {x : V} {u : Value}, RVl P σ w t us → RV P σ w x u → RVl P σ w (t.set i x) (us.set i u)
  | [], us, i, x, u, h, hx => by simp only [RVl] at h; subst h; simp [RVl]
  | y :: t, us, 0, x, u, h, hx => by
    simp only [RVl] at h
    obtain ⟨v, us', rfl, _, h2⟩ := h
    simp only [List.set_cons_zero, RVl]
    exact ⟨u, us', rfl, hx, h2⟩
  | y :: t, us, i + 1, x, u, h, hx => by
    simp only [RVl] at h
    obtain ⟨v, us', rfl, h1, h2⟩ := h
    simp only [List.set_cons_succ, RVl]
    exact ⟨v, _, rfl, h1, RVl.set h2 hx⟩

/-- The temporaries. -/
def RT (P : Program) (σ : Sg) (w : World) (t : List V) (a : Act) : Prop := RVl P σ w t a.tmps.toList ∧ a.defers = []

theorem RT.mono (h : Stp P σ σ' w w') {t : List V} {a : Act} (hr : RT P σ w t a) : RT P σ' w' t a := ⟨RVl.mono h hr.1, hr.2⟩

theorem RT.get {t : List V} {a : Act} (h : RT P σ w t a) (i : Nat) : RV P σ w (t.getD i .dead) (a.tmps.getD i undef) := by
  by_cases hi : i < t.length
  · obtain ⟨u, h1, h2⟩ := RVl.get h.1 (List.getElem?_eq_getElem hi)
    rw [List.getD_eq_getElem?_getD, List.getElem?_eq_getElem hi]
    rw [Array.getElem?_toList] at h1
    simp only [Array.getD_eq_getD_getElem?, h1, Option.getD_some]
    exact h2
  · rw [List.getD_eq_getElem?_getD, List.getElem?_eq_none (by omega)]
    simp [RV]

theorem RT.eval {t : List V} {a : Act} (h : RT P σ w t a) (x : Operand) : RV P σ w (aev t x) (a.eval x) := by
  cases x with
  | tmp i => exact h.get i
  | const v => exact RV.ofVal v
  | global g => simp [aev, RV]
  | func f =>
    simp only [aev, Act.eval, RV]
    exact ⟨[], rfl, by simp [RVl]⟩

theorem RT.put {t : List V} {a : Act} (h : RT P σ w t a) (d : Option Tmp) {v : V} {u : Value} (hv : RV P σ w v u) : RT P σ w (aput t d v) (a.put d u) := by
  cases d with
  | none => exact h
  | some d =>
    refine ⟨?_, h.2⟩
    simp only [aput, Act.put, Array.toList_setIfInBounds]
    exact RVl.set h.1 hv

theorem wanted_sound {ops : Array Oper} {t : List V} {a : Act} {o : Oper} {b : Bool} (h : RT P σ w t a) (hw : awanted ops t o = some b) : Region.wanted o (yielded ops a.tmps) = b := by
  unfold awanted at hw
  unfold Region.wanted
  cases hg : o.guard with
  | none => rw [hg] at hw; simpa using hw
  | some jw =>
    obtain ⟨j, want⟩ := jw
    rw [hg] at hw
    simp only at hw ⊢
    unfold yielded
    cases hd : (ops[j]?).bind (·.dst) with
    | none => rw [hd] at hw; simp at hw
    | some d =>
      rw [hd] at hw
      simp only [Option.bind_some] at hw ⊢
      have hr := h.get d
      split at hw
      · rename_i b' hb
        rw [hb] at hr
        simp only [RV] at hr
        have : a.tmps[d]? = some (.bool b') := by
          by_cases hlt : d < a.tmps.size
          · rw [Array.getD_eq_getD_getElem?, Array.getElem?_eq_getElem hlt, Option.getD_some] at hr
            rw [Array.getElem?_eq_getElem hlt, hr]
          · rw [Array.getD_eq_getD_getElem?, Array.getElem?_eq_none (Nat.le_of_not_lt hlt)] at hr
            simp [undef] at hr
        rw [this]
        simpa using hw
      · rename_i vs hb
        rw [hb] at hr
        simp only [RV] at hr
        cases hw
        by_cases hlt : d < a.tmps.size
        · rw [Array.getD_eq_getD_getElem?, Array.getElem?_eq_getElem hlt, Option.getD_some] at hr
          rw [Array.getElem?_eq_getElem hlt, hr]
          simp
        · rw [Array.getElem?_eq_none (Nat.le_of_not_lt hlt)]
          simp
      · cases hw

theorem aval_sound (g : Good P σ w) {ρ : Operand → V} {ρ' : Operand → Value} (hρ : ∀ x, RV P σ w (ρ x) (ρ' x)) {o : Oper} {v : V} {st' : List Ob} (h : aval P ρ σ.st o = some (v, st')) : Yield P σ ρ' w o v st' := by
  obtain ⟨dst, op, ty, pos, after, gd⟩ := o
  cases op with
  | move x => exact (y_move g hρ h).yield g
  | assign x => exact (y_assign g hρ h).yield g
  | pick c a b => exact (y_pick g hρ h).yield g
  | alloc t => exact y_alloc g h
  | box t x => exact y_box g hρ h
  | build t ps => exact (y_build g hρ h).yield g
  | buildSlice t n ps => exact y_buildSlice g hρ h
  | load t x => exact (y_load g hρ h).yield g
  | store t x y => exact y_store g hρ h
  | nilCheck x => exact (y_nilCheck g hρ h).yield g
  | binOp op t x y t2 => exact (y_binOp g hρ h).yield g
  | unOp op t x => exact (y_unOp g hρ h).yield g
  | convert s d x => exact (y_convert g hρ h).yield g
  | makeFunc f a b => exact (y_makeFunc g hρ h).yield g
  | slice t x lo hi mx => exact (y_slice g hρ h).yield g
  | fieldAddr t x i => exact (y_fieldAddr g hρ h).yield g
  | field t x i => exact (y_field g hρ h).yield g
  | indexAddr t x i => exact (y_indexAddr g hρ h).yield g
  | index t x i => exact (y_index g hρ h).yield g
  | extract x i => exact (y_extract g hρ h).yield g
  | _ => simp [aval] at h

theorem aval_quiet (g : Good P σ w) {ρ : Operand → V} {ρ' : Operand → Value} (hρ : ∀ x, RV P σ w (ρ x) (ρ' x)) {o : Oper} {v : V} {st' : List Ob} (h : aval P ρ σ.st o = some (v, st')) (hq : quietOp o.op = true) : YieldS P σ ρ' w o v st' := by
  obtain ⟨dst, op, ty, pos, after, gd⟩ := o
  cases op with
  | move x => exact y_move g hρ h
  | assign x => exact y_assign g hρ h
  | pick c a b => exact y_pick g hρ h
  | build t ps => exact y_build g hρ h
  | load t x => exact y_load g hρ h
  | nilCheck x => exact y_nilCheck g hρ h
  | binOp op t x y t2 => exact y_binOp g hρ h
  | unOp op t x => exact y_unOp g hρ h
  | convert s d x => exact y_convert g hρ h
  | makeFunc f a b => exact y_makeFunc g hρ h
  | slice t x lo hi mx => exact y_slice g hρ h
  | fieldAddr t x i => exact y_fieldAddr g hρ h
  | field t x i => exact y_field g hρ h
  | indexAddr t x i => exact y_indexAddr g hρ h
  | index t x i => exact y_index g hρ h
  | extract x i => exact y_extract g hρ h
  | call c => simp [aval] at h
  | alloc t => simp [quietOp] at hq
  | box t x => simp [quietOp] at hq
  | buildSlice t n ps => simp [quietOp] at hq
  | store t x y => simp [quietOp] at hq
  | _ => simp [aval] at h

/-- Calls of functions are told. -/
def CS (P : Program) (C : CallK) : Prop := ∀ f args st K, C f args st K → ∀ (σ : Sg) (w : World) (us : List Value), σ.st = st → Good P σ w → RVl P σ w args us →
  Calls P f us.toArray w fun e w' => ∃ v u st' σ', e = .returned u ∧ K v st' ∧ σ'.st = st' ∧ Good P σ' w' ∧ Stp P σ σ' w w' ∧ RV P σ' w' v u

theorem RVl.maps {t : List V} {a : Act} (h : RT P σ w t a) : ∀ (xs : List Operand), RVl P σ w (xs.map (aev t)) (xs.map a.eval)
  | [] => by simp [RVl]
  | x :: xs => by simp only [List.map_cons, RVl]; exact ⟨_, _, rfl, h.eval x, RVl.maps h xs⟩

theorem callFunc_run {f : FuncId} {fn : Func} {args : Array Value} (hfn : P.funcs[f]? = some fn) (hbody : fn.body.isNone = false) (hname : (fn.name == "runtime.NumGoroutine") = false) : (callFunc f args).run P w = .ok (.enter f args) w := by
  unfold callFunc
  rw [Sem.run_bind, show (program : Sem Program).run P w = .ok P w from rfl, Result.andThen_ok]
  simp only [hfn, hname, hbody, Bool.false_eq_true, if_false]
  rfl

/-- An operation. -/
theorem aop_sound {C : CallK} (hC : CS P C) {o : Oper} {t : List V} {a : Act} {K : V → List Ob → Prop} (hF : ∀ f args st K, C f args st K → ∃ fn : Func, P.funcs[f]? = some fn ∧ fn.body.isNone = false ∧ (fn.name == "runtime.NumGoroutine") = false)
    (g : Good P σ w) (hr : RT P σ w t a) (h : aop P C o t σ.st K) {next : Act → World → Prop} {Q : Exit → Act → World → Prop}
    (hn : ∀ v u st' σ' w', K v st' → σ'.st = st' → Good P σ' w' → Stp P σ σ' w w' → RV P σ' w' v u → next (a.put o.dst u) w') : o.wp P a w next Q := by
  unfold aop at h
  unfold Oper.wp
  split at h
  · rename_i c hop
    unfold acall at h
    split at h
    · rename_i f hcal
      have hf := hr.eval f
      split at h
      · rename_i gf caps hff
        rw [hff] at hf
        simp only [RV] at hf
        obtain ⟨us, hfe, hcaps⟩ := hf
        obtain ⟨fn, hfn, hbody, hname⟩ := hF _ _ _ _ h
        have hargs := RVl.app (RVl.maps hr c.args.toList) hcaps
        have hc := hC _ _ _ _ h σ w _ rfl g hargs
        have hrun : (execOp a.eval o).run P w = .ok (.enter gf ((c.args.toList.map a.eval) ++ us).toArray) w := by
          have hmap : (c.args.map a.eval ++ us.toArray) = ((c.args.toList.map a.eval) ++ us).toArray := by
            apply Array.ext'
            simp
          simp only [execOp, hop, resolve, hcal, hfe, Deferred.ofValue, Sem.run_bind, Sem.run_pure, Result.andThen_ok, invoke, Array.empty_append, hmap]
          exact callFunc_run hfn hbody hname
        rw [hrun]
        simp only [Oper.upon]
        refine hc.mono fun e w' hh => ?_
        obtain ⟨v, u, st', σ', rfl, k1, k2, k3, k4, k5⟩ := hh
        exact hn v u st' σ' w' k1 k2 k3 k4 k5
      · exact h.elim
    · rename_i b hcal
      split at h
      · rename_i v st' hb
        obtain ⟨u, w', σ', k1, k2, k3, k4, k5⟩ := y_builtin (P := P) (ty := o.type) (cs := c.args.map fun | .const _ => true | _ => false) g (RVl.maps hr c.args.toList) hb
        have hrun : (execOp a.eval o).run P w = .ok (.value u) w' := by
          have hmap : (c.args.toList.map a.eval).toArray = c.args.map a.eval := by rw [← Array.toList_map, Array.toArray_toList]
          rw [hmap] at k1
          simp only [execOp, hop, resolve, hcal, Sem.run_bind, Sem.run_pure, Result.andThen_ok, invoke]
          exact k1
        rw [hrun]
        exact hn v u st' σ' w' h k2 k3 k4 k5
      · exact h.elim
    · exact h.elim
  · split at h
    · rename_i v st' hv
      obtain ⟨nx, u, w', σ', k1, k2, k3, k4, k5, k6⟩ := aval_sound g hr.eval hv
      rw [k1]
      rcases k2 with rfl | ⟨rfl, rfl⟩
      · exact hn v u st' σ' w' h k3 k4 k5 k6
      · exact hn v undef st' σ' w' h k3 k4 k5 k6
    · exact h.elim

theorem aops_sound {C : CallK} (hC : CS P C) (hF : ∀ f args st K, C f args st K → ∃ fn : Func, P.funcs[f]? = some fn ∧ fn.body.isNone = false ∧ (fn.name == "runtime.NumGoroutine") = false) {ops : Array Oper} {Q : Exit → Act → World → Prop} : ∀ (l : List Oper) (t : List V) (a : Act) (σ : Sg) (w : World) (K : List V → List Ob → Prop),
    aops P C ops l t σ.st K → Good P σ w → RT P σ w t a → (∀ t' st' σ' w' a', K t' st' → σ'.st = st' → Good P σ' w' → Stp P σ σ' w w' → RT P σ' w' t' a' → Q .normal a' w') → wpList P ops Q l a w
  | [], t, a, σ, w, K, h, g, hr, hq => by
    simp only [aops] at h
    exact hq _ _ _ _ _ h rfl g .refl hr
  | o :: l, t, a, σ, w, K, h, g, hr, hq => by
    simp only [aops] at h
    unfold wpList
    split at h
    · rename_i hw
      rw [if_pos (wanted_sound hr hw)]
      refine .inl (aop_sound hC hF g hr h fun v u st' σ' w' k1 k2 k3 k4 k5 => ?_)
      subst k2
      exact aops_sound hC hF l _ _ σ' w' K k1 k3 ((hr.mono k4).put o.dst k5) fun t' st' σ2 w2 a' q1 q2 q3 q4 q5 => hq t' st' σ2 w2 a' q1 q2 q3 (k4.trans q4) q5
    · rename_i hw
      rw [if_neg (by rw [wanted_sound hr hw]; simp)]
      exact aops_sound hC hF l _ _ σ w K h g (hr.put o.dst (by simp only [RV])) hq
    · exact h.elim

/-- A quiet operation. -/
theorem quiet_sound {C : CallK} {o : Oper} {t : List V} {a : Act} {K : V → List Ob → Prop} (hq : quietOp o.op = true) (g : Good P σ w) (hr : RT P σ w t a) (h : aop P C o t σ.st K) {next : Act → Prop}
    (hn : ∀ v u, K v σ.st → RV P σ w v u → next (a.put o.dst u)) : o.still P a w next := by
  unfold aop at h
  unfold Oper.still
  split at h
  · rename_i c hop
    unfold acall at h
    split at h
    · rename_i f hcal
      rw [hop] at hq
      obtain ⟨cal, args, ats⟩ := c
      simp only at hcal
      subst hcal
      simp [quietOp] at hq
    · rename_i b hcal
      split at h
      · rename_i v st' hb
        have hq2 : (b = .len ∨ b = .min ∨ b = .max) := by
          rw [hop] at hq
          obtain ⟨cal, args, ats⟩ := c
          simp only at hcal
          subst hcal
          cases b <;> simp [quietOp] at hq ⊢
        have hst := y_builtin_quiet (P := P) (ty := o.type) (cs := c.args.map fun | .const _ => true | _ => false) g (by rcases hq2 with rfl | rfl | rfl <;> simp) (RVl.maps hr c.args.toList) hb
        obtain ⟨rfl, u, k1, k5⟩ := hst
        have hrun : (execOp a.eval o).run P w = .ok (.value u) w := by
          have hmap : (c.args.toList.map a.eval).toArray = c.args.map a.eval := by rw [← Array.toList_map, Array.toArray_toList]
          rw [hmap] at k1
          simp only [execOp, hop, resolve, hcal, Sem.run_bind, Sem.run_pure, Result.andThen_ok, invoke]
          exact k1
        rw [hrun]
        exact ⟨rfl, hn v u h k5⟩
      · exact h.elim
    · exact h.elim
  · split at h
    · rename_i v st' hv
      obtain ⟨rfl, u, k1, k2⟩ := aval_quiet g hr.eval hv hq
      rw [k1]
      exact ⟨rfl, hn v u h k2⟩
    · exact h.elim

theorem still_sound {C : CallK} {ops : Array Oper} {Q : Act → Prop} (g : Good P σ w) : ∀ (l : List Oper) (t : List V) (a : Act) (K : List V → List Ob → Prop), (l.all fun o => quietOp o.op) = true →
    aops P C ops l t σ.st K → RT P σ w t a → (∀ t' a', K t' σ.st → RT P σ w t' a' → Q a') → wpStill P ops w Q l a
  | [], t, a, K, _, h, hr, hq => by
    simp only [aops] at h
    exact hq _ _ h hr
  | o :: l, t, a, K, hqq, h, hr, hq => by
    simp only [aops] at h
    simp only [List.all_cons, Bool.and_eq_true] at hqq
    unfold wpStill
    split at h
    · rename_i hw
      rw [if_pos (wanted_sound hr hw)]
      exact quiet_sound hqq.1 g hr h fun v u k1 k2 => still_sound g l _ _ K hqq.2 k1 (hr.put o.dst k2) hq
    · rename_i hw
      rw [if_neg (by rw [wanted_sound hr hw]; simp)]
      exact still_sound g l _ _ K hqq.2 h (hr.put o.dst (by simp only [RV])) hq
    · exact h.elim

theorem Good.drew (g : Good P σ w) (q : Nat) : Good P σ { w with drawn := q } :=
  ⟨fun id o h => RO.mono (Stp.drew q) rfl rfl rfl (g.1 id o h), g.2.1, g.2.2⟩

end
end Go.M
