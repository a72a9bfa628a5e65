/- The machine is sound: operations, regions, code. -/
import Derived.Test.YtpdhoicpaonggaaGreatMC
import Derived.Still
import Derived.LoopN
import Derived.LoopNIn
import Derived.OrdersIn
import Derived.TacticsIn
import Derived.RangeFuncLeaves
import Derived.RangeFuncRecord
import Derived.RangeFuncCalls
import Derived.RangeFuncNested
set_option linter.unusedVariables false
set_option linter.unusedSimpArgs false
set_option linter.unusedSectionVars false
namespace Go.M
open Go Go.RowKit
section
variable {P : Program} {σ σ' : Sg} {w w' w1 : World} {B : Nat} {ro : Option Nat}

theorem RVl.set : ∀ {t : List V} {us : List Value} {i : Nat} {x : V} {u : Value}, RVl P σ w t us → RV P σ w x u → RVl P σ w (t.set i x) (us.set i u)
  | [], us, i, x, u, h, hx => by simp only [RVl] at h; subst h; simp [RVl]
  | y :: t, us, 0, x, u, h, hx => by
    simp only [RVl] at h
    obtain ⟨v, us', rfl, _, h2⟩ := h
    simp only [List.set_cons_zero, RVl]
    exact ⟨u, us', rfl, hx, h2⟩
  | y :: t, us, i + 1, x, u, h, hx => by
    simp only [RVl] at h
    obtain ⟨v, us', rfl, h1, h2⟩ := h
    simp only [List.set_cons_succ, RVl]
    exact ⟨v, _, rfl, h1, RVl.set h2 hx⟩

def mark (D : Nat) : Deferred := { target := .collected D, args := #[] }
def MK (B : Nat) (σ : Sg) (w : World) (ds : List Deferred) : Prop := ∃ Ds : List Nat, ds = Ds.map mark ∧ Ds.Nodup ∧ ∀ D ∈ Ds, B ≤ D ∧ D < w.heap.size ∧ σ.L D = .frn ∧ w.heap[D]? = some (.deferred (some []))
theorem mark_inj : ∀ {a b : List Nat}, a.map mark = b.map mark → a = b
  | [], [], _ => rfl
  | [], _ :: _, h => by simp at h
  | _ :: _, [], h => by simp at h
  | x :: a, y :: b, h => by
    simp only [List.map_cons, List.cons.injEq, mark, Deferred.mk.injEq, Target.collected.injEq, and_true] at h
    rw [h.1, mark_inj h.2]
theorem MK.nil (B : Nat) (σ : Sg) (w : World) : MK B σ w [] := ⟨[], rfl, List.nodup_nil, fun D h => by cases h⟩
theorem MK.mono {B : Nat} (h : Stp P σ σ' w w') {ds : List Deferred} (k : MK B σ w ds) : MK B σ' w' ds := by
  obtain ⟨Ds, h1, h2, h3⟩ := k
  refine ⟨Ds, h1, h2, fun D hD => ?_⟩
  obtain ⟨k1, k2, k3, k4⟩ := h3 D hD
  obtain ⟨q1, q2⟩ := h.frn D k2 k3
  exact ⟨k1, Nat.lt_of_lt_of_le k2 h.size, q1, q2.trans k4⟩
def RT (P : Program) (B : Nat) (σ : Sg) (w : World) (t : List V) (a : Act) : Prop := RVl P σ w t a.tmps.toList ∧ MK B σ w a.defers

theorem RT.mono {B : Nat} (h : Stp P σ σ' w w') {t : List V} {a : Act} (hr : RT P B σ w t a) : RT P B σ' w' t a := ⟨RVl.mono h.toStq hr.1, hr.2.mono h⟩

theorem RT.get {t : List V} {a : Act} (h : RT P B σ w t a) (i : Nat) : RV P σ w (t.getD i .dead) (a.tmps.getD i undef) := by
  by_cases hi : i < t.length
  · obtain ⟨u, h1, h2⟩ := RVl.get h.1 (List.getElem?_eq_getElem hi)
    rw [List.getD_eq_getElem?_getD, List.getElem?_eq_getElem hi]
    rw [Array.getElem?_toList] at h1
    simp only [Array.getD_eq_getD_getElem?, h1, Option.getD_some]
    exact h2
  · rw [List.getD_eq_getElem?_getD, List.getElem?_eq_none (by omega)]
    simp [RV]

theorem RT.eval {t : List V} {a : Act} (h : RT P B σ w t a) (x : Operand) : RV P σ w (aev t x) (a.eval x) := by
  cases x with
  | tmp i => exact h.get i
  | const v => exact RV.ofVal v
  | global g => simp [aev, RV]
  | func f =>
    simp only [aev, Act.eval, RV]
    exact ⟨[], rfl, by simp [RVl]⟩

theorem RT.put {t : List V} {a : Act} (h : RT P B σ w t a) (d : Option Tmp) {v : V} {u : Value} (hv : RV P σ w v u) : RT P B σ w (aput t d v) (a.put d u) := by
  cases d with
  | none => exact h
  | some d =>
    refine ⟨?_, h.2⟩
    simp only [aput, Act.put, Array.toList_setIfInBounds]
    exact RVl.set h.1 hv

theorem wanted_sound {ops : Array Oper} {t : List V} {a : Act} {o : Oper} {b : Bool} (h : RT P B σ w t a) (hw : awanted ops t o = some b) : Region.wanted o (yielded ops a.tmps) = b := by
  unfold awanted at hw
  unfold Region.wanted
  cases hg : o.guard with
  | none => rw [hg] at hw; simpa using hw
  | some jw =>
    obtain ⟨j, want⟩ := jw
    rw [hg] at hw
    simp only at hw ⊢
    unfold yielded
    cases hd : (ops[j]?).bind (·.dst) with
    | none => rw [hd] at hw; simp at hw
    | some d =>
      rw [hd] at hw
      simp only [Option.bind_some] at hw ⊢
      have hr := h.get d
      split at hw
      · rename_i b' hb
        rw [hb] at hr
        simp only [RV] at hr
        have : a.tmps[d]? = some (.bool b') := by
          by_cases hlt : d < a.tmps.size
          · rw [Array.getD_eq_getD_getElem?, Array.getElem?_eq_getElem hlt, Option.getD_some] at hr
            rw [Array.getElem?_eq_getElem hlt, hr]
          · rw [Array.getD_eq_getD_getElem?, Array.getElem?_eq_none (Nat.le_of_not_lt hlt)] at hr
            simp [undef] at hr
        rw [this]
        simpa using hw
      · rename_i vs hb
        rw [hb] at hr
        simp only [RV] at hr
        cases hw
        by_cases hlt : d < a.tmps.size
        · rw [Array.getD_eq_getD_getElem?, Array.getElem?_eq_getElem hlt, Option.getD_some] at hr
          rw [Array.getElem?_eq_getElem hlt, hr]
          simp
        · rw [Array.getElem?_eq_none (Nat.le_of_not_lt hlt)]
          simp
      · cases hw

theorem aval_sound (g : Good P σ w) {ρ : Operand → V} {ρ' : Operand → Value} (hρ : ∀ x, RV P σ w (ρ x) (ρ' x)) {o : Oper} {v : V} {st' : List Ob} (h : aval P ρ σ.st o = some (v, st')) : Yield P σ ρ' w o v st' := by
  obtain ⟨dst, op, ty, pos, after, gd⟩ := o
  cases op with
  | move x => exact (y_move g hρ h).yield g
  | assign x => exact (y_assign g hρ h).yield g
  | pick c a b => exact (y_pick g hρ h).yield g
  | alloc t => exact y_alloc g h
  | box t x => exact y_box g hρ h
  | build t ps => exact (y_build g hρ h).yield g
  | buildSlice t n ps => exact y_buildSlice g hρ h
  | load t x => exact (y_load g hρ h).yield g
  | store t x y => exact y_store g hρ h
  | nilCheck x => exact (y_nilCheck g hρ h).yield g
  | binOp op t x y t2 => exact (y_binOp g hρ h).yield g
  | unOp op t x => exact (y_unOp g hρ h).yield g
  | convert s d x => exact (y_convert g hρ h).yield g
  | makeFunc f a b => exact (y_makeFunc g hρ h).yield g
  | slice t x lo hi mx => exact (y_slice g hρ h).yield g
  | fieldAddr t x i => exact (y_fieldAddr g hρ h).yield g
  | field t x i => exact (y_field g hρ h).yield g
  | indexAddr t x i => exact (y_indexAddr g hρ h).yield g
  | index t x i => exact (y_index g hρ h).yield g
  | extract x i => exact (y_extract g hρ h).yield g
  | makeMap t r => exact y_makeMap g hρ h
  | makeSlice t l c => exact y_makeSlice g hρ h
  | lookup t x k c => exact (y_lookup g hρ h).yield g
  | mapUpdate t x k y => exact y_mapUpdate g hρ h
  | _ => simp [aval] at h

theorem aval_quiet (g : Good P σ w) {ρ : Operand → V} {ρ' : Operand → Value} (hρ : ∀ x, RV P σ w (ρ x) (ρ' x)) {o : Oper} {v : V} {st' : List Ob} (h : aval P ρ σ.st o = some (v, st')) (hq : quietOp o.op = true) : YieldS P σ ρ' w o v st' := by
  obtain ⟨dst, op, ty, pos, after, gd⟩ := o
  cases op with
  | move x => exact y_move g hρ h
  | assign x => exact y_assign g hρ h
  | pick c a b => exact y_pick g hρ h
  | build t ps => exact y_build g hρ h
  | load t x => exact y_load g hρ h
  | nilCheck x => exact y_nilCheck g hρ h
  | binOp op t x y t2 => exact y_binOp g hρ h
  | unOp op t x => exact y_unOp g hρ h
  | convert s d x => exact y_convert g hρ h
  | makeFunc f a b => exact y_makeFunc g hρ h
  | slice t x lo hi mx => exact y_slice g hρ h
  | fieldAddr t x i => exact y_fieldAddr g hρ h
  | field t x i => exact y_field g hρ h
  | indexAddr t x i => exact y_indexAddr g hρ h
  | index t x i => exact y_index g hρ h
  | extract x i => exact y_extract g hρ h
  | lookup t x k c => exact y_lookup g hρ h
  | makeMap t r => simp [quietOp] at hq
  | makeSlice t l c => simp [quietOp] at hq
  | mapUpdate t x k y => simp [quietOp] at hq
  | call c => simp [aval] at h
  | alloc t => simp [quietOp] at hq
  | box t x => simp [quietOp] at hq
  | buildSlice t n ps => simp [quietOp] at hq
  | store t x y => simp [quietOp] at hq
  | _ => simp [aval] at h

def Wr (ro : Option Nat) : Fence := { Fence.wide with round := ro }
structure CS (P : Program) (C : CallK) : Prop where
  fn : ∀ f args st K, f ≠ P.funcs.size → C f args st K → ∀ (σ : Sg) (w : World) (us : List Value), σ.st = st → Good P σ w → RVl P σ w args us → CallsIn Fence.wide 0 P f us.toArray w (RK P K σ w)
  yl : ∀ id args st K, C P.funcs.size (.yl id :: args) st K → ∀ (σ : Sg) (w : World) (us : List Value), σ.st = st → Good P σ w → RVl P σ w args us →
    ∃ r, w.heap[σ.φ id]? = some (.loop r) ∧ us.length = r.params.size ∧ RoundIn Fence.wide 0 P (σ.φ id) r.fn ((r.params.zip us.toArray).foldl (fun tmps (t, a) => tmps.setIfInBounds t a) r.tmps) r.assign r.body w (RK P K σ w)

theorem RVl.maps {t : List V} {a : Act} (h : RT P B σ w t a) : ∀ (xs : List Operand), RVl P σ w (xs.map (aev t)) (xs.map a.eval)
  | [] => by simp [RVl]
  | x :: xs => by simp only [List.map_cons, RVl]; exact ⟨_, _, rfl, h.eval x, RVl.maps h xs⟩

theorem callFunc_run {f : FuncId} {fn : Func} {args : Array Value} (hfn : P.funcs[f]? = some fn) (hbody : fn.body.isNone = false) (hname : (fn.name == "runtime.NumGoroutine") = false) : (callFunc f args).run P w = .ok (.enter f args) w := by
  unfold callFunc
  rw [Sem.run_bind, show (program : Sem Program).run P w = .ok P w from rfl, Result.andThen_ok]
  simp only [hfn, hname, hbody, Bool.false_eq_true, if_false]
  rfl

theorem aop_sound {C : CallK} (hC : CS P C) {o : Oper} {t : List V} {a : Act} {K : V → List Ob → Prop} (hF : ∀ f args st K, f ≠ P.funcs.size → C f args st K → ∃ fn : Func, P.funcs[f]? = some fn ∧ fn.body.isNone = false ∧ (fn.name == "runtime.NumGoroutine") = false)
    (g : Good P σ w) (hr : RT P B σ w t a) (h : aop P C o t σ.st K) {next : Act → World → Prop} {Q : Exit → Act → World → Prop}
    (hn : ∀ v u st' σ' w', K v st' → σ'.st = st' → Good P σ' w' → Stp P σ σ' w w' → RV P σ' w' v u → next (a.put o.dst u) w') : o.wpIn (Wr ro) 0 P a w next Q := by
  refine ⟨fun _ _ => trivial, ?_⟩
  have hnd : ∀ c, o.op ≠ .defer c := fun c hc => by
    unfold aop at h
    rw [hc] at h
    simp [aval, hc] at h
  rw [Oper.semAt_eq _ _ _ hnd]
  unfold aop at h
  split at h
  · rename_i c hop
    unfold acall at h
    split at h
    · rename_i f hcal
      have hf := hr.eval f
      split at h
      · rename_i gf caps hff
        rw [hff] at hf
        simp only [RV] at hf
        obtain ⟨us, hfe, hcaps⟩ := hf
        split at h
        · exact h.elim
        rename_i hgs
        obtain ⟨fn, hfn, hbody, hname⟩ := hF _ _ _ _ hgs h
        have hargs := RVl.app (RVl.maps hr c.args.toList) hcaps
        have hc := hC.fn _ _ _ _ hgs h σ w _ rfl g hargs
        have hrun : (execOp a.eval o).run P w = .ok (.enter gf ((c.args.toList.map a.eval) ++ us).toArray) w := by
          have hmap : (c.args.map a.eval ++ us.toArray) = ((c.args.toList.map a.eval) ++ us).toArray := by
            apply Array.ext'
            simp
          simp only [execOp, hop, resolve, hcal, hfe, Deferred.ofValue, Sem.run_bind, Sem.run_pure, Result.andThen_ok, invoke, Array.empty_append, hmap]
          exact callFunc_run hfn hbody hname
        rw [hrun]
        refine ⟨fun h => (by simp [Wr, Fence.wide] at h), (show CallsIn Fence.wide 0 P gf _ w _ from hc.mono fun e w' hh => ?_)⟩
        obtain ⟨v, u, st', σ', rfl, k1, k2, k3, k4, k5⟩ := hh
        exact hn v u st' σ' w' k1 k2 k3 k4 k5
      · rename_i id hff
        rw [hff] at hf
        simp only [RV] at hf
        obtain ⟨hfe, _⟩ := hf
        obtain ⟨r, h1, h2, h3⟩ := hC.yl _ _ _ _ h σ w _ rfl g (RVl.maps hr c.args.toList)
        have hrun : (execOp a.eval o).run P w = .ok (.round (σ.φ id) r.fn ((r.params.zip (c.args.toList.map a.eval).toArray).foldl (fun tmps (t, a) => tmps.setIfInBounds t a) r.tmps) r.assign r.body) w := by
          have hmap : c.args.map a.eval = (c.args.toList.map a.eval).toArray := by
            apply Array.ext'
            simp
          simp only [execOp, hop, resolve, hcal, hfe, Deferred.ofValue, Sem.run_bind, Sem.run_pure, Result.andThen_ok, invoke, Array.empty_append, Array.append_empty, hmap]
          exact run_yield h1 (by rw [List.size_toArray]; exact h2)
        rw [hrun]
        refine ⟨fun h => (by simp [Wr, Fence.wide] at h), (show RoundIn Fence.wide 0 P (σ.φ id) _ _ _ _ w _ from h3.mono fun e w' hh => ?_)⟩
        obtain ⟨v, u, st', σ', rfl, k1, k2, k3, k4, k5⟩ := hh
        exact hn v u st' σ' w' k1 k2 k3 k4 k5
      · exact h.elim
    · rename_i b hcal
      split at h
      · rename_i v st' hb
        obtain ⟨u, w', σ', k1, k2, k3, k4, k5⟩ := y_builtin (P := P) (ty := o.type) (cs := c.args.map fun | .const _ => true | _ => false) g (RVl.maps hr c.args.toList) hb
        have hrun : (execOp a.eval o).run P w = .ok (.value u) w' := by
          have hmap : (c.args.toList.map a.eval).toArray = c.args.map a.eval := by rw [← Array.toList_map, Array.toArray_toList]
          rw [hmap] at k1
          simp only [execOp, hop, resolve, hcal, Sem.run_bind, Sem.run_pure, Result.andThen_ok, invoke]
          exact k1
        rw [hrun]
        exact hn v u st' σ' w' h k2 k3 k4 k5
      · split at h
        · rename_i v hm
          obtain ⟨_, u, k1, k5⟩ := y_mlen (P := P) (ty := o.type) (cs := c.args.map fun | .const _ => true | _ => false) g (RVl.maps hr c.args.toList) hm
          have hrun : (execOp a.eval o).run P w = .ok (.value u) w := by
            have hmap : (c.args.toList.map a.eval).toArray = c.args.map a.eval := by rw [← Array.toList_map, Array.toArray_toList]
            rw [hmap] at k1
            simp only [execOp, hop, resolve, hcal, Sem.run_bind, Sem.run_pure, Result.andThen_ok, invoke]
            exact k1
          rw [hrun]
          exact hn v u _ σ w h rfl g .refl k5
        · exact h.elim
    · exact h.elim
  · split at h
    · rename_i v st' hv
      obtain ⟨nx, u, w', σ', k1, k2, k3, k4, k5, k6⟩ := aval_sound g hr.eval hv
      rw [k1]
      rcases k2 with rfl | ⟨rfl, rfl⟩
      · exact hn v u st' σ' w' h k3 k4 k5 k6
      · exact hn v undef st' σ' w' h k3 k4 k5 k6
    · exact h.elim

theorem aops_sound {C : CallK} (hC : CS P C) (hF : ∀ f args st K, f ≠ P.funcs.size → C f args st K → ∃ fn : Func, P.funcs[f]? = some fn ∧ fn.body.isNone = false ∧ (fn.name == "runtime.NumGoroutine") = false) {ops : Array Oper} {Q : Exit → Act → World → Prop} : ∀ (l : List Oper) (t : List V) (a : Act) (σ : Sg) (w : World) (K : List V → List Ob → Prop),
    aops P C ops l t σ.st K → Good P σ w → RT P B σ w t a → (∀ t' st' σ' w' a', K t' st' → σ'.st = st' → Good P σ' w' → Stp P σ σ' w w' → RT P B σ' w' t' a' → Q .normal a' w') → wpListIn (Wr ro) 0 P ops Q l a w
  | [], t, a, σ, w, K, h, g, hr, hq => by
    simp only [aops] at h
    exact hq _ _ _ _ _ h rfl g .refl hr
  | o :: l, t, a, σ, w, K, h, g, hr, hq => by
    simp only [aops] at h
    unfold wpListIn
    split at h
    · rename_i hw
      rw [if_pos (wanted_sound hr hw)]
      refine aop_sound hC hF g hr h fun v u st' σ' w' k1 k2 k3 k4 k5 => ?_
      subst k2
      exact aops_sound hC hF l _ _ σ' w' K k1 k3 ((hr.mono k4).put o.dst k5) fun t' st' σ2 w2 a' q1 q2 q3 q4 q5 => hq t' st' σ2 w2 a' q1 q2 q3 (k4.trans q4) q5
    · rename_i hw
      rw [if_neg (by rw [wanted_sound hr hw]; simp)]
      exact ⟨fun _ _ => trivial, aops_sound hC hF l _ _ σ w K h g (hr.put o.dst (by simp only [RV])) hq⟩
    · exact h.elim

theorem quiet_sound {C : CallK} {o : Oper} {t : List V} {a : Act} {K : V → List Ob → Prop} (hq : quietOp o.op = true) (g : Good P σ w) (hr : RT P B σ w t a) (h : aop P C o t σ.st K) {next : Act → Prop}
    (hn : ∀ v u, K v σ.st → RV P σ w v u → next (a.put o.dst u)) : o.still P a w next := by
  unfold aop at h
  unfold Oper.still
  split at h
  · rename_i c hop
    unfold acall at h
    split at h
    · rename_i f hcal
      rw [hop] at hq
      obtain ⟨cal, args, ats⟩ := c
      simp only at hcal
      subst hcal
      simp [quietOp] at hq
    · rename_i b hcal
      split at h
      · rename_i v st' hb
        have hq2 : (b = .len ∨ b = .min ∨ b = .max) := by
          rw [hop] at hq
          obtain ⟨cal, args, ats⟩ := c
          simp only at hcal
          subst hcal
          cases b <;> simp [quietOp] at hq ⊢
        have hst := y_builtin_quiet (P := P) (ty := o.type) (cs := c.args.map fun | .const _ => true | _ => false) g (by rcases hq2 with rfl | rfl | rfl <;> simp) (RVl.maps hr c.args.toList) hb
        obtain ⟨rfl, u, k1, k5⟩ := hst
        have hrun : (execOp a.eval o).run P w = .ok (.value u) w := by
          have hmap : (c.args.toList.map a.eval).toArray = c.args.map a.eval := by rw [← Array.toList_map, Array.toArray_toList]
          rw [hmap] at k1
          simp only [execOp, hop, resolve, hcal, Sem.run_bind, Sem.run_pure, Result.andThen_ok, invoke]
          exact k1
        rw [hrun]
        exact ⟨rfl, hn v u h k5⟩
      · split at h
        · rename_i v hm
          obtain ⟨_, u, k1, k5⟩ := y_mlen (P := P) (ty := o.type) (cs := c.args.map fun | .const _ => true | _ => false) g (RVl.maps hr c.args.toList) hm
          have hrun : (execOp a.eval o).run P w = .ok (.value u) w := by
            have hmap : (c.args.toList.map a.eval).toArray = c.args.map a.eval := by rw [← Array.toList_map, Array.toArray_toList]
            rw [hmap] at k1
            simp only [execOp, hop, resolve, hcal, Sem.run_bind, Sem.run_pure, Result.andThen_ok, invoke]
            exact k1
          rw [hrun]
          exact ⟨rfl, hn v u h k5⟩
        · exact h.elim
    · exact h.elim
  · split at h
    · rename_i v st' hv
      obtain ⟨rfl, u, k1, k2⟩ := aval_quiet g hr.eval hv hq
      rw [k1]
      exact ⟨rfl, hn v u h k2⟩
    · exact h.elim

theorem still_sound {C : CallK} {ops : Array Oper} {Q : Act → Prop} (g : Good P σ w) : ∀ (l : List Oper) (t : List V) (a : Act) (K : List V → List Ob → Prop), (l.all fun o => quietOp o.op) = true →
    aops P C ops l t σ.st K → RT P B σ w t a → (∀ t' a', K t' σ.st → RT P B σ w t' a' → Q a') → wpStill P ops w Q l a
  | [], t, a, K, _, h, hr, hq => by
    simp only [aops] at h
    exact hq _ _ h hr
  | o :: l, t, a, K, hqq, h, hr, hq => by
    simp only [aops] at h
    simp only [List.all_cons, Bool.and_eq_true] at hqq
    unfold wpStill
    split at h
    · rename_i hw
      rw [if_pos (wanted_sound hr hw)]
      exact quiet_sound hqq.1 g hr h fun v u k1 k2 => still_sound g l _ _ K hqq.2 k1 (hr.put o.dst k2) hq
    · rename_i hw
      rw [if_neg (by rw [wanted_sound hr hw]; simp)]
      exact still_sound g l _ _ K hqq.2 h (hr.put o.dst (by simp only [RV])) hq
    · exact h.elim

theorem wpIn_of_still {o : Oper} {a : Act} {K : Act → Prop} {K' : Act → World → Prop} {Q' : Exit → Act → World → Prop} (hd : ∀ c, o.op ≠ .defer c) (h : ∀ a, K a → K' a w) (hh : o.still P a w K) : o.wpIn (Wr ro) 0 P a w K' Q' := by
  refine ⟨fun _ _ => trivial, ?_⟩
  rw [Oper.semAt_eq _ _ _ hd]
  unfold Oper.still at hh
  generalize (execOp a.eval o).run P w = r at *
  cases r with
  | ok n w' =>
    cases n <;> simp only [Oper.stillUpon] at hh <;> simp only [Oper.uponIn]
    case enter f args =>
      obtain ⟨rfl, v, hc, hn⟩ := hh
      refine ⟨fun h => (by simp [Wr, Fence.wide] at h), (show CallsIn Fence.wide 0 P f _ w' _ from callsIn_wide.2 (hc.mono fun e w'' ⟨he, hw⟩ => by subst he; subst hw; exact h _ hn))⟩
    all_goals (obtain ⟨rfl, h2⟩ := hh; exact h _ h2)
  | halt x w' => simp only [Oper.stillUpon] at hh

theorem Good.drew (g : Good P σ w) (q : Nat) : Good P σ { w with drawn := q } :=
  ⟨fun id o h => RO.mono (Stp.drew q).toStq rfl rfl rfl (g.1 id o h), g.2.1, g.2.2⟩

end
end Go.M
namespace Go.M
open Go Go.RowKit
section
variable {P : Program}

theorem map_pairs {ρ ρ' : Operand → V} {ps : Array (Nat × Operand)} (h : ∀ x ∈ (ps.toList.map (·.2)).toArray, ρ x = ρ' x) : (ps.toList.map fun (p : Nat × Operand) => (p.1, ρ p.2)) = (ps.toList.map fun (p : Nat × Operand) => (p.1, ρ' p.2)) := by
  apply List.map_congr_left
  intro p hp
  rw [h p.2 (by simp only [List.mem_toArray, List.mem_map]; exact ⟨p, hp, rfl⟩)]
theorem map_opt {ρ ρ' : Operand → V} {x : Option Operand} (h : ∀ y ∈ x.toArray, ρ y = ρ' y) : x.map ρ = x.map ρ' := by
  cases x with
  | none => rfl
  | some y => simp only [Option.map_some]; rw [h y (by simp)]

theorem aval_congr {ρ ρ' : Operand → V} {st : List Ob} {o : Oper} (h : ∀ x ∈ o.op.operands, ρ x = ρ' x) : aval P ρ st o = aval P ρ' st o := by
  obtain ⟨dst, op, ty, pos, after, gd⟩ := o
  simp only at h
  cases op with
  | build t ps => simp only [Op.operands] at h; simp only [aval, map_pairs h]
  | buildSlice t n ps => simp only [Op.operands] at h; simp only [aval, map_pairs h]
  | slice t x lo hi mx =>
    simp only [Op.operands, Array.mem_append] at h
    have h1 := h x (by simp)
    have h2 := map_opt (x := lo) fun y hy => h y (.inl (.inl (.inr hy)))
    have h3 := map_opt (x := hi) fun y hy => h y (.inl (.inr hy))
    have h4 := map_opt (x := mx) fun y hy => h y (.inr hy)
    simp only [aval, h1, h2, h3, h4]
  | makeFunc f first caps =>
    simp only [Op.operands, Array.mem_append] at h
    have : caps.toList.map ρ = caps.toList.map ρ' := List.map_congr_left fun x hx => h x (.inr (by simpa using hx))
    simp only [aval, this]
  | alloc t => simp only [aval]
  | move x => have h1 := h x (by simp [Op.operands]); simp only [aval, h1]
  | assign x => have h1 := h x (by simp [Op.operands]); simp only [aval, h1]
  | pick c a b => have h1 := h c (by simp [Op.operands]); have h2 := h a (by simp [Op.operands]); have h3 := h b (by simp [Op.operands]); simp only [aval, h1, h2, h3]
  | box t x => have h1 := h x (by simp [Op.operands]); simp only [aval, h1]
  | load t x => have h1 := h x (by simp [Op.operands]); simp only [aval, h1]
  | store t x y => have h1 := h x (by simp [Op.operands]); have h2 := h y (by simp [Op.operands]); simp only [aval, h1, h2]
  | nilCheck x => have h1 := h x (by simp [Op.operands]); simp only [aval, h1]
  | binOp op t x y t2 => have h1 := h x (by simp [Op.operands]); have h2 := h y (by simp [Op.operands]); simp only [aval, h1, h2]
  | unOp op t x => have h1 := h x (by simp [Op.operands]); simp only [aval, h1]
  | convert s d x => have h1 := h x (by simp [Op.operands]); simp only [aval, h1]
  | fieldAddr t x i => have h1 := h x (by simp [Op.operands]); simp only [aval, h1]
  | field t x i => have h1 := h x (by simp [Op.operands]); simp only [aval, h1]
  | indexAddr t x i => have h1 := h x (by simp [Op.operands]); have h2 := h i (by simp [Op.operands]); simp only [aval, h1, h2]
  | index t x i => have h1 := h x (by simp [Op.operands]); have h2 := h i (by simp [Op.operands]); simp only [aval, h1, h2]
  | extract x i => have h1 := h x (by simp [Op.operands]); simp only [aval, h1]
  | makeMap t r =>
    cases r with
    | none => simp only [aval]
    | some x =>
      have h1 : ρ x = ρ' x := h x (by simp [Op.operands])
      simp only [aval]
      cases P.underlying t with
      | none => rfl
      | some d => cases d <;> simp only [h1]
  | makeSlice t l c => have h1 := h l (by simp [Op.operands]); have h2 := h c (by simp [Op.operands]); simp only [aval, h1, h2]
  | lookup t x k c => have h1 := h x (by simp [Op.operands]); have h2 := h k (by simp [Op.operands]); simp only [aval, h1, h2]
  | mapUpdate t x k y => have h1 := h x (by simp [Op.operands]); have h2 := h k (by simp [Op.operands]); have h3 := h y (by simp [Op.operands]); simp only [aval, h1, h2, h3]
  | _ => simp only [aval]

theorem aobj_congr {ρ ρ' : Operand → V} {id : Nat} {o : Oper} (h : ∀ x ∈ o.op.operands, ρ x = ρ' x) : aobj P ρ id o = aobj P ρ' id o := by
  obtain ⟨dst, op, ty, pos, after, gd⟩ := o
  simp only at h
  cases op with
  | buildSlice t n ps => simp only [Op.operands] at h; simp only [aobj, map_pairs h]
  | box t x => have h1 := h x (by simp [Op.operands]); simp only [aobj, h1]
  | makeMap t r => cases r <;> simp only [aobj]
  | _ => simp only [aobj]

def Agree (ops : Array Oper) (o : Oper) (t t' : List V) : Prop := ∀ d ∈ o.looksAt ops, t.getD d .dead = t'.getD d .dead
theorem Agree.op {ops : Array Oper} {o : Oper} {t t' : List V} (h : Agree ops o t t') : ∀ x ∈ o.op.operands, aev t x = aev t' x := fun x hx => by
  cases x with
  | tmp d => exact h d (List.mem_append_left _ (List.mem_filterMap.2 ⟨.tmp d, by simpa using hx, rfl⟩))
  | _ => rfl
theorem Agree.wanted {ops : Array Oper} {o : Oper} {t t' : List V} (h : Agree ops o t t') : awanted ops t o = awanted ops t' o := by
  unfold awanted
  cases hg : o.guard with
  | none => rfl
  | some jw =>
    obtain ⟨j, want⟩ := jw
    simp only
    cases hd : (ops[j]?).bind (·.dst) with
    | none => rfl
    | some d =>
      simp only
      rw [h d (List.mem_append_right _ (by simp [hg, hd]))]

theorem call_args {c : Call} {ρ ρ' : Operand → V} (h : ∀ x ∈ c.operands, ρ x = ρ' x) : c.args.toList.map ρ = c.args.toList.map ρ' ∧ ∀ f, c.callee = .value f → ρ f = ρ' f := by
  obtain ⟨cal, args, ats⟩ := c
  refine ⟨List.map_congr_left fun x hx => h x ?_, fun f hf => h f ?_⟩
  · cases cal <;> simp [Call.operands] at hx ⊢ <;> simp [hx]
  · simp only at hf
    subst hf
    simp [Call.operands]

theorem qop_congr {ops : Array Oper} {o : Oper} {t t' : List V} {st : List Ob} (h : Agree ops o t t') : qop P o t st = qop P o t' st := by
  have ho := h.op
  unfold qop
  split
  · rename_i c hc
    rw [hc] at ho
    simp only [Op.operands] at ho
    rw [(call_args ho).1]
  · rw [aval_congr ho]

theorem aop_congr {C : CallK} {ops : Array Oper} {o : Oper} {t t' : List V} {st : List Ob} {K : V → List Ob → Prop} (h : Agree ops o t t') : aop P C o t st K = aop P C o t' st K := by
  have ho := h.op
  unfold aop
  split
  · rename_i c hc
    rw [hc] at ho
    simp only [Op.operands] at ho
    obtain ⟨h1, h2⟩ := call_args ho
    unfold acall
    split
    · rename_i f hf
      rw [h1, h2 f hf]
    · rw [h1]
    · rfl
  · rw [aval_congr ho]

def dstOf (ops : Array Oper) (i : Nat) : Option Tmp := (ops[i]?).bind (·.dst)
def TL (ops : Array Oper) (vs : Nat → V) (S : Nat → Bool) (t0 : List V) : Nat → List V
  | 0 => t0
  | i + 1 => if S i = true then aput (TL ops vs S t0 i) (dstOf ops i) (vs i) else TL ops vs S t0 i

variable {ops : Array Oper} {vs : Nat → V} {S S' : Nat → Bool} {t0 : List V}
theorem aput_len (t : List V) (d : Option Tmp) (v : V) : (aput t d v).length = t.length := by cases d <;> simp [aput]
theorem TL_len : ∀ n, (TL ops vs S t0 n).length = t0.length
  | 0 => rfl
  | n + 1 => by
    simp only [TL]
    split
    · rw [aput_len, TL_len n]
    · exact TL_len n
theorem aput_getD (t : List V) (d : Option Tmp) (v : V) (x : Nat) : (aput t d v).getD x .dead = if d = some x ∧ x < t.length then v else t.getD x .dead := by
  cases d with
  | none => simp [aput]
  | some d =>
    simp only [aput, List.getD_eq_getElem?_getD, List.getElem?_set]
    by_cases hx : d = x
    · subst hx
      by_cases hl : d < t.length
      · simp [hl]
      · simp [hl]
    · simp [hx]
theorem TL_agree {d : Nat} : ∀ n, (∀ i, i < n → dstOf ops i = some d → S i = S' i) → (TL ops vs S t0 n).getD d .dead = (TL ops vs S' t0 n).getD d .dead
  | 0, _ => rfl
  | n + 1, h => by
    have ih := TL_agree n fun i hi => h i (by omega)
    have key : ∀ S'' : Nat → Bool, (TL ops vs S'' t0 (n + 1)).getD d .dead = if S'' n = true ∧ dstOf ops n = some d ∧ d < t0.length then vs n else (TL ops vs S'' t0 n).getD d .dead := fun S'' => by
      simp only [TL]
      split
      · rename_i hs
        rw [aput_getD, TL_len]
        simp [hs]
      · rename_i hs
        simp [hs]
    rw [key S, key S', ih]
    by_cases hd : dstOf ops n = some d
    · rw [h n (by omega) hd]
    · simp [hd]
theorem TL_congr : ∀ n, (∀ i, i < n → S i = S' i) → TL ops vs S t0 n = TL ops vs S' t0 n
  | 0, _ => rfl
  | n + 1, h => by simp only [TL]; rw [TL_congr n fun i hi => h i (by omega), h n (by omega)]
theorem TL_vs {vs' : Nat → V} : ∀ n, (∀ i, i < n → vs i = vs' i) → TL ops vs S t0 n = TL ops vs' S t0 n
  | 0, _ => rfl
  | n + 1, h => by simp only [TL]; rw [TL_vs n fun i hi => h i (by omega), h n (by omega)]
theorem TL_stop {m : Nat} : ∀ n, m ≤ n → (∀ i, m ≤ i → i < n → S i = false) → TL ops vs S t0 n = TL ops vs S t0 m
  | 0, hm, _ => by rw [show m = 0 by omega]
  | n + 1, hm, h => by
    by_cases hmn : m = n + 1
    · rw [hmn]
    · simp only [TL]
      rw [h n (by omega) (by omega)]
      simp only [Bool.false_eq_true, if_false]
      exact TL_stop n (by omega) fun i h1 h2 => h i h1 (by omega)
theorem aput_comm (t : List V) {d d' : Option Tmp} (v v' : V) (h : ∀ x, d = some x → d' ≠ some x) : aput (aput t d v) d' v' = aput (aput t d' v') d v := by
  cases d with
  | none => simp [aput]
  | some x =>
    cases d' with
    | none => simp [aput]
    | some y => exact List.set_comm _ _ (fun he => h x rfl (by rw [he]))
theorem TL_set {i : Nat} (hi : S i = false) (hS : ∀ j, j ≠ i → S' j = S j) (hS' : S' i = true) : ∀ n, i < n → (∀ j, i < j → j < n → S j = true → ∀ x, dstOf ops i = some x → dstOf ops j ≠ some x) →
    TL ops vs S' t0 n = aput (TL ops vs S t0 n) (dstOf ops i) (vs i)
  | 0, h, _ => by omega
  | n + 1, h, hd => by
    by_cases hn : i = n
    · subst hn
      simp only [TL, hi, hS', if_true, Bool.false_eq_true, if_false]
      rw [TL_congr i fun j hj => hS j (by omega)]
    · have ih := TL_set hi hS hS' n (by omega) fun j h1 h2 => hd j h1 (by omega)
      simp only [TL]
      rw [hS n (Ne.symm hn), ih]
      split
      · rename_i hs
        exact aput_comm _ _ _ (hd n (by omega) (by omega) hs)
      · rfl
end
end Go.M
namespace Go.M
open Go Go.RowKit
section
variable {P : Program} {ops : Array Oper}

def isAt (f : Op → Bool) (ops : Array Oper) (i : Nat) : Bool := match ops[i]? with
  | some o => f o.op
  | none => false
def cnt (f : Op → Bool) (ops : Array Oper) (i : Nat) : Nat := ((List.range i).filter (isAt f ops)).length
theorem idxs_eq (f : Op → Bool) : idxs f ops = (List.range ops.size).filter (isAt f ops) := rfl
theorem cnt_succ {f : Op → Bool} (i : Nat) : cnt f ops (i + 1) = cnt f ops i + if isAt f ops i = true then 1 else 0 := by
  unfold cnt
  rw [List.range_succ, List.filter_append, List.length_append]
  by_cases h : isAt f ops i = true <;> simp [h]
theorem cnt_mono {f : Op → Bool} {i j : Nat} (h : i ≤ j) : cnt f ops i ≤ cnt f ops j := by
  obtain ⟨k, rfl⟩ := Nat.exists_eq_add_of_le h
  clear h
  induction k with
  | zero => simp
  | succ k ih => rw [← Nat.add_assoc, cnt_succ]; omega
theorem isAt_lt {f : Op → Bool} {i : Nat} (h : isAt f ops i = true) : i < ops.size := by
  unfold isAt at h
  cases ho : ops[i]? with
  | none => rw [ho] at h; cases h
  | some o => exact (Array.getElem?_eq_some_iff.1 ho).1
theorem idxs_cnt {f : Op → Bool} {i : Nat} (h : isAt f ops i = true) : (idxs f ops)[cnt f ops i]? = some i := by
  have hlt := isAt_lt h
  rw [idxs_eq]
  obtain ⟨k, hk⟩ := Nat.exists_eq_add_of_le hlt
  rw [hk, List.range_add, List.filter_append, List.range_succ, List.filter_append, List.append_assoc]
  unfold cnt
  rw [List.getElem?_append_right (Nat.le_refl _), Nat.sub_self]
  simp [h]
theorem idxs_spec {f : Op → Bool} {k j : Nat} (h : (idxs f ops)[k]? = some j) : isAt f ops j = true ∧ cnt f ops j = k := by
  have hm := List.mem_of_getElem? h
  rw [idxs_eq, List.mem_filter] at hm
  refine ⟨hm.2, ?_⟩
  have h2 := idxs_cnt hm.2
  have hnd : (idxs f ops).Nodup := by rw [idxs_eq]; exact List.Pairwise.filter _ List.nodup_range
  have hl := (List.getElem?_eq_some_iff.1 h).1
  have hl2 := (List.getElem?_eq_some_iff.1 h2).1
  have e1 := (List.getElem?_eq_some_iff.1 h).2
  have e2 := (List.getElem?_eq_some_iff.1 h2).2
  rcases Nat.lt_trichotomy (cnt f ops j) k with hlt | heq | hlt
  · exact absurd (e2.trans e1.symm) (List.pairwise_iff_getElem.1 hnd _ _ hl2 hl hlt)
  · exact heq
  · exact absurd (e1.trans e2.symm) (List.pairwise_iff_getElem.1 hnd _ _ hl hl2 hlt)
theorem cnt_inj {f : Op → Bool} {i j : Nat} (hi : isAt f ops i = true) (hj : isAt f ops j = true) (h : cnt f ops i = cnt f ops j) : i = j := by
  have h1 := idxs_cnt hi
  have h2 := idxs_cnt hj
  rw [h, h2] at h1
  cases h1
  rfl
theorem cnt_all (f : Op → Bool) : cnt f ops ops.size = (idxs f ops).length := rfl
theorem cnt_at {f : Op → Bool} {k : Nat} (h : k < cnt f ops ops.size) : ∃ j, isAt f ops j = true ∧ cnt f ops j = k := by
  rw [cnt_all] at h
  exact ⟨_, idxs_spec (List.getElem?_eq_getElem h)⟩
theorem cnt_lt {f : Op → Bool} {i j : Nat} (hi : isAt f ops i = true) (h : i < j) : cnt f ops i < cnt f ops j := by
  have h1 := cnt_mono (f := f) (ops := ops) (show i + 1 ≤ j from h)
  rw [cnt_succ, if_pos hi] at h1
  omega

def Fact (P : Program) (C : CallK) (ops : Array Oper) (plan : List PI) (base : Nat) (t0 : List V) (vs : Nat → V) (ss : Nat → List Ob) (xs : List (Option Ob)) (i : Nat) (o : Oper) (p : PI) : Prop :=
  (awanted ops (TL ops vs (fun _ => true) t0 i) o = some false ∧ vs i = .sc undef ∧ (isE o.op = true → ss (cnt isE ops i + 1) = ss (cnt isE ops i)) ∧ (isA o.op = true → xs[cnt isA ops i]? = some none)) ∨
  (awanted ops (TL ops vs (fun _ => true) t0 i) o = some true ∧ (
    (isA o.op = true ∧ ∃ X, aobj P (aev (TL ops vs (fun _ => true) t0 i)) (base + cnt isA ops i) o = some (vs i, X) ∧ xs[cnt isA ops i]? = some (some X)) ∨
    (isA o.op = false ∧ quietOp o.op = true ∧ ∀ k, p.lo ≤ k → k ≤ cnt isE ops i → qop P o (TL ops vs (fun _ => true) t0 i) (over (ovOf base xs p.needs) (ss k)) = some (vs i)) ∨
    (isA o.op = false ∧ quietOp o.op = false ∧ KG1 (over (ovOf base xs p.needs) (ss (cnt isE ops i))) (ss (cnt isE ops i + 1)) ∧ (ss (cnt isE ops i)).length ≤ (ss (cnt isE ops i + 1)).length ∧
      (∀ ov (K' : V → List Ob → Prop), Fine ov (ss (cnt isE ops i)).length → K' (vs i) (over ov (ss (cnt isE ops i + 1))) → aop P C o (TL ops vs (fun _ => true) t0 i) (over ov (over (ovOf base xs p.needs) (ss (cnt isE ops i)))) K') ∧
      (Grw (over (ovOf base xs p.needs) (ss (cnt isE ops i))) (ss (cnt isE ops i + 1)) ∨
        ∀ q ∈ p.stab, ∀ oq pq, ops[q]? = some oq → plan[q]? = some pq → q < i → (∀ a ∈ pq.needs, a < cnt isA ops q) → quietOp oq.op = true ∧ (awanted ops (TL ops vs (fun _ => true) t0 i) oq = some true → match oq.dst with
          | some d => d < (TL ops vs (fun _ => true) t0 i).length ∧ qop P oq (TL ops vs (fun _ => true) t0 i) (over (ovOf base xs pq.needs) (ss (cnt isE ops i + 1))) = some ((TL ops vs (fun _ => true) t0 i).getD d .dead)
          | none => False)))))

theorem ovOf_app {base : Nat} {xs ys : List (Option Ob)} {needs : List Nat} (h : ∀ a ∈ needs, a < xs.length) : ovOf base (xs ++ ys) needs = ovOf base xs needs := by
  funext i
  unfold ovOf
  split
  · rename_i hc
    rw [List.getElem?_append_left (h _ hc.2)]
  · rfl

theorem pend_all {plan : List PI} {base : Nat} {xs : List (Option Ob)} {t : List V} {st : List Ob} : ∀ {l : List Nat}, pendOK P ops plan base xs t st l → ∀ q ∈ l, ∀ oq pq, ops[q]? = some oq → plan[q]? = some pq →
    quietOp oq.op = true ∧ (awanted ops t oq = some true → match oq.dst with
      | some d => d < t.length ∧ qop P oq t (patch base xs pq.needs st) = some (t.getD d .dead)
      | none => False)
  | [], _, q, hq => by cases hq
  | a :: r, h, q, hq => by
    intro oq pq h1 h2
    simp only [pendOK] at h
    rcases List.mem_cons.1 hq with rfl | hq
    · have := h.1
      simp only [h1, h2] at this
      exact this
    · exact pend_all h.2 q hq oq pq h1 h2

theorem extract {C : CallK} (hC : CF C) {plan : List PI} {base : Nat} {t0 : List V} (hlen : plan.length = ops.size) (hneeds : ∀ (i : Nat) (p : PI), plan[i]? = some p → ∀ a ∈ p.needs, a < cnt isA ops i) :
    ∀ (l : List Oper) (ps : List PI) (i : Nat) (st : List Ob) (hs : List (List Ob)) (xs : List (Option Ob)) (K : List V → List Ob → Prop) (vs0 : List V),
      (∀ j, l[j]? = ops[i + j]?) → (∀ j, ps[j]? = plan[i + j]?) → vs0.length = i → i ≤ ops.size → hs.length = cnt isE ops i → xs.length = cnt isA ops i → NoGone xs →
      adraw P C ops plan base l ps (TL ops (fun j => vs0.getD j .dead) (fun _ => true) t0 i) st hs xs K →
      ∃ (vs1 : List V) (ss1 : List (List Ob)) (xs1 : List (Option Ob)), NoGone (xs ++ xs1) ∧ (xs ++ xs1).length = cnt isA ops ops.size ∧
        K (TL ops (fun j => (vs0 ++ vs1).getD j .dead) (fun _ => true) t0 ops.size) (over (ovOf base (xs ++ xs1) (List.range (xs ++ xs1).length)) ((hs ++ st :: ss1).getD (cnt isE ops ops.size) [])) ∧
        ∀ j o p, i ≤ j → ops[j]? = some o → plan[j]? = some p → Fact P C ops plan base t0 (fun j => (vs0 ++ vs1).getD j .dead) (fun k => (hs ++ st :: ss1).getD k []) (xs ++ xs1) j o p := by
  intro l
  induction l with
  | nil =>
    intro ps i st hs xs K vs0 hl hps hv hi hh hx hg h
    have hi' : i = ops.size := by
      have := (hl 0).symm
      simp only [List.getElem?_nil, Nat.add_zero, Array.getElem?_eq_none_iff] at this
      omega
    subst hi'
    refine ⟨[], [], [], by simpa using hg, by simpa using hx, ?_, fun j o p h1 h2 h3 => ?_⟩
    · have h' : K (TL ops (fun j => vs0.getD j .dead) (fun _ => true) t0 ops.size) (patch base xs (List.range xs.length) st) := by cases ps <;> simpa [adraw] using h
      rw [patch_over hg] at h'
      have e1 : (hs ++ [st]).getD (cnt isE ops ops.size) [] = st := by rw [← hh]; simp
      simp only [List.append_nil, e1]
      exact h'
    · have := (Array.getElem?_eq_some_iff.1 h2).1; omega
  | cons o l ih =>
    intro ps i st hs xs K vs0 hl hps hv hi hh hx hg h
    have ho : ops[i]? = some o := by simpa using (hl 0).symm
    have hlt := (Array.getElem?_eq_some_iff.1 ho).1
    have hl' : ∀ j, l[j]? = ops[i + 1 + j]? := fun j => by have := hl (j + 1); simpa [Nat.add_assoc, Nat.add_comm 1 j] using this
    cases ps with
    | nil =>
      have := (hps 0).symm
      simp only [List.getElem?_nil, Nat.add_zero, List.getElem?_eq_none_iff] at this
      omega
    | cons p ps =>
      have hp : plan[i]? = some p := by simpa using (hps 0).symm
      have hps' : ∀ j, ps[j]? = plan[i + 1 + j]? := fun j => by have := hps (j + 1); simpa [Nat.add_assoc, Nat.add_comm 1 j] using this
      have hTL : ∀ v, aput (TL ops (fun j => vs0.getD j .dead) (fun _ => true) t0 i) o.dst v = TL ops (fun j => (vs0 ++ [v]).getD j .dead) (fun _ => true) t0 (i + 1) := fun v => by
        simp only [TL, if_true]
        rw [TL_vs (vs := fun j => (vs0 ++ [v]).getD j .dead) (vs' := fun j => vs0.getD j .dead) i fun j hj => by simp only [List.getD_eq_getElem?_getD]; rw [List.getElem?_append_left (by omega)]]
        have : dstOf ops i = o.dst := by simp [dstOf, ho]
        rw [this, ← hv]
        simp
      have hTi : ∀ v vs1, TL ops (fun j => ((vs0 ++ [v]) ++ vs1).getD j .dead) (fun _ => true) t0 i = TL ops (fun j => vs0.getD j .dead) (fun _ => true) t0 i := fun v vs1 =>
        TL_vs i fun j hj => by simp only [List.getD_eq_getElem?_getD]; rw [List.append_assoc, List.getElem?_append_left (by omega)]
      have hvi : ∀ v vs1, ((vs0 ++ [v]) ++ vs1).getD i .dead = v := fun v vs1 => by
        rw [List.append_assoc, List.getD_eq_getElem?_getD, List.getElem?_append_right (by omega), hv, Nat.sub_self]; rfl
      have hatE : isAt isE ops i = isE o.op := by simp [isAt, ho]
      have hatA : isAt isA ops i = isA o.op := by simp [isAt, ho]
      have hst : ∀ ss1 : List (List Ob), (hs ++ st :: ss1).getD (cnt isE ops i) [] = st := fun ss1 => by rw [← hh]; simp
      have hst' : ∀ (st' : List Ob) (ss1 : List (List Ob)), ((hs ++ [st]) ++ st' :: ss1).getD (cnt isE ops i) [] = st := fun st' ss1 => by rw [← hh]; simp
      have hst2 : ∀ (st' : List Ob) (ss1 : List (List Ob)), ((hs ++ [st]) ++ st' :: ss1).getD (cnt isE ops i + 1) [] = st' := fun st' ss1 => by
        rw [← hh, List.getD_eq_getElem?_getD, List.getElem?_append_right (by simp)]; simp
      simp only [adraw] at h
      split at h
      · rename_i hw
        split at h
        · rename_i hA
          split at h
          · rename_i v X hX
            rw [hTL] at h
            obtain ⟨vs1, ss1, xs1, h1, h2, h3, h4⟩ := ih ps (i + 1) st hs (xs ++ [some X]) K (vs0 ++ [v]) hl' hps' (by simp [hv]) hlt (by rw [cnt_succ, hatE, hh]; simp [isE, hA]) (by rw [cnt_succ, hatA, hA]; simp [hx]) (hg.snoc (by simpa using aobj_ng hX)) h
            rw [List.append_assoc xs] at h1 h2 h3
            refine ⟨[v] ++ vs1, ss1, [some X] ++ xs1, h1, h2, ?_, fun j o' p' hj ho' hp' => ?_⟩
            · rw [← List.append_assoc]; exact h3
            · rw [← List.append_assoc, ← List.append_assoc]
              by_cases hji : j = i
              · subst hji
                rw [ho] at ho'; rw [hp] at hp'; cases ho'; cases hp'
                refine .inr ⟨by rw [hTi]; exact hw, .inl ⟨hA, X, ?_, ?_⟩⟩
                · rw [hTi]; dsimp only; rw [hvi, ← hx]; exact hX
                · rw [List.append_assoc, ← hx]; simp
              · exact h4 j o' p' (by omega) ho' hp'
          · exact h.elim
        · rename_i hA
          split at h
          · rename_i hQ
            split at h
            · rename_i v hv'
              obtain ⟨hm, h⟩ := h
              rw [hTL] at h
              obtain ⟨vs1, ss1, xs1, h1, h2, h3, h4⟩ := ih ps (i + 1) st hs xs K (vs0 ++ [v]) hl' hps' (by simp [hv]) hlt (by rw [cnt_succ, hatE, hh]; simp [isE, hQ]) (by rw [cnt_succ, hatA, hx]; simp [hA]) hg h
              refine ⟨[v] ++ vs1, ss1, xs1, h1, h2, ?_, fun j o' p' hj ho' hp' => ?_⟩
              · rw [← List.append_assoc]; exact h3
              · rw [← List.append_assoc]
                by_cases hji : j = i
                · subst hji
                  rw [ho] at ho'; rw [hp] at hp'; cases ho'; cases hp'
                  refine .inr ⟨by rw [hTi]; exact hw, .inr (.inl ⟨by simpa using hA, hQ, fun k k1 k2 => ?_⟩)⟩
                  rw [hTi]
                  dsimp only
                  rw [hvi, ovOf_app (fun a ha => by rw [hx]; exact hneeds _ _ hp a ha), ← patch_over hg]
                  by_cases hk : k = cnt isE ops j
                  · subst hk; rw [hst]; exact hv'
                  · have hkl : k < hs.length := by omega
                    by_cases hmm : memOp o.op = true
                    · refine hm hmm _ ?_
                      rw [List.getD_eq_getElem?_getD, List.getElem?_append_left hkl, List.getElem?_eq_getElem hkl, Option.getD_some]
                      rw [List.mem_iff_getElem?]
                      exact ⟨k - p.lo, by rw [List.getElem?_drop, show p.lo + (k - p.lo) = k by omega, List.getElem?_eq_getElem hkl]⟩
                    · exact qop_any hQ (by simpa using hmm) hv'
                · exact h4 j o' p' (by omega) ho' hp'
            · exact h.elim
          · rename_i hQ
            have hE : isE o.op = true := by simp [isE, hA, hQ]
            obtain ⟨v, st1, ⟨k0, k1⟩, k2, k3, k4⟩ := aop_CF hC h
            rw [hTL] at k1
            rw [patch_len hg] at k3 k4
            obtain ⟨vs1, ss1, xs1, h1, h2, h3, h4⟩ := ih ps (i + 1) st1 (hs ++ [st]) xs K (vs0 ++ [v]) hl' hps' (by simp [hv]) hlt (by rw [cnt_succ, hatE, hE]; simp [hh]) (by rw [cnt_succ, hatA, hx]; simp [hA]) hg k1
            refine ⟨[v] ++ vs1, st1 :: ss1, xs1, h1, h2, ?_, fun j o' p' hj ho' hp' => ?_⟩
            · rw [← List.append_assoc, show hs ++ st :: st1 :: ss1 = (hs ++ [st]) ++ st1 :: ss1 by simp]; exact h3
            · rw [← List.append_assoc, show hs ++ st :: st1 :: ss1 = (hs ++ [st]) ++ st1 :: ss1 by simp]
              by_cases hji : j = i
              · subst hji
                rw [ho] at ho'; rw [hp] at hp'; cases ho'; cases hp'
                have hov := ovOf_app (base := base) (xs := xs) (ys := xs1) (needs := p.needs) (fun a ha => by rw [hx]; exact hneeds _ _ hp a ha)
                refine .inr ⟨by rw [hTi]; exact hw, .inr (.inr ⟨by simpa using hA, by simpa using hQ, ?_, ?_, ?_, ?_⟩)⟩
                · dsimp only; rw [hst', hst2, hov, ← patch_over hg]; exact k2
                · dsimp only; rw [hst', hst2]; exact k3
                · intro ov K' hf hk
                  dsimp only; rw [hst', hTi, hov, ← patch_over hg]
                  dsimp only at hf hk
                  rw [hst'] at hf
                  rw [hst2, hvi] at hk
                  exact k4 ov K' hf hk
                · dsimp only; rw [hst', hst2, hov, ← patch_over hg]
                  rcases k0 with k0 | k0
                  · exact .inl k0
                  · refine .inr fun q hq oq pq hoq hpq hqi hn => ?_
                    obtain ⟨j1, j2⟩ := pend_all k0 q hq oq pq hoq hpq
                    refine ⟨j1, fun hw' => ?_⟩
                    rw [hTi] at hw' ⊢
                    rw [ovOf_app (fun a ha => by have := hn a ha; have := cnt_mono (f := isA) (ops := ops) (Nat.le_of_lt hqi); omega), ← patch_over hg]
                    exact j2 hw'
              · exact h4 j o' p' (by omega) ho' hp'
      · rename_i hw
        rw [hTL] at h
        by_cases hE : isE o.op = true
        · have hA : isA o.op = false := by simp only [isE, Bool.and_eq_true, Bool.not_eq_true'] at hE; exact hE.2
          simp only [hE, hA, if_true, Bool.false_eq_true, if_false] at h
          obtain ⟨vs1, ss1, xs1, h1, h2, h3, h4⟩ := ih ps (i + 1) st (hs ++ [st]) xs K (vs0 ++ [.sc undef]) hl' hps' (by simp [hv]) hlt (by rw [cnt_succ, hatE, hE]; simp [hh]) (by rw [cnt_succ, hatA, hx]; simp [hA]) hg h
          refine ⟨[.sc undef] ++ vs1, st :: ss1, xs1, h1, h2, ?_, fun j o' p' hj ho' hp' => ?_⟩
          · rw [← List.append_assoc, show hs ++ st :: st :: ss1 = (hs ++ [st]) ++ st :: ss1 by simp]; exact h3
          · rw [← List.append_assoc, show hs ++ st :: st :: ss1 = (hs ++ [st]) ++ st :: ss1 by simp]
            by_cases hji : j = i
            · subst hji
              rw [ho] at ho'; rw [hp] at hp'; cases ho'; cases hp'
              exact .inl ⟨by rw [hTi]; exact hw, hvi _ _, fun _ => by dsimp only; rw [hst', hst2], fun hA' => by rw [hA] at hA'; cases hA'⟩
            · exact h4 j o' p' (by omega) ho' hp'
        · by_cases hA : isA o.op = true
          · simp only [hE, hA, if_true, Bool.false_eq_true, if_false] at h
            obtain ⟨vs1, ss1, xs1, h1, h2, h3, h4⟩ := ih ps (i + 1) st hs (xs ++ [none]) K (vs0 ++ [.sc undef]) hl' hps' (by simp [hv]) hlt (by rw [cnt_succ, hatE, hh]; simp [hE]) (by rw [cnt_succ, hatA, hA]; simp [hx]) (hg.snoc (by simp)) h
            rw [List.append_assoc xs] at h1 h2 h3
            refine ⟨[.sc undef] ++ vs1, ss1, [none] ++ xs1, h1, h2, ?_, fun j o' p' hj ho' hp' => ?_⟩
            · rw [← List.append_assoc]; exact h3
            · rw [← List.append_assoc, ← List.append_assoc]
              by_cases hji : j = i
              · subst hji
                rw [ho] at ho'; rw [hp] at hp'; cases ho'; cases hp'
                exact .inl ⟨by rw [hTi]; exact hw, hvi _ _, fun hE' => absurd hE' hE, fun _ => by rw [List.append_assoc, ← hx]; simp⟩
              · exact h4 j o' p' (by omega) ho' hp'
          · simp only [hE, hA, if_true, Bool.false_eq_true, if_false] at h
            obtain ⟨vs1, ss1, xs1, h1, h2, h3, h4⟩ := ih ps (i + 1) st hs xs K (vs0 ++ [.sc undef]) hl' hps' (by simp [hv]) hlt (by rw [cnt_succ, hatE, hh]; simp [hE]) (by rw [cnt_succ, hatA, hx]; simp [hA]) hg h
            refine ⟨[.sc undef] ++ vs1, ss1, xs1, h1, h2, ?_, fun j o' p' hj ho' hp' => ?_⟩
            · rw [← List.append_assoc]; exact h3
            · rw [← List.append_assoc]
              by_cases hji : j = i
              · subst hji
                rw [ho] at ho'; rw [hp] at hp'; cases ho'; cases hp'
                exact .inl ⟨by rw [hTi]; exact hw, hvi _ _, fun hE' => absurd hE' hE, fun hA' => absurd hA' hA⟩
              · exact h4 j o' p' (by omega) ho' hp'
      · exact h.elim
end
end Go.M
namespace Go.M
open Go Go.RowKit

def Closed (ops : Array Oper) (listed : Array Bool) : Prop := ∀ (j : Nat), listed.getD j false = true → ∀ e ∈ directs ops j, listed.getD e false = true

structure PlanP (ops : Array Oper) (plan : List PI) (R : List (List Nat)) : Prop where
  len : plan.length = ops.size
  nosel : Region.noSelect ops = true
  back : ∀ (i : Nat), i < ops.size → ∀ e ∈ directs ops i, e < i
  table : ∀ (i : Nat), i < ops.size → ∀ j ∈ R.getD i [], ∃ e ∈ directs ops i, e = j ∨ j ∈ R.getD e []
  pair : ∀ (i j : Nat) (x y : Oper), i < j → ops[i]? = some x → ops[j]? = some y → i ∈ directs ops j ∨ x.apart ops y = true
  needs : ∀ (i : Nat) (p : PI), plan[i]? = some p → ∀ a ∈ p.needs, ∃ j, (idxs isA ops)[a]? = some j ∧ j ∈ R.getD i []
  lo : ∀ (i : Nat) (p : PI), plan[i]? = some p → p.lo = 0 ∨ ∃ j, (idxs isE ops)[p.lo - 1]? = some j ∧ j ∈ R.getD i []
  chain : ∀ (i : Nat), isAt isE ops i = true → ∀ j ∈ idxs isE ops, i ≤ j ∨ j ∈ R.getD i []
  stab : ∀ (i : Nat) (p : PI), plan[i]? = some p → isAt isE ops i = true → ∀ (q : Nat) (oq : Oper), q < i → ops[q]? = some oq → quietOp oq.op = true → memOp oq.op = true → q ∈ R.getD i [] ∨ (q ∈ p.stab ∧ stabOK ops i q oq = true)

theorem planOK_spec {ops : Array Oper} {plan : List PI} (h : planOK ops plan = true) : PlanP ops plan (closures ops ops.toList []) := by
  simp only [planOK, Bool.and_eq_true, beq_iff_eq] at h
  obtain ⟨⟨⟨⟨h1, h2⟩, h3⟩, h4⟩, h5⟩ := h
  simp only [tableOK, List.all_eq_true, List.mem_range, Bool.and_eq_true, decide_eq_true_eq, List.any_eq_true, Bool.or_eq_true, beq_iff_eq, List.contains_iff_mem] at h3
  have item : ∀ (i : Nat) (p : PI), plan[i]? = some p → ∃ o, ops[i]? = some o ∧ itemOK ops plan (closures ops ops.toList []) i = true := fun i p hp => by
    have hlt : i < ops.size := by have := (List.getElem?_eq_some_iff.1 hp).1; omega
    exact ⟨_, Array.getElem?_eq_getElem hlt, (List.all_eq_true.1 h5) i (List.mem_range.2 hlt)⟩
  refine ⟨h1, h2, fun i hi e he => (h3 i hi).1 e he, fun i hi j hj => by obtain ⟨e, h6, h7⟩ := (h3 i hi).2 j hj; exact ⟨e, h6, h7⟩, fun i j x y hij hx hy => ?_, fun i p hp a ha => ?_, fun i p hp => ?_, fun i hi j hj => ?_, fun i p hp hi q oq hq hoq hqu hm => ?_⟩
  · have hi := (Array.getElem?_eq_some_iff.1 hx).1
    have hj := (Array.getElem?_eq_some_iff.1 hy).1
    have := (List.all_eq_true.1 ((List.all_eq_true.1 h4) i (List.mem_range.2 hi))) j (List.mem_range.2 hj)
    simp only [hx, hy, Bool.or_eq_true, Bool.not_eq_true', decide_eq_false_iff_not, List.contains_iff_mem] at this
    rcases this with (h | h) | h
    · exact absurd hij h
    · exact .inl h
    · exact .inr h
  · obtain ⟨o, ho, hit⟩ := item i p hp
    simp only [itemOK, ho, hp, Bool.and_eq_true, List.all_eq_true] at hit
    have := hit.1.1 a ha
    split at this
    · rename_i j hj
      exact ⟨j, hj, by simpa using this⟩
    · cases this
  · obtain ⟨o, ho, hit⟩ := item i p hp
    simp only [itemOK, ho, hp, Bool.and_eq_true, Bool.or_eq_true, beq_iff_eq] at hit
    rcases hit.1.2 with h | h
    · exact .inl h
    · split at h
      · rename_i j hj
        exact .inr ⟨j, hj, by simpa using h⟩
      · cases h
  · have hlt := isAt_lt hi
    obtain ⟨p, hp⟩ : ∃ p, plan[i]? = some p := ⟨_, List.getElem?_eq_getElem (by omega)⟩
    obtain ⟨o, ho, hit⟩ := item i p hp
    have hE : isE o.op = true := by simpa [isAt, ho] using hi
    simp only [itemOK, ho, hp, hE, Bool.and_eq_true, Bool.or_eq_true, Bool.not_true, Bool.false_eq_true, false_or, List.all_eq_true, decide_eq_true_eq, List.contains_iff_mem] at hit
    exact hit.2.1 j hj
  · obtain ⟨o, ho, hit⟩ := item i p hp
    have hE : isE o.op = true := by simpa [isAt, ho] using hi
    simp only [itemOK, ho, hp, hE, Bool.and_eq_true, Bool.or_eq_true, Bool.not_true, Bool.false_eq_true, false_or, List.all_eq_true, decide_eq_true_eq, List.contains_iff_mem] at hit
    have := hit.2.2 q (List.mem_range.2 hq)
    simp only [hoq, hqu, hm, Bool.and_self, Bool.not_true, Bool.false_eq_true, false_or, Bool.or_eq_true, Bool.and_eq_true, List.contains_iff_mem] at this
    exact this

theorem filter_less {p p' : Nat → Bool} {i : Nat} (hp : p i = true) (hp' : p' i = false) (h : ∀ j, j ≠ i → p' j = p j) : ∀ {l : List Nat}, l.Nodup → i ∈ l → (l.filter p').length + 1 ≤ (l.filter p).length
  | x :: l, hnd, hi => by
    have hx := List.nodup_cons.1 hnd
    have same : ∀ {l : List Nat}, i ∉ l → l.filter p' = l.filter p := fun {l} hl => List.filter_congr fun j hj => h j (fun e => hl (e ▸ hj))
    by_cases hxi : x = i
    · subst hxi
      rw [List.filter_cons_of_neg (by simp [hp']), List.filter_cons_of_pos hp, same hx.1]
      simp
    · have hi' : i ∈ l := by simpa [Ne.symm hxi] using hi
      have ih := filter_less hp hp' h hx.2 hi'
      by_cases hpx : p x = true
      · rw [List.filter_cons_of_pos (by rw [h x hxi]; exact hpx), List.filter_cons_of_pos hpx]
        simp only [List.length_cons]
        omega
      · rw [List.filter_cons_of_neg (by rw [h x hxi]; exact hpx), List.filter_cons_of_neg hpx]
        exact ih

section
variable {P : Program} {C : CallK} {ops : Array Oper} {plan : List PI} {R : List (List Nat)} {base : Nat} {t0 : List V} {vs : Nat → V} {ss : Nat → List Ob} {xs : List (Option Ob)}

theorem PlanP.lt (h : PlanP ops plan R) : ∀ (i : Nat), i < ops.size → ∀ j ∈ R.getD i [], j < i := by
  intro i
  induction i using Nat.strongRecOn with
  | _ i ih =>
    intro hi j hj
    obtain ⟨e, he, hej⟩ := h.table i hi j hj
    have := h.back i hi e he
    rcases hej with rfl | hej
    · exact this
    · have := ih e this (by omega) j hej
      omega
theorem PlanP.reach (h : PlanP ops plan R) {listed : Array Bool} (hc : Closed ops listed) : ∀ (i : Nat), i < ops.size → (∀ e ∈ directs ops i, listed.getD e false = true) → ∀ j ∈ R.getD i [], listed.getD j false = true := by
  intro i
  induction i using Nat.strongRecOn with
  | _ i ih =>
    intro hi hd j hj
    obtain ⟨e, he, hej⟩ := h.table i hi j hj
    have hlt := h.back i hi e he
    have hl := hd e he
    rcases hej with rfl | hej
    · exact hl
    · exact ih e hlt (by omega) (hc e hl) j hej
theorem PlanP.needs_lt (h : PlanP ops plan R) (i : Nat) (p : PI) (hp : plan[i]? = some p) : ∀ a ∈ p.needs, a < cnt isA ops i := fun a ha => by
  have hi : i < ops.size := by have := (List.getElem?_eq_some_iff.1 hp).1; have := h.len; omega
  obtain ⟨j, hj, hR⟩ := h.needs i p hp a ha
  obtain ⟨h1, h2⟩ := idxs_spec hj
  rw [← h2]
  exact cnt_lt h1 (h.lt i hi j hR)

structure Run (P : Program) (C : CallK) (ops : Array Oper) (plan : List PI) (base : Nat) (t0 : List V) (vs : Nat → V) (ss : Nat → List Ob) (xs : List (Option Ob)) : Prop where
  fact : ∀ (i : Nat) (o : Oper) (p : PI), ops[i]? = some o → plan[i]? = some p → Fact P C ops plan base t0 vs ss xs i o p
  ng : NoGone xs
  lenx : xs.length = cnt isA ops ops.size
  gone0 : ∀ a, a < cnt isA ops ops.size → (ss 0)[base + a]? = some .gone

variable (hp : PlanP ops plan R) (hr : Run P C ops plan base t0 vs ss xs)
include hp hr

theorem Run.item {i : Nat} (hi : i < ops.size) : ∃ o p, ops[i]? = some o ∧ plan[i]? = some p ∧ Fact P C ops plan base t0 vs ss xs i o p := by
  have h1 : ops[i]? = some ops[i] := Array.getElem?_eq_getElem hi
  have h2 : plan[i]? = some (plan[i]'(by have := hp.len; omega)) := List.getElem?_eq_getElem _
  exact ⟨_, _, h1, h2, hr.fact i _ _ h1 h2⟩

theorem Run.len (k : Nat) : k ≤ cnt isE ops ops.size → (ss 0).length ≤ (ss k).length := by
  induction k with
  | zero => intro _; exact Nat.le_refl _
  | succ k ih =>
    intro hk
    have ih := ih (by omega)
    obtain ⟨j, hj, hjk⟩ := cnt_at (f := isE) (ops := ops) (k := k) (by omega)
    obtain ⟨o, p, ho, hpl, hf⟩ := Run.item hp hr (isAt_lt hj)
    have hE : isE o.op = true := by simpa [isAt, ho] using hj
    have hA : isA o.op = false := by simp only [isE, Bool.and_eq_true, Bool.not_eq_true'] at hE; exact hE.2
    have hQ : quietOp o.op = false := by simp only [isE, Bool.and_eq_true, Bool.not_eq_true'] at hE; exact hE.1
    rcases hf with ⟨_, _, h3, _⟩ | ⟨_, h | h | h⟩
    · rw [hjk] at h3; rw [h3 hE]; exact ih
    · rw [hA] at h; exact absurd h.1 (by simp)
    · rw [hQ] at h; exact absurd h.2.1 (by simp)
    · obtain ⟨_, _, _, h4, _⟩ := h
      rw [hjk] at h4
      omega

theorem Run.free {a : Nat} (ha : a < cnt isA ops ops.size) (k : Nat) : k ≤ cnt isE ops ops.size → (∀ (j : Nat) (p : PI), isAt isE ops j = true → cnt isE ops j < k → plan[j]? = some p → a ∉ p.needs) → (ss k)[base + a]? = some .gone := by
  induction k with
  | zero => intro _ _; exact hr.gone0 a ha
  | succ k ih =>
    intro hk hn
    have ih := ih (by omega) fun j p h1 h2 h3 => hn j p h1 (by omega) h3
    obtain ⟨j, hj, hjk⟩ := cnt_at (f := isE) (ops := ops) (k := k) (by omega)
    obtain ⟨o, p, ho, hpl, hf⟩ := Run.item hp hr (isAt_lt hj)
    have hE : isE o.op = true := by simpa [isAt, ho] using hj
    have hA : isA o.op = false := by simp only [isE, Bool.and_eq_true, Bool.not_eq_true'] at hE; exact hE.2
    have hQ : quietOp o.op = false := by simp only [isE, Bool.and_eq_true, Bool.not_eq_true'] at hE; exact hE.1
    rcases hf with ⟨_, _, h3, _⟩ | ⟨_, h | h | h⟩
    · rw [hjk] at h3; rw [h3 hE]; exact ih
    · rw [hA] at h; exact absurd h.1 (by simp)
    · rw [hQ] at h; exact absurd h.2.1 (by simp)
    · obtain ⟨_, _, h3, _⟩ := h
      rw [hjk] at h3
      refine h3 _ ?_
      rw [over_at, ih]
      have : ovOf base xs p.needs (base + a) = none := by
        unfold ovOf
        rw [if_neg]
        rintro ⟨_, hm⟩
        rw [Nat.add_sub_cancel_left] at hm
        exact hn j p hj (by omega) hpl hm
      simp [this]

omit hp hr in
theorem ovOf_same {needs needs' : List Nat} {i : Nat} {X Y : Ob} (h1 : ovOf base xs needs i = some X) (h2 : ovOf base xs needs' i = some Y) : X = Y := by
  unfold ovOf at h1 h2
  split at h1
  · split at h2
    · rw [h1] at h2; cases h2; rfl
    · cases h2
  · cases h1

theorem Run.quiet {i : Nat} {o : Oper} {p : PI} (ho : ops[i]? = some o) (hpl : plan[i]? = some p) (hQ : quietOp o.op = true)
    (hw : awanted ops (TL ops vs (fun _ => true) t0 i) o = some true)
    (h0 : ∀ k, p.lo ≤ k → k ≤ cnt isE ops i → qop P o (TL ops vs (fun _ => true) t0 i) (over (ovOf base xs p.needs) (ss k)) = some (vs i)) :
    ∀ (d k : Nat), k = cnt isE ops i + d → p.lo ≤ cnt isE ops i → k ≤ cnt isE ops ops.size → (∀ j, isAt isE ops j = true → cnt isE ops j < k → i ∉ R.getD j []) → qop P o (TL ops vs (fun _ => true) t0 i) (over (ovOf base xs p.needs) (ss k)) = some (vs i) := by
  intro d
  induction d with
  | zero => intro k hk hlo _ _; exact h0 k (by omega) (by omega)
  | succ d ih =>
    intro k' hk' hlo hkn hno
    obtain ⟨k, rfl⟩ : ∃ k, k' = k + 1 := ⟨cnt isE ops i + d, by omega⟩
    have ih := ih k (by omega) hlo (by omega) fun j h1 h2 => hno j h1 (by omega)
    obtain ⟨j, hj, hjk⟩ := cnt_at (f := isE) (ops := ops) (k := k) (by omega)
    obtain ⟨oj, pj, hoj, hplj, hf⟩ := Run.item hp hr (isAt_lt hj)
    have hE : isE oj.op = true := by simpa [isAt, hoj] using hj
    have hAj : isA oj.op = false := by simp only [isE, Bool.and_eq_true, Bool.not_eq_true'] at hE; exact hE.2
    have hQj : quietOp oj.op = false := by simp only [isE, Bool.and_eq_true, Bool.not_eq_true'] at hE; exact hE.1
    by_cases hm : memOp o.op = true
    · have hij : i < j := by
        rcases Nat.lt_trichotomy i j with h | h | h
        · exact h
        · subst h; rw [ho] at hoj; cases hoj; rw [hQ] at hQj; cases hQj
        · have := cnt_lt hj h; omega
      rcases hf with ⟨_, _, h3, _⟩ | ⟨_, h | h | h⟩
      · rw [hjk] at h3; rw [h3 hE]; exact ih
      · rw [hAj] at h; exact absurd h.1 (by simp)
      · rw [hQj] at h; exact absurd h.2.1 (by simp)
      · obtain ⟨_, _, h3, _, _, h6⟩ := h
        rw [hjk] at h6
        rcases h6 with h6 | h6
        · refine qop_le (fun x y hy hny => ?_) hQ ih
          rw [over_at] at hy ⊢
          cases hs : (ss k)[x]? with
          | none => rw [hs] at hy; cases hy
          | some z =>
            rw [hs] at hy
            by_cases hz : z = .gone
            · subst hz
              simp only [Option.some.injEq] at hy
              have hov : ovOf base xs p.needs x = some y := by
                cases hh : ovOf base xs p.needs x with
                | none => rw [hh] at hy; simp only [Option.getD_none] at hy; exact absurd hy.symm hny
                | some q => rw [hh] at hy; simp only [Option.getD_some] at hy; rw [hy]
              cases hj2 : ovOf base xs pj.needs x with
              | none =>
                have := h6 x .gone (by rw [over_at, hs]; simp [hj2])
                rw [this]
                simp [hov]
              | some Y =>
                have e := ovOf_same hov hj2
                subst e
                have := h6 x y (by rw [over_at, hs]; simp [hj2])
                rw [this]
                cases y <;> first | rfl | exact absurd rfl hny
            · have hzy : z = y := by cases z <;> first | exact absurd rfl hz | (simpa using hy)
              subst hzy
              have := h6 x z (by rw [over_at, hs]; cases z <;> first | rfl | exact absurd rfl hz)
              rw [this]
              cases z <;> first | rfl | exact absurd rfl hz
        · rcases hp.stab j pj hplj hj i o hij ho hQ hm with h | ⟨hst, hsok⟩
          · exact absurd h (hno j hj (by omega))
          · obtain ⟨_, h7⟩ := h6 i hst o p ho hpl hij (hp.needs_lt i p hpl)
            simp only [stabOK, Bool.and_eq_true, List.all_eq_true, List.mem_range, Bool.or_eq_true, decide_eq_true_eq] at hsok
            obtain ⟨hds, hall⟩ := hsok
            have hbetween : ∀ (m : Nat) (d : Tmp), i ≤ m → m < j → dstOf ops m = some d → d ∉ o.looksAt ops ∧ (m = i ∨ o.dst ≠ some d) := fun m d h1 h2 h3 => by
              have := hall m h2
              rcases this with h | h
              · omega
              · cases hom : ops[m]? with
                | none => rw [dstOf, hom] at h3; cases h3
                | some om =>
                  rw [dstOf, hom] at h3
                  simp only [Option.bind_some] at h3
                  simp only [hom, h3, Bool.and_eq_true, Bool.not_eq_true', Bool.or_eq_true, beq_iff_eq, bne_iff_ne, ne_eq] at h
                  exact ⟨by have := h.1; simpa using this, h.2⟩
            have hag : Agree ops o (TL ops vs (fun _ => true) t0 j) (TL ops vs (fun _ => true) t0 i) := fun d hd => by
              have e1 : TL ops vs (fun _ => true) t0 i = TL ops vs (fun m => decide (m < i)) t0 j := by
                rw [TL_stop (m := i) j (by omega) fun m h1 _ => by simp; omega]
                exact TL_congr i fun m hm => by simp [hm]
              rw [e1]
              refine TL_agree j fun m hm hdm => ?_
              by_cases hmi : m < i
              · simp [hmi]
              · exact absurd hd (hbetween m d (by omega) hm hdm).1
            have hw' : awanted ops (TL ops vs (fun _ => true) t0 j) o = some true := by rw [hag.wanted]; exact hw
            have h8 := h7 hw'
            cases hdo : o.dst with
            | none => simp [hdo] at hds
            | some d =>
              simp only [hdo] at h8
              obtain ⟨hdl, h8⟩ := h8
              rw [qop_congr hag] at h8
              rw [h8]
              congr 1
              have e2 : (TL ops vs (fun _ => true) t0 j).getD d .dead = (TL ops vs (fun m => decide (m < i + 1)) t0 j).getD d .dead := by
                refine TL_agree j fun m hm hdm => ?_
                by_cases hmi : m < i + 1
                · simp [hmi]
                · rcases (hbetween m d (by omega) hm hdm).2 with h | h
                  · omega
                  · exact absurd hdo h
              rw [e2, TL_stop (m := i + 1) j (by omega) fun m h1 _ => by simp; omega]
              simp only [TL, Nat.lt_succ_self, decide_true, if_true]
              rw [aput_getD, TL_len]
              rw [TL_len] at hdl
              simp [dstOf, ho, hdo, hdl]
    · exact qop_any hQ (by simpa using hm) ih
end
end Go.M
namespace Go.M
open Go Go.RowKit
section
variable {P : Program} {C : CallK} {ops : Array Oper} {plan : List PI} {R : List (List Nat)} {base : Nat} {t0 : List V} {vs : Nat → V} {ss : Nat → List Ob} {xs : List (Option Ob)} {B : Nat} {ro : Option Nat}

def ordL (ops : Array Oper) (n : Nat) (listed : Array Bool) : List Nat := (List.range n).filter fun a => match (idxs isA ops)[a]? with
  | some j => listed.getD j false
  | none => false

theorem ordL_mem {n : Nat} {listed : Array Bool} {a : Nat} : a ∈ ordL ops n listed ↔ a < n ∧ ∃ j, (idxs isA ops)[a]? = some j ∧ listed.getD j false = true := by
  unfold ordL
  rw [List.mem_filter, List.mem_range]
  constructor
  · rintro ⟨h1, h2⟩
    refine ⟨h1, ?_⟩
    split at h2
    · rename_i j hj; exact ⟨j, hj, h2⟩
    · cases h2
  · rintro ⟨h1, j, hj, h2⟩
    exact ⟨h1, by rw [hj]; exact h2⟩

theorem ovOf_congr {needs needs' : List Nat} (h : ∀ a, (xs[a]?).getD none ≠ none → (a ∈ needs ↔ a ∈ needs')) : ovOf base xs needs = ovOf base xs needs' := by
  funext i
  unfold ovOf
  by_cases hb : base ≤ i
  · by_cases hn : (xs[i - base]?).getD none = none
    · rw [hn]; simp
    · have := h _ hn
      by_cases hm : i - base ∈ needs
      · rw [if_pos ⟨hb, hm⟩, if_pos ⟨hb, this.1 hm⟩]
      · rw [if_neg (fun h => hm h.2), if_neg (fun h => hm (this.2 h.2))]
  · rw [if_neg (fun h => hb h.1), if_neg (fun h => hb h.1)]

theorem ovOf_fine (ng : NoGone xs) {needs : List Nat} {n : Nat} (h : base + xs.length ≤ n) : Fine (ovOf base xs needs) n := by
  refine ⟨fun i hi => ?_, ovOf_ng ng needs⟩
  unfold ovOf
  split
  · rw [List.getElem?_eq_none (by omega)]; rfl
  · rfl

structure Inv (P : Program) (B : Nat) (ops : Array Oper) (base : Nat) (t0 : List V) (vs : Nat → V) (ss : Nat → List Ob) (xs : List (Option Ob)) (σ0 : Sg) (w0 : World) (listed : Array Bool) (k : Nat) (a : Act) (w : World) (σ : Sg) : Prop where
  size : listed.size = ops.size
  closed : Closed ops listed
  pre : ∀ i, isAt isE ops i = true → (listed.getD i false = true ↔ cnt isE ops i < k)
  le : k ≤ cnt isE ops ops.size
  st : σ.st = over (ovOf base xs (ordL ops xs.length listed)) (ss k)
  good : Good P σ w
  stp : Stp P σ0 σ w0 w
  rt : RT P B σ w (TL ops vs (fun i => listed.getD i false) t0 ops.size) a

theorem getD_set {listed : Array Bool} {i j : Nat} (hi : i < listed.size) : (listed.setIfInBounds i true).getD j false = if j = i then true else listed.getD j false := by
  simp only [Array.getD_eq_getD_getElem?, Array.getElem?_setIfInBounds]
  by_cases h : j = i
  · subst h; simp [hi]
  · simp [h, Ne.symm h]

variable (hp : PlanP ops plan R) (hr : Run P C ops plan base t0 vs ss xs)
include hp hr

theorem Inv.agree {σ0 σ : Sg} {w0 w : World} {listed : Array Bool} {k : Nat} {a : Act} (v : Inv P B ops base t0 vs ss xs σ0 w0 listed k a w σ) {i : Nat} {o : Oper} (ho : ops[i]? = some o) (hun : listed.getD i false = false) (hd : ∀ e ∈ directs ops i, listed.getD e false = true) :
    Agree ops o (TL ops vs (fun i => listed.getD i false) t0 ops.size) (TL ops vs (fun _ => true) t0 i) := fun d hdl => by
  have hi := (Array.getElem?_eq_some_iff.1 ho).1
  have e1 : TL ops vs (fun _ => true) t0 i = TL ops vs (fun m => decide (m < i)) t0 ops.size := by
    rw [TL_stop (m := i) ops.size (by omega) fun m h1 _ => by simp; omega]
    exact TL_congr i fun m hm => by simp [hm]
  rw [e1]
  refine TL_agree ops.size fun m hm hdm => ?_
  obtain ⟨om, hom⟩ : ∃ om, ops[m]? = some om := ⟨_, Array.getElem?_eq_getElem hm⟩
  have hdm' : om.dst = some d := by simpa [dstOf, hom] using hdm
  rcases Nat.lt_trichotomy m i with h | h | h
  · simp only [h, decide_true]
    cases hl : listed.getD m false with
    | true => rfl
    | false =>
      rcases hp.pair m i om o h hom ho with hw | hw
      · have := hd m hw; rw [hl] at this; cases this
      · exact absurd hdl ((Oper.apart_spec hw).1 d hdm')
  · subst h; simp [hun]
  · have h' : ¬ m < i := by omega
    simp only [h', decide_false]
    cases hl : listed.getD m false with
    | false => rfl
    | true =>
      rcases hp.pair i m o om h ho hom with hw | hw
      · have := v.closed m hl i hw; rw [hun] at this; cases this
      · exact absurd hdl ((Oper.apart_spec hw).2.2 d hdm')

theorem Inv.tl {σ0 σ : Sg} {w0 w : World} {listed : Array Bool} {k : Nat} {a : Act} (v : Inv P B ops base t0 vs ss xs σ0 w0 listed k a w σ) {i : Nat} {o : Oper} (ho : ops[i]? = some o) (hun : listed.getD i false = false) :
    TL ops vs (fun j => (listed.setIfInBounds i true).getD j false) t0 ops.size = aput (TL ops vs (fun i => listed.getD i false) t0 ops.size) o.dst (vs i) := by
  have hi := (Array.getElem?_eq_some_iff.1 ho).1
  have hd : dstOf ops i = o.dst := by simp [dstOf, ho]
  rw [← hd]
  refine TL_set (S := fun i => listed.getD i false) hun (fun j hj => ?_) ?_ ops.size hi fun j h1 h2 hl x hx => ?_
  · try simp only
    rw [getD_set (by rw [v.size]; exact hi), if_neg hj]
  · try simp only
    rw [getD_set (by rw [v.size]; exact hi), if_pos rfl]
  · obtain ⟨oj, hoj⟩ : ∃ oj, ops[j]? = some oj := ⟨_, Array.getElem?_eq_getElem h2⟩
    rw [hd] at hx
    rcases hp.pair i j o oj h1 ho hoj with hw | hw
    · have := v.closed j hl i hw; rw [hun] at this; cases this
    · have := (Oper.apart_spec hw).2.1 x hx
      simpa [dstOf, hoj] using this

theorem Inv.next {σ0 σ σ' : Sg} {w0 w w' : World} {listed : Array Bool} {k k' : Nat} {a : Act} {u : Value} (v : Inv P B ops base t0 vs ss xs σ0 w0 listed k a w σ) {i : Nat} {o : Oper} (ho : ops[i]? = some o) (hun : listed.getD i false = false) (hd : ∀ e ∈ directs ops i, listed.getD e false = true)
    (hk : k' = k + if isE o.op = true then 1 else 0) (hck : isE o.op = true → cnt isE ops i = k)
    (hst : σ'.st = over (ovOf base xs (ordL ops xs.length (listed.setIfInBounds i true))) (ss k')) (hg : Good P σ' w') (hs : Stp P σ σ' w w') (hv : RV P σ' w' (vs i) u) :
    Inv P B ops base t0 vs ss xs σ0 w0 (listed.setIfInBounds i true) k' (a.put o.dst u) w' σ' := by
  have hi := (Array.getElem?_eq_some_iff.1 ho).1
  have his : i < listed.size := by rw [v.size]; exact hi
  have hatE : isAt isE ops i = isE o.op := by simp [isAt, ho]
  refine ⟨by simp [v.size], fun j hj e he => ?_, fun j hj => ?_, ?_, hst, hg, v.stp.trans hs, ?_⟩
  · rw [getD_set his] at hj ⊢
    by_cases hji : j = i
    · subst hji
      split
      · rfl
      · exact hd e he
    · rw [if_neg hji] at hj
      split
      · rfl
      · exact v.closed j hj e he
  · rw [getD_set his]
    by_cases hji : j = i
    · subst hji
      rw [hatE] at hj
      simp only [if_true, true_iff]
      rw [hk, if_pos hj, hck hj]
      omega
    · rw [if_neg hji, v.pre j hj, hk]
      by_cases hE : isE o.op = true
      · rw [if_pos hE]
        have hne : cnt isE ops j ≠ k := fun h => hji (cnt_inj hj (by rw [hatE]; exact hE) (by rw [h, hck hE]))
        omega
      · rw [if_neg hE]; simp
  · rw [hk]
    split
    · rename_i hE
      have h1 := cnt_lt (f := isE) (by rw [hatE]; exact hE) (show i < ops.size from hi)
      rw [hck hE] at h1
      omega
    · have := v.le; omega
  · rw [Inv.tl hp hr v ho hun]
    exact (v.rt.mono hs).put o.dst hv

theorem ordL_next {listed : Array Bool} {i : Nat} {o : Oper} (hsz : listed.size = ops.size) (ho : ops[i]? = some o) (hA : isA o.op = false ∨ xs[cnt isA ops i]? = some none) :
    ovOf base xs (ordL ops xs.length (listed.setIfInBounds i true)) = ovOf base xs (ordL ops xs.length listed) := by
  have hi := (Array.getElem?_eq_some_iff.1 ho).1
  refine ovOf_congr fun a hn => ?_
  rw [ordL_mem, ordL_mem]
  refine and_congr_right fun hal => exists_congr fun j => and_congr_right fun hj => ?_
  rw [getD_set (by rw [hsz]; exact hi)]
  obtain ⟨h1, h2⟩ := idxs_spec hj
  by_cases hji : j = i
  · subst hji
    rcases hA with hA | hA
    · simp [isAt, ho, hA] at h1
    · rw [h2] at hA; rw [hA] at hn; simp at hn
  · rw [if_neg hji]

theorem draw_any {σ0 : Sg} {w0 : World} {Q : Exit → Act → World → Prop} (hC : CS P C) (hF : ∀ f args st K, f ≠ P.funcs.size → C f args st K → ∃ fn : Func, P.funcs[f]? = some fn ∧ fn.body.isNone = false ∧ (fn.name == "runtime.NumGoroutine") = false)
    (hlb : base + xs.length ≤ (ss 0).length)
    (hQ : ∀ a w σ, σ.st = over (ovOf base xs (List.range xs.length)) (ss (cnt isE ops ops.size)) → Good P σ w → Stp P σ0 σ w0 w → RT P B σ w (TL ops vs (fun _ => true) t0 ops.size) a → Q .normal a w) :
    ∀ (fuel : Nat) (listed : Array Bool) (k : Nat) (a : Act) (w : World) (σ : Sg), Inv P B ops base t0 vs ss xs σ0 w0 listed k a w σ → ((List.range ops.size).filter fun i => !listed.getD i false).length ≤ fuel → wpAnyIn (Wr ro) 0 P .any ops Q fuel listed a w := by
  have fin : ∀ (listed : Array Bool) (k : Nat) (a : Act) (w : World) (σ : Sg), Inv P B ops base t0 vs ss xs σ0 w0 listed k a w σ → (∀ i, i < ops.size → listed.getD i false = true) → Q .normal a w := by
    intro listed k a w σ v hall
    have hk : k = cnt isE ops ops.size := by
      rcases Nat.lt_or_ge k (cnt isE ops ops.size) with h | h
      · obtain ⟨j, hj, hjk⟩ := cnt_at h
        have := (v.pre j hj).1 (hall j (isAt_lt hj))
        omega
      · have := v.le; omega
    subst hk
    refine hQ a w σ ?_ v.good v.stp ?_
    · rw [v.st]
      congr 1
      refine ovOf_congr fun a hn => ?_
      rw [ordL_mem, List.mem_range]
      refine ⟨fun h => h.1, fun h => ⟨h, ?_⟩⟩
      have hl : a < (idxs isA ops).length := by rw [← cnt_all, ← hr.lenx]; exact h
      exact ⟨_, List.getElem?_eq_getElem hl, hall _ (isAt_lt (idxs_spec (List.getElem?_eq_getElem hl)).1)⟩
    · have e := TL_congr (ops := ops) (vs := vs) (t0 := t0) (S := fun i => listed.getD i false) (S' := fun _ => true) ops.size fun i hi => hall i hi
      rw [← e]
      exact v.rt
  have nored : ∀ (listed : Array Bool), listed.size = ops.size → Region.ready .any ops listed = [] → ∀ i, i < ops.size → listed.getD i false = true := by
    intro listed hsz hready i
    induction i using Nat.strongRecOn with
    | _ i ih =>
      intro hi
      cases hl : listed.getD i false with
      | true => rfl
      | false =>
        have : i ∈ Region.ready .any ops listed := by
          rw [mem_ready]
          refine ⟨?_, ops[i], Array.getElem?_eq_getElem hi, fun e he hb => ?_⟩
          · have his : i < listed.size := by omega
            simp [his] at hl ⊢
            exact hl
          · have hmem : e.on ∈ directs ops i := by
              simp only [directs, Array.getElem?_eq_getElem hi]
              exact List.mem_map.2 ⟨e, List.mem_filter.2 ⟨by simpa using he, hb⟩, rfl⟩
            have := hp.back i hi _ hmem
            exact ih _ this (by omega)
        rw [hready] at this
        cases this
  intro fuel
  induction fuel with
  | zero =>
    intro listed k a w σ v hcount
    have hall : ∀ i, i < ops.size → listed.getD i false = true := fun i hi => by
      cases hl : listed.getD i false with
      | true => rfl
      | false =>
        have : i ∈ (List.range ops.size).filter fun i => !listed.getD i false := List.mem_filter.2 ⟨List.mem_range.2 hi, by simp [hl]⟩
        have := List.length_pos_of_mem this
        omega
    refine ⟨?_, fin listed k a w σ v hall⟩
    apply List.eq_nil_iff_forall_not_mem.2
    intro j hj
    obtain ⟨h1, o, ho, _⟩ := mem_ready.1 hj
    have hjl := (Array.getElem?_eq_some_iff.1 ho).1
    have := hall j hjl
    have hjs : j < listed.size := by rw [v.size]; exact hjl
    simp [hjs] at h1 this
    rw [h1] at this
    cases this
  | succ fuel ih =>
    intro listed k a w σ v hcount
    refine ⟨fun hready => fin listed k a w σ v (nored listed v.size hready), fun i hi => ?_⟩
    obtain ⟨hun1, o, ho, hdep⟩ := mem_ready.1 hi
    have hil := (Array.getElem?_eq_some_iff.1 ho).1
    have his : i < listed.size := by rw [v.size]; exact hil
    have hun : listed.getD i false = false := by simp [his] at hun1 ⊢; exact hun1
    have hd : ∀ e ∈ directs ops i, listed.getD e false = true := fun e he => by
      simp only [directs, ho] at he
      obtain ⟨x, hx, rfl⟩ := List.mem_map.1 he
      obtain ⟨hx1, hx2⟩ := List.mem_filter.1 hx
      exact hdep x (by simpa using hx1) hx2
    have hcount' : ((List.range ops.size).filter fun j => !(listed.setIfInBounds i true).getD j false).length ≤ fuel := by
      have := filter_less (p := fun j => !listed.getD j false) (p' := fun j => !(listed.setIfInBounds i true).getD j false) (i := i) (by simp [hun]) (by rw [getD_set his]; simp) (fun j hj => by rw [getD_set his, if_neg hj]) List.nodup_range (List.mem_range.2 hil)
      omega
    have hatE : isAt isE ops i = isE o.op := by simp [isAt, ho]
    have hatA : isAt isA ops i = isA o.op := by simp [isAt, ho]
    have hag := Inv.agree hp hr v ho hun hd
    have hreach := hp.reach v.closed i hil hd
    have hck : isE o.op = true → cnt isE ops i = k := fun hE => by
      have hE' : isAt isE ops i = true := by rw [hatE]; exact hE
      rcases Nat.lt_trichotomy (cnt isE ops i) k with h | h | h
      · have := (v.pre i hE').2 h; rw [hun] at this; cases this
      · exact h
      · have hkn : k < cnt isE ops ops.size := Nat.lt_of_lt_of_le h (cnt_mono (Nat.le_of_lt hil))
        obtain ⟨j, hj, hjk⟩ := cnt_at hkn
        rcases hp.chain i hE' j (by have := idxs_cnt hj; exact List.mem_of_getElem? this) with hij | hR
        · have := cnt_mono (f := isE) (ops := ops) hij; omega
        · have := (v.pre j hj).1 (hreach j hR); omega
    obtain ⟨o', p, ho', hpl, hf⟩ := Run.item hp hr hil
    rw [ho] at ho'; cases ho'
    have hneeds : ∀ b ∈ p.needs, b ∈ ordL ops xs.length listed := fun b hb => by
      obtain ⟨j, hj, hR⟩ := hp.needs i p hpl b hb
      have := (List.getElem?_eq_some_iff.1 hj).1
      rw [← cnt_all, ← hr.lenx] at this
      exact ordL_mem.2 ⟨this, j, hj, hreach j hR⟩
    have hsub : ∀ (x : Nat) (X : Ob), ovOf base xs p.needs x = some X → X ≠ .gone ∧ ovOf base xs (ordL ops xs.length listed) x = some X := fun x X hX => by
      refine ⟨fun h => ovOf_ng hr.ng p.needs x (by rw [hX, h]), ?_⟩
      unfold ovOf at hX ⊢
      split at hX
      · rename_i hc
        rw [if_pos ⟨hc.1, hneeds _ hc.2⟩]
        exact hX
      · cases hX
    have hle0 : (ss 0).length ≤ (ss k).length := Run.len hp hr k v.le
    unfold wpOpIn
    simp only [ho]
    rcases hf with ⟨hw, hvi, hE1, hA1⟩ | ⟨hw, hf⟩
    · have hw' := hag.wanted.trans hw
      rw [if_neg (by rw [wanted_sound v.rt hw']; simp)]
      refine ⟨fun _ _ => trivial, ih _ (k + if isE o.op = true then 1 else 0) _ w σ (Inv.next hp hr v ho hun hd rfl hck ?_ v.good .refl (by rw [hvi]; simp only [RV])) hcount'⟩
      rw [ordL_next hp hr v.size ho (by cases hA : isA o.op with
        | false => exact .inl rfl
        | true => exact .inr (hA1 hA)), v.st]
      by_cases hE : isE o.op = true
      · rw [if_pos hE, ← hck hE, hE1 hE]
      · rw [if_neg hE]; rfl
    · have hw' := hag.wanted.trans hw
      rw [if_pos (wanted_sound v.rt hw')]
      rcases hf with ⟨hA, X, hX, hxX⟩ | ⟨hA, hQu, hq⟩ | ⟨hA, hQu, hkg, hlen, hcall, _⟩
      · -- a new object
        have hat : isAt isA ops i = true := by rw [hatA]; exact hA
        have hac : cnt isA ops i < cnt isA ops ops.size := cnt_lt hat hil
        have hE : isE o.op = false := by simp [isE, hA]
        have hfree : (ss k)[base + cnt isA ops i]? = some .gone := by
          refine Run.free hp hr hac k v.le fun j pj hj hjk hplj hmem => ?_
          obtain ⟨j', hj', hR⟩ := hp.needs j pj hplj _ hmem
          have hjj : j' = i := by have := idxs_cnt hat; rw [this] at hj'; cases hj'; rfl
          subst hjj
          have hjl : listed.getD j false = true := (v.pre j hj).2 hjk
          have := hp.reach v.closed j (isAt_lt hj) (v.closed j hjl) _ hR
          rw [hun] at this; cases this
        have hnot : cnt isA ops i ∉ ordL ops xs.length listed := fun h => by
          obtain ⟨_, j, hj, hl⟩ := ordL_mem.1 h
          have := idxs_cnt hat
          rw [this] at hj; cases hj
          rw [hun] at hl; cases hl
        have hgone : σ.st[base + cnt isA ops i]? = some .gone := by
          rw [v.st, over_at, hfree]
          have : ovOf base xs (ordL ops xs.length listed) (base + cnt isA ops i) = none := by
            unfold ovOf
            rw [if_neg]
            rintro ⟨_, hm⟩
            rw [Nat.add_sub_cancel_left] at hm
            exact hnot hm
          simp [this]
        have hX' : aobj P (aev (TL ops vs (fun i => listed.getD i false) t0 ops.size)) (base + cnt isA ops i) o = some (vs i, X) := by
          rw [aobj_congr hag.op]; exact hX
        obtain ⟨u, w', h1, h2, h3, h4⟩ := aobj_sound v.good (fun x => v.rt.eval x) hgone hX'
        refine ⟨fun _ _ => trivial, ?_⟩
        rw [Oper.semAt_eq _ _ _ (fun c hc => by rw [hc] at hA; simp [isA] at hA), h1]
        refine ih _ k _ w' (σ.fill (base + cnt isA ops i) X w.heap.size) (Inv.next hp hr v ho hun hd (by simp [hE]) hck ?_ h2 h3 h4) hcount'
        have hXn : X ≠ .gone := aobj_ng hX
        show σ.st.set (base + cnt isA ops i) X = _
        apply List.ext_getElem?
        intro x
        rw [v.st, over_at]
        by_cases hx : x = base + cnt isA ops i
        · subst hx
          rw [List.getElem?_set_self (by rw [over_len]; exact (List.getElem?_eq_some_iff.1 hfree).1), hfree]
          have : ovOf base xs (ordL ops xs.length (listed.setIfInBounds i true)) (base + cnt isA ops i) = some X := by
            unfold ovOf
            rw [if_pos ⟨Nat.le_add_right _ _, by
              rw [Nat.add_sub_cancel_left]
              exact ordL_mem.2 ⟨by rw [hr.lenx]; exact hac, i, idxs_cnt hat, by rw [getD_set his, if_pos rfl]⟩⟩, Nat.add_sub_cancel_left, hxX]
            rfl
          simp [this]
        · rw [List.getElem?_set_ne (Ne.symm hx), over_at]
          have : ovOf base xs (ordL ops xs.length (listed.setIfInBounds i true)) x = ovOf base xs (ordL ops xs.length listed) x := by
            unfold ovOf
            by_cases hb : base ≤ x
            · have hiff : x - base ∈ ordL ops xs.length (listed.setIfInBounds i true) ↔ x - base ∈ ordL ops xs.length listed := by
                rw [ordL_mem, ordL_mem]
                refine and_congr_right fun _ => exists_congr fun j => and_congr_right fun hj => ?_
                rw [getD_set his]
                by_cases hji : j = i
                · subst hji
                  obtain ⟨_, h2⟩ := idxs_spec hj
                  omega
                · rw [if_neg hji]
              by_cases hm : x - base ∈ ordL ops xs.length listed
              · rw [if_pos ⟨hb, hiff.2 hm⟩, if_pos ⟨hb, hm⟩]
              · rw [if_neg (fun h => hm (hiff.1 h.2)), if_neg (fun h => hm h.2)]
            · rw [if_neg (fun h => hb h.1), if_neg (fun h => hb h.1)]
          rw [this]
      · -- a quiet one
        have hE : isE o.op = false := by simp [isE, hQu]
        have hlo : p.lo ≤ k := by
          rcases hp.lo i p hpl with h | ⟨j, hj, hR⟩
          · omega
          · obtain ⟨h1, h2⟩ := idxs_spec hj
            have := (v.pre j h1).1 (hreach j hR)
            omega
        have hlo2 : p.lo ≤ cnt isE ops i := by
          rcases hp.lo i p hpl with h | ⟨j, hj, hR⟩
          · omega
          · obtain ⟨h1, h2⟩ := idxs_spec hj
            have := cnt_lt h1 (hp.lt i hil j hR)
            omega
        have hno : ∀ j, isAt isE ops j = true → cnt isE ops j < k → i ∉ R.getD j [] := fun j hj hjk hR => by
          have hjl := (v.pre j hj).2 hjk
          have := hp.reach v.closed j (isAt_lt hj) (v.closed j hjl) i hR
          rw [hun] at this; cases this
        have hval : qop P o (TL ops vs (fun _ => true) t0 i) (over (ovOf base xs p.needs) (ss k)) = some (vs i) := by
          rcases Nat.lt_or_ge k (cnt isE ops i) with h | h
          · exact hq k hlo (by omega)
          · exact Run.quiet hp hr ho hpl hQu hw hq (k - cnt isE ops i) k (by omega) hlo2 v.le hno
        have hval2 : qop P o (TL ops vs (fun i => listed.getD i false) t0 ops.size) σ.st = some (vs i) := by
          rw [qop_congr hag, v.st, ← over_over hsub]
          exact qop_le (LE.over _) hQu hval
        have hop : aop P C o (TL ops vs (fun i => listed.getD i false) t0 ops.size) σ.st fun v' _ => v' = vs i := by
          unfold qop at hval2
          unfold aop
          split at hval2
          · rename_i c hc
            try simp only [hc]
            unfold acall
            split at hval2
            · rename_i b hb
              obtain ⟨⟨y, s⟩, hy, hyv⟩ := Option.map_eq_some_iff.1 hval2
              simp only [hb, hy]
              exact hyv
            · cases hval2
          · rename_i hne
            obtain ⟨⟨y, s⟩, hy, hyv⟩ := Option.map_eq_some_iff.1 hval2
            try (split; · (rename_i c hc; exact absurd hc (hne c)))
            simp only [hy]
            exact hyv
        refine wpIn_of_still (K := fun a' => wpAnyIn (Wr ro) 0 P .any ops Q fuel (listed.setIfInBounds i true) a' w) (fun c hc => by rw [hc] at hQu; simp [quietOp] at hQu) (fun a' h => h) (quiet_sound hQu v.good v.rt hop fun v' u hv' hu => ?_)
        subst hv'
        refine ih _ k _ w σ (Inv.next hp hr v ho hun hd (by simp [hE]) hck ?_ v.good .refl hu) hcount'
        rw [ordL_next hp hr v.size ho (.inl hA), v.st]
      · -- one that turns memory
        have hE : isE o.op = true := by simp [isE, hA, hQu]
        have hki := hck hE
        rw [hki] at hcall
        have hop : aop P C o (TL ops vs (fun i => listed.getD i false) t0 ops.size) σ.st fun v' st' => v' = vs i ∧ st' = over (ovOf base xs (ordL ops xs.length listed)) (ss (k + 1)) := by
          rw [aop_congr hag, v.st, ← over_over hsub]
          exact hcall _ _ (ovOf_fine hr.ng (by omega)) ⟨rfl, rfl⟩
        refine aop_sound hC hF v.good v.rt hop fun v' u st' σ' w' hv' hst' hg' hs' hu => ?_
        obtain ⟨rfl, rfl⟩ := hv'
        refine ih _ (k + 1) _ w' σ' (Inv.next hp hr v ho hun hd (by simp [hE]) hck ?_ hg' hs' hu) hcount'
        rw [ordL_next hp hr v.size ho (.inl hA), hst']
end
end Go.M
namespace Go.M
open Go Go.RowKit
section
variable {P : Program} {σ σ' : Sg} {w w' w1 : World} {B : Nat} {ro : Option Nat}
theorem rep_false (m j : Nat) : (Array.replicate m false).getD j false = false := by
  rcases Nat.lt_or_ge j m with h | h
  · simp [h]
  · simp [h]

theorem loop_set (g : Good P σ w) {id : Nat} {s s' : LoopState} {p p' : Option Code} {pl : Nat → Option (List PI)} {t : List V} {ps : List Tmp} {asg body : Code} {r : Loop} (hid : σ.st[id]? = some (.loop s p pl t ps asg body)) (h1 : w.heap[σ.φ id]? = some (.loop r)) :
    Good P (σ.set id (.loop s' p' pl t ps asg body)) (w.putObj (σ.φ id) (.loop { r with state := s', pending := p' })) ∧ Stp P σ (σ.set id (.loop s' p' pl t ps asg body)) w (w.putObj (σ.φ id) (.loop { r with state := s', pending := p' })) := by
  have hlt := (Array.getElem?_eq_some_iff.1 h1).1
  have hro := g.1 _ _ hid
  simp only [RO] at hro
  obtain ⟨r', q1, q2, q3, q4, q5, q6, q7, hl, q9, q10⟩ := hro
  rw [h1] at q1
  cases q1
  have helse : ∀ b, b ≠ σ.φ id → (w.putObj (σ.φ id) (.loop { r with state := s', pending := p' })).heap[b]? = w.heap[b]? := fun b hb => World.putObj_heap_other hb
  have hlt' := g.lt hid
  have hst : Stq P σ (σ.set id (.loop s' p' pl t ps asg body)) w (w.putObj (σ.φ id) (.loop { r with state := s', pending := p' })) := by
    refine ⟨rfl, rfl, rfl, by simp, fun b hb => ⟨hb, helse b (fun he => by rw [he, hl] at hb; cases hb)⟩, fun i ys hi => ⟨rfl, ?_⟩, fun i hi => ⟨rfl, ?_⟩, fun i hi => ⟨rfl, ?_⟩, fun i ty ys n lo fz hi => ?_⟩
    · by_cases hii : i = id
      · subst hii; rw [hid] at hi; cases hi
      · exact ⟨_, (set_ne hii).trans hi⟩
    · exact hi.keep (set_ne (hi.ne hid (by simp) (by simp)))
    · obtain ⟨s1, p1, pl1, t1, ps1, a1, b1, hi⟩ := hi
      by_cases hii : i = id
      · subst hii; exact ⟨_, _, _, _, _, _, _, set_same hlt'⟩
      · exact ⟨s1, p1, pl1, t1, ps1, a1, b1, (set_ne hii).trans hi⟩
    · by_cases hii : i = id
      · subst hii; rw [hid] at hi; cases hi
      · refine ⟨ys, n, lo, fz, (set_ne hii).trans hi, Nat.le_refl _, Nat.le_refl _, fun b k C _ _ hh => ?_⟩
        obtain ⟨e, xs, n, lo, fz, s, us, fr, k1, k2, k3, k4, k5, k5', k6, k7, k8, k9, k10⟩ := hh
        refine ⟨e, xs, n, lo, fz, s, us, fr, (set_ne hii).trans k1, k2, k3, k4, k5, k5', ?_, k7, RCl.mono (L := σ.L) (L' := σ.L) (fun b hb => ⟨hb, helse b (fun he => by rw [he, hl] at hb; cases hb)⟩) k8, k9, k10⟩
        rw [helse b (fun he => by rw [he] at k7; rcases k7 with k7 | ⟨_, k7⟩ <;> rw [hl] at k7 <;> cases k7; exact hii rfl)]
        exact k6
  exact set_kind (o' := .loop s' p' pl t ps asg body) g hid trivial rfl rfl rfl (by simp) helse (by
    simp only [RO]
    exact ⟨_, World.putObj_heap_same hlt, rfl, rfl, RVl.mono hst q4, q5, q6, q7, hl, q9, q10⟩)
def HR (ro : Option Nat) (σ : Sg) : Prop := ∀ l, ro = some l → ∃ id, l = σ.φ id ∧ isLoop σ.st id
theorem HR.mono (h : HR ro σ) (k : Stp P σ σ' w w') : HR ro σ' := fun l hl => by
  obtain ⟨id, rfl, h1⟩ := h l hl
  obtain ⟨k1, k2⟩ := k.loop id h1
  exact ⟨id, k1.symm, k2⟩
theorem acode_sound {C : CallK} (hC : CS P C) (hF : ∀ f args st K, f ≠ P.funcs.size → C f args st K → ∃ fn : Func, P.funcs[f]? = some fn ∧ fn.body.isNone = false ∧ (fn.name == "runtime.NumGoroutine") = false) (hm : P.follows .mixedOrders = true) (hCF : CF C) (pl : Nat → Option (List PI)) (m : Nat) {rd : Bool} (hrd : ro = none ∨ rd = true) : ∀ (c : Code) (t : List V) (a : Act) (σ : Sg) (w : World) (K : ExK) (Q : Exit → Act → World → Prop),
    codeOK pl rd c = true → HR ro σ → B ≤ w.heap.size → acode P C m pl c K t σ.st → Good P σ w → RT P B σ w t a → (∀ e t' st' σ' w' a', K e t' st' → σ'.st = st' → Good P σ' w' → Stp P σ σ' w w' → RT P B σ' w' t' a' → Q e a' w') → c.wpIn (Wr ro) 0 P Q a w := by
  intro c
  induction c with
  | skip =>
    intro t a σ w K Q hok hR hB h g hr hq
    exact wpIn_skip (hq _ _ _ σ w a h rfl g .refl hr)
  | region id ops draw =>
    intro t a σ w K Q hok hR hB h g hr hq
    cases draw with
    | false =>
      simp only [acode] at h
      exact wpIn_region_list (aops_sound hC hF ops.toList t a σ w _ h g hr fun t' st' σ' w' a' k1 k2 k3 k4 k5 => hq _ _ _ _ _ _ k1 k2 k3 k4 k5)
    | true =>
      simp only [acode] at h
      simp only [codeOK] at hok
      split at h
      · rename_i hpl
        simp only [hpl, Bool.and_eq_true] at hok
        have hro : ro = none := by
          rcases hrd with h1 | h1
          · exact h1
          · rw [h1] at hok; simp at hok
        subst hro
        refine wpIn_wide.2 (wp_region_still hm hok.2 ?_)
        exact still_sound (g.drew (w.drawn + 1)) ops.toList t a _ (by rw [Array.all_toList]; exact hok.1.2) h (hr.mono (Stp.drew _)) fun t' a' k1 k2 => hq _ _ _ _ _ _ k1 rfl (g.drew _) (Stp.drew _) k2
      · rename_i plan hpl
        simp only [hpl] at hok
        have hp := planOK_spec hok
        obtain ⟨vs1, ss1, xs1, j1, j2, j3, j4⟩ := extract (P := P) hCF (base := σ.st.length) (t0 := t) hp.len (fun i p hi => hp.needs_lt i p hi) ops.toList plan 0 (σ.st ++ List.replicate (numA ops) .gone) [] [] (fun t st => K .normal t st) []
          (by simp) (by simp) rfl (Nat.zero_le _) (by simp [cnt]) (by simp [cnt]) (fun a => by simp) (by simpa [TL] using h)
        simp only [List.nil_append] at j1 j2 j3 j4
        have hnum : numA ops = cnt isA ops ops.size := by
          rw [cnt_all, idxs_eq]
          unfold numA
          have : ∀ (l : List Oper) (k : Nat), (∀ j, l[j]? = ops[k + j]?) → (l.filter fun o => isA o.op).length = (((List.range l.length).map (k + ·)).filter (isAt isA ops)).length := by
            intro l
            induction l with
            | nil => intro k _; rfl
            | cons o l ih =>
              intro k hl
              have h0 : ops[k]? = some o := by simpa using (hl 0).symm
              have ih := ih (k + 1) fun j => by have := hl (j + 1); simpa [Nat.add_assoc, Nat.add_comm 1 j] using this
              have hr2 : (List.range (o :: l).length).map (k + ·) = k :: (List.range l.length).map (k + 1 + ·) := by
                rw [List.length_cons, List.range_succ_eq_map, List.map_cons, List.map_map, Nat.add_zero]
                congr 1
                apply List.map_congr_left
                intro x _
                simp only [Function.comp]
                omega
              have hat : isAt isA ops k = isA o.op := by simp [isAt, h0]
              rw [hr2]
              by_cases hA : isA o.op = true
              · rw [List.filter_cons_of_pos (p := fun o : Oper => isA o.op) hA, List.filter_cons_of_pos (by rw [hat]; exact hA), List.length_cons, List.length_cons, ih]
              · rw [List.filter_cons_of_neg (p := fun o : Oper => isA o.op) hA, List.filter_cons_of_neg (by rw [hat]; exact hA), ih]
          have h1 := this ops.toList 0 (by simp)
          have h2 : (List.range ops.toList.length).map (0 + ·) = List.range ops.size := by
            rw [Array.length_toList]
            conv => rhs; rw [← List.map_id (List.range ops.size)]
            apply List.map_congr_left
            intro x _
            simp
          rw [h1, h2]
        have run : Run P C ops plan σ.st.length t (fun j => vs1.getD j .dead) (fun k => ((σ.st ++ List.replicate (numA ops) .gone) :: ss1).getD k []) xs1 := by
          refine ⟨fun i o p ho hpl => j4 i o p (Nat.zero_le _) ho hpl, j1, j2, fun b hb => ?_⟩
          simp only [List.getD_cons_zero]
          rw [List.getElem?_append_right (Nat.le_add_right _ _), Nat.add_sub_cancel_left, List.getElem?_replicate, if_pos (by rw [hnum]; exact hb)]
        have e0 : Stp P σ { σ with st := σ.st ++ List.replicate (numA ops) .gone } w { w with drawn := w.drawn + 1 } := by
          refine Stp.of rfl rfl rfl (Nat.le_refl _) (fun b _ hb => ⟨hb, rfl⟩) (fun b hb => ⟨hb, rfl⟩) (fun i ys hi => ⟨rfl, ys, ?_⟩) (fun i hi => ⟨rfl, ?_⟩) (fun i hi => ⟨rfl, ?_⟩) (fun i e ys n lo fz hi => ⟨ys, n, lo, fz, ?_, Nat.le_refl _, Nat.le_refl _, fun b k C _ _ hh => ?_⟩) (fun i es hi => ⟨?_, rfl⟩)
          · exact (List.getElem?_append_left (g.lt hi)).trans hi
          · exact hi.keep (List.getElem?_append_left hi.lt)
          · obtain ⟨s', p', pl', t', ps', a', b', hi⟩ := hi
            exact ⟨s', p', pl', t', ps', a', b', (List.getElem?_append_left (g.lt hi)).trans hi⟩
          · exact (List.getElem?_append_left (g.lt hi)).trans hi
          · obtain ⟨e, ys, n, lo, fz, s, us, fr, q1, q2, q3, q4, q5, q5', q6, q7, q8, q9, q10⟩ := hh
            exact ⟨e, ys, n, lo, fz, s, us, fr, (List.getElem?_append_left (g.lt q1)).trans q1, q2, q3, q4, q5, q5', q6, q7, RCl.mono (L := σ.L) (w := w) (L' := σ.L) (w' := { w with drawn := w.drawn + 1 }) (fun b hb => ⟨hb, rfl⟩) q8, q9, q10⟩
          · by_cases hil : i < σ.st.length
            · exact (List.getElem?_append_left hil).symm.trans hi
            · have hi : (σ.st ++ List.replicate (numA ops) .gone)[i]? = some (.held es) := hi
              rw [List.getElem?_append_right (by omega), List.getElem?_replicate] at hi
              split at hi <;> cases hi
        have g0 : Good P { σ with st := σ.st ++ List.replicate (numA ops) .gone } { w with drawn := w.drawn + 1 } := by
          refine ⟨fun i o hi => ?_, fun b i hb => ⟨(g.2.1 b i hb).1, by have := (g.2.1 b i hb).2; simp only [List.length_append]; omega⟩, g.2.2⟩
          by_cases hil : i < σ.st.length
          · have hi' : σ.st[i]? = some o := by rw [← hi]; exact (List.getElem?_append_left hil).symm
            exact RO.mono e0.toStq rfl rfl rfl (g.1 i o hi')
          · simp only at hi
            rw [List.getElem?_append_right (by omega), List.getElem?_replicate] at hi
            split at hi
            · cases hi; simp [RO]
            · cases hi
        refine wpIn_region_any hm ?_
        refine draw_any (P := P) (B := B) (σ0 := σ) (w0 := w) hp run hC hF ?_ ?_ ops.size (Array.replicate ops.size false) 0 a _ { σ with st := σ.st ++ List.replicate (numA ops) .gone } ?_ ?_
        · simp only [List.getD_cons_zero, List.length_append, List.length_replicate]
          rw [j2, hnum]
          exact Nat.le_refl _
        · intro a' w' σ' k1 k2 k3 k4
          refine hq _ _ _ σ' w' a' j3 ?_ k2 k3 k4
          exact k1
        · refine ⟨by simp, fun j hj => ?_, fun i hi => ?_, Nat.zero_le _, ?_, g0, e0, ?_⟩
          · rw [rep_false] at hj; cases hj
          · rw [rep_false]; simp
          · simp only [List.getD_cons_zero]
            have : ovOf σ.st.length xs1 (ordL ops xs1.length (Array.replicate ops.size false)) = fun _ => none := by
              funext x
              unfold ovOf
              rw [if_neg]
              rintro ⟨_, hm⟩
              obtain ⟨_, j, _, hj⟩ := ordL_mem.1 hm
              rw [rep_false] at hj; cases hj
            rw [this, over_none]
          · have e := TL_stop (ops := ops) (vs := fun j => vs1.getD j .dead) (S := fun i => (Array.replicate ops.size false).getD i false) (t0 := t) (m := 0) ops.size (Nat.zero_le _) fun i _ _ => rep_false _ _
            rw [e]
            exact hr.mono e0
        · exact Nat.le_trans (List.length_filter_le _ _) (by simp)
  | seq x y ihx ihy =>
    intro t a σ w K Q hok hR hB h g hr hq
    simp only [acode] at h
    simp only [codeOK, Bool.and_eq_true] at hok
    refine wpIn_seq (ihx t a σ w _ _ hok.1 hR hB h g hr fun e t' st' σ' w' a' k1 k2 k3 k4 k5 => ?_)
    subst k2
    cases e with
    | normal => exact ihy t' a' σ' w' K Q hok.2 (hR.mono k4) (Nat.le_trans hB k4.size) k1 k3 k5 fun e2 t2 st2 σ2 w2 a2 q1 q2 q3 q4 q5 => hq _ _ _ _ _ _ q1 q2 q3 (k4.trans q4) q5
    | _ => exact hq _ _ _ _ _ _ k1 rfl k3 k4 k5
  | cond c x y ihx ihy =>
    intro t a σ w K Q hok hR hB h g hr hq
    simp only [acode] at h
    split at h
    · rename_i b hc
      have he := hr.eval c
      rw [hc] at he
      simp only [RV] at he
      simp only [codeOK, Bool.and_eq_true] at hok
      refine wpIn_cond he ?_
      cases b with
      | true => exact ihx t a σ w K Q hok.1 hR hB (by simpa using h) g hr hq
      | false => exact ihy t a σ w K Q hok.2 hR hB (by simpa using h) g hr hq
    · exact h.elim
  | block id b ih =>
    intro t a σ w K Q hok hR hB h g hr hq
    simp only [acode] at h
    refine wpIn_block (ih t a σ w _ _ (by simpa [codeOK] using hok) hR hB h g hr fun e t' st' σ' w' a' k1 k2 k3 k4 k5 => ?_)
    cases e with
    | exit j =>
      simp only [Exit.inBlock]
      simp only at k1
      split
      · rename_i hj
        rw [if_pos hj] at k1
        exact hq _ _ _ _ _ _ k1 k2 k3 k4 k5
      · rename_i hj
        rw [if_neg hj] at k1
        exact hq _ _ _ _ _ _ k1 k2 k3 k4 k5
    | _ => exact hq _ _ _ _ _ _ k1 k2 k3 k4 k5
  | loop b ih =>
    intro t a σ w K Q hok hR hB h g hr hq
    simp only [acode] at h
    refine wpIn_loop_rounds m ?_
    have key : ∀ (k : Nat) (t : List V) (a : Act) (σ : Sg) (w : World) (K : ExK), HR ro σ → B ≤ w.heap.size → aloop (acode P C m pl b) k K t σ.st → Good P σ w → RT P B σ w t a → (∀ e t' st' σ' w' a', K e t' st' → σ'.st = st' → Good P σ' w' → Stp P σ σ' w w' → RT P B σ' w' t' a' → Q e a' w') → Code.roundsIn (Wr ro) 0 P b Q k a w := by
      intro k
      induction k with
      | zero => intro t a σ w K hR hB h g hr hq; exact h.elim
      | succ k ihk =>
        intro t a σ w K hR hB h g hr hq
        simp only [aloop] at h
        rw [roundsIn_succ]
        refine ih t a σ w _ _ (by simpa [codeOK] using hok) hR hB h g hr fun e t' st' σ' w' a' k1 k2 k3 k4 k5 => ?_
        subst k2
        cases e with
        | normal => exact ihk t' a' σ' w' K (hR.mono k4) (Nat.le_trans hB k4.size) k1 k3 k5 fun e2 t2 st2 σ2 w2 a2 q1 q2 q3 q4 q5 => hq _ _ _ _ _ _ q1 q2 q3 (k4.trans q4) q5
        | _ => exact hq _ _ _ _ _ _ k1 rfl k3 k4 k5
    exact key m t a σ w K hR hB h g hr hq
  | exit id =>
    intro t a σ w K Q hok hR hB h g hr hq
    exact wpIn_exit (hq _ _ _ σ w a h rfl g .refl hr)
  | ret =>
    intro t a σ w K Q hok hR hB h g hr hq
    exact wpIn_ret (hq _ _ _ σ w a h rfl g .refl hr)
  | rangeFunc gf ps asg body iha ihb =>
    intro t a σ w K Q hok hR hB h g hr hq
    simp only [acode] at h
    simp only [codeOK, Bool.and_eq_true] at hok
    split at h
    · rename_i f caps hgf
      split at h
      · exact h.elim
      rename_i hfs
      have hfe := hr.eval gf
      rw [hgf] at hfe
      simp only [RV] at hfe
      obtain ⟨us, hfe, hcaps⟩ := hfe
      obtain ⟨fn, hfn, hbody, hname⟩ := hF _ _ _ _ hfs h
      refine wpIn_rangeFunc fun fid _ => ?_
      -- what is entered, in a round and in none
      have ent : ∃ (l : Nat) (mk : List Deferred) (w1 : World) (σ1 : Sg) (r : Loop), (Instr.enterLoop fid a.tmps ps asg body ro).run P w = .ok (l, mk) w1 ∧ σ1.st = σ.st ++ [.loop .ready none pl t ps.toList asg body] ∧ σ1.φ σ.st.length = l ∧ Good P σ1 w1 ∧ Stp P σ σ1 w w1 ∧ RT P B σ1 w1 t { a with defers := mk ++ a.defers } := by
        have core : ∀ (w0 : World) (D : Nat) (mk : List Deferred), Good P σ w0 → Stp P σ σ w w0 → RT P B σ w0 t { a with defers := mk ++ a.defers } → ∃ (σ1 : Sg) (r : Loop), σ1.st = σ.st ++ [.loop .ready none pl t ps.toList asg body] ∧ σ1.φ σ.st.length = w0.heap.size ∧
            Good P σ1 (w0.alloc (.loop { state := .ready, pending := none, fn := fid, tmps := a.tmps, params := ps, assign := asg, body := body, defers := D })) ∧ Stp P σ σ1 w (w0.alloc (.loop { state := .ready, pending := none, fn := fid, tmps := a.tmps, params := ps, assign := asg, body := body, defers := D })) ∧
            RT P B σ1 (w0.alloc (.loop { state := .ready, pending := none, fn := fid, tmps := a.tmps, params := ps, assign := asg, body := body, defers := D })) t { a with defers := mk ++ a.defers } := by
          intro w0 D mk g0 p0 hr0
          have hst : Stp P σ (σ.push (.loop .ready none pl t ps.toList asg body) w0.heap.size (.obj σ.st.length)) w0 (w0.alloc (.loop { state := .ready, pending := none, fn := fid, tmps := a.tmps, params := ps, assign := asg, body := body, defers := D })) := Stp.push g0 (by simp) rfl rfl rfl (by show w0.heap.push _ = _; rfl)
          refine ⟨_, { state := .ready, pending := none, fn := fid, tmps := a.tmps, params := ps, assign := asg, body := body, defers := D }, rfl, by simp [Sg.push], Good.push g0 (by simp) rfl rfl rfl (by show w0.heap.push _ = _; rfl) (.inl rfl) ?_, p0.trans hst, hr0.mono hst⟩
          simp only [RO]
          exact ⟨{ state := .ready, pending := none, fn := fid, tmps := a.tmps, params := ps, assign := asg, body := body, defers := D }, by show (w0.heap.push _)[_]? = _; simp [Sg.push], rfl, rfl, RVl.mono hst.toStq hr0.1, rfl, rfl, rfl, by simp [Sg.push], hok.1, hok.2⟩
        cases hro : ro with
        | none =>
          have p0 : Stp P σ σ w (w.alloc (.deferred (some []))) := by
            have hh : ∀ b, b < w.heap.size → (w.alloc (.deferred (some []))).heap[b]? = w.heap[b]? := fun b hb => heap_push (w1 := w.alloc (.deferred (some []))) (by show w.heap.push _ = _; rfl) hb
            refine Stp.of rfl rfl rfl (by show _ ≤ (w.heap.push _).size; simp) (fun b hb hl => ⟨hl, hh b hb⟩) (fun b hb => ⟨hb, hh b (pers_lt g hb)⟩) (fun i ys hi => ⟨rfl, ys, hi⟩) (fun i hi => ⟨rfl, hi⟩) (fun i hi => ⟨rfl, hi⟩) (fun i e ys n lo fz hi => ⟨ys, n, lo, fz, hi, Nat.le_refl _, Nat.le_refl _, fun b k C _ _ hh2 => ?_⟩) (fun i es hi => ⟨hi, rfl⟩)
            obtain ⟨e, ys, n, lo, fz, s, us, fr, q1, q2, q3, q4, q5, q5', q6, q7, q8, q9, q10⟩ := hh2
            exact ⟨e, ys, n, lo, fz, s, us, fr, q1, q2, q3, q4, q5, q5', by rw [hh b (Array.getElem?_eq_some_iff.1 q6).1]; exact q6, q7, RCl.mono (L := σ.L) (L' := σ.L) (fun b hb => ⟨hb, hh b (pers_lt g hb)⟩) q8, q9, q10⟩
          have g0 : Good P σ (w.alloc (.deferred (some []))) := by
            refine ⟨fun i o hi => ?_, fun b i hb => ?_, fun b hb => g.2.2 b ?_⟩
            · by_cases hne : o = .gone
              · subst hne; simp [RO]
              · have hlt : σ.φ i < w.heap.size := by
                  have hr := g.1 i o hi
                  cases o with
                  | cells xs => obtain ⟨us, e, h1, _⟩ := hr; exact (Array.getElem?_eq_some_iff.1 h1).1
                  | row e xs n lo fz => obtain ⟨us, s, C, _, _, h1, _⟩ := hr; exact (Array.getElem?_eq_some_iff.1 h1).1
                  | map es => obtain ⟨ens, c, h1, _⟩ := hr; exact (Array.getElem?_eq_some_iff.1 h1).1
                  | held es => obtain ⟨ens, c, h1, _⟩ := hr; exact (Array.getElem?_eq_some_iff.1 h1).1
                  | loop s p pl t ps a b => obtain ⟨r, h1, _⟩ := hr; exact (Array.getElem?_eq_some_iff.1 h1).1
                  | gone => exact absurd rfl hne
                exact RO.mono p0.toStq rfl rfl (heap_push (w1 := w.alloc (.deferred (some []))) (by show w.heap.push _ = _; rfl) hlt) (g.1 i o hi)
            · have := g.2.1 b i hb
              exact ⟨Nat.lt_of_lt_of_le this.1 p0.size, this.2⟩
            · exact Nat.le_trans p0.size hb
          have hr0 : RT P B σ (w.alloc (.deferred (some []))) t { a with defers := [mark w.heap.size] ++ a.defers } := by
            obtain ⟨q1, Ds, q2, q3, q4⟩ := hr.mono p0
            obtain ⟨_, Ds', q2', q3', q4'⟩ := hr
            have hDD : Ds = Ds' := mark_inj (by rw [← q2, ← q2'])
            refine ⟨q1, w.heap.size :: Ds, by simp [q2], List.nodup_cons.2 ⟨fun hm => ?_, q3⟩, fun D hD => ?_⟩
            · rw [hDD] at hm
              have := (q4' _ hm).2.1
              omega
            · rcases List.mem_cons.1 hD with rfl | hD
              · exact ⟨hB, by show _ < (w.heap.push _).size; simp, g.2.2 _ (Nat.le_refl _), by show (w.heap.push _)[_]? = _; simp⟩
              · exact q4 D hD
          obtain ⟨σ1, r, c1, c2, c3, c4, c5⟩ := core _ w.heap.size _ g0 p0 hr0
          refine ⟨_, _, _, σ1, r, run_enterLoop_outer _ _ _ _ _, c1, ?_, c3, c4, c5⟩
          rw [c2]
          show (w.heap.push _).size = _
          simp
        | some l0 =>
          obtain ⟨i0, hl0, hi0⟩ := hR l0 hro
          obtain ⟨s', p', pl', t', ps', a', b', hi0⟩ := hi0
          have hro0 := g.1 _ _ hi0
          simp only [RO] at hro0
          obtain ⟨r0, h1, _⟩ := hro0
          rw [← hl0] at h1
          obtain ⟨σ1, r, c1, c2, c3, c4, c5⟩ := core w r0.defers [] g .refl (by simpa using hr)
          exact ⟨_, _, _, σ1, r, run_enterLoop_inner h1 _ _ _ _ _, c1, c2, c3, c4, c5⟩
      obtain ⟨l, mk, w1, σ1, r, h1, h2, h3, g1, p1, hr1⟩ := ent
      have hres : (resolve a.eval (rangeCall gf l) 0).run P w1 = .ok { target := .fn (.func f) us.toArray, args := #[.func (.yield l) #[] #[]] } w1 := by
        unfold resolve
        simp only [rangeCall]
        rw [hfe]
        simp [Deferred.ofValue, Act.eval]
      have hinv : (invoke (.fn (.func f) us.toArray) #[.func (.yield l) #[] #[]]).run P w1 = .ok (.enter f (.func (.yield l) #[] #[] :: us).toArray) w1 := by
        have := callFunc_run (w := w1) (args := (.func (.yield l) #[] #[] :: us).toArray) hfn hbody hname
        simpa [invoke] using this
      refine ⟨l, mk, w1, _, w1, f, _, w1, h1, hres, fun _ _ => trivial, hinv, fun h => (by simp [Wr, Fence.wide] at h), ?_⟩
      have hargs : RVl P σ1 w1 (.yl σ.st.length :: caps) (.func (.yield l) #[] #[] :: us) := by
        simp only [RVl]
        refine ⟨_, _, rfl, ?_, RVl.mono p1.toStq hcaps⟩
        simp only [RV]
        exact ⟨by rw [h3], _, _, _, _, _, _, _, by rw [h2]; exact push_new (σ := σ) (b := 0) (l := .frn)⟩
      have hcall := hC.fn _ _ _ _ hfs h σ1 w1 _ h2 g1 hargs
      refine (show CallsIn Fence.wide 0 P f _ w1 _ from hcall.mono fun e w3 hh => ?_)
      obtain ⟨v, u, st', σ', rfl, k1, rfl, k3, k4, k5⟩ := hh
      simp only [rangePost]
      split at k1
      · rename_i s pend pl' t' ps' asg' body' hl
        have hro := k3.1 _ _ hl
        simp only [RO] at hro
        obtain ⟨r3, q1, q2, q3, q4, q5, q6, q7, q8, q9⟩ := hro
        have hφ : σ'.φ σ.st.length = l := by
          rw [← h3]
          exact (k4.loop σ.st.length ⟨_, _, _, _, _, _, _, by rw [h2]; exact push_new (σ := σ) (b := 0) (l := .frn)⟩).1
        rw [hφ] at q1
        have hnb : r3.state ≠ .busy := fun hb => by
          rw [q2] at hb
          subst hb
          simp [loopEnd] at k1
        refine ⟨r3.pending, _, run_endLoop q1 hnb, ?_⟩
        obtain ⟨g4, p4⟩ := loop_set (s' := .exhausted) (p' := pend) k3 hl (r := r3) (by rw [hφ]; exact q1)
        rw [hφ] at g4 p4
        have pall := (p1.trans k4).trans p4
        have hrall := (hr1.mono k4).mono p4
        rw [q3]
        have hq' : ∀ e, K e t ((σ'.set σ.st.length (.loop .exhausted pend pl' t' ps' asg' body')).st) → Q e { a with defers := mk ++ a.defers } (w3.putObj l (.loop { r3 with state := .exhausted, pending := pend })) := fun e hk => hq e t _ _ _ _ hk rfl g4 pall hrall
        unfold loopEnd at k1
        cases pend with
        | none =>
          refine hq' .normal ?_
          cases s <;> first | exact k1.elim | exact k1
        | some c =>
          cases c with
          | ret => exact wpIn_ret (hq' .ret (by cases s <;> first | exact k1.elim | exact k1))
          | exit j => exact wpIn_exit (hq' (.exit j) (by cases s <;> first | exact k1.elim | exact k1))
          | _ => cases s <;> exact k1.elim
      · exact k1.elim
    · exact h.elim
  | _ =>
    intro t a σ w K Q hok hR hB h g hr hq
    exact h.elim
end
end Go.M
