/- What an operation looks at; temporaries of a region. -/
import Derived.Test.YtfndpnmdjblokaaM12
set_option linter.unusedVariables false
set_option linter.unusedSimpArgs false
namespace Go.M
open Go Go.RowKit
section
variable {P : Program}

theorem map_pairs {ρ ρ' : Operand → V} {ps : Array (Nat × Operand)} (h : ∀ x ∈ (ps.toList.map (·.2)).toArray, ρ x = ρ' x) : (ps.toList.map fun (p : Nat × Operand) => (p.1, ρ p.2)) = (ps.toList.map fun (p : Nat × Operand) => (p.1, ρ' p.2)) := by
  apply List.map_congr_left
  intro p hp
  rw [h p.2 (by simp only [List.mem_toArray, List.mem_map]; exact ⟨p, hp, rfl⟩)]
theorem map_opt {ρ ρ' : Operand → V} {x : Option Operand} (h : ∀ y ∈ x.toArray, ρ y = ρ' y) : x.map ρ = x.map ρ' := by
  cases x with
  | none => rfl
  | some y => simp only [Option.map_some]; rw [h y (by simp)]

theorem aval_congr {ρ ρ' : Operand → V} {st : List Ob} {o : Oper} (h : ∀ x ∈ o.op.operands, ρ x = ρ' x) : aval P ρ st o = aval P ρ' st o := by
  obtain ⟨dst, op, ty, pos, after, gd⟩ := o
  simp only at h
  cases op with
  | build t ps => simp only [Op.operands] at h; simp only [aval, map_pairs h]
  | buildSlice t n ps => simp only [Op.operands] at h; simp only [aval, map_pairs h]
  | slice t x lo hi mx =>
    simp only [Op.operands, Array.mem_append] at h
    have h1 := h x (by simp)
    have h2 := map_opt (x := lo) fun y hy => h y (.inl (.inl (.inr hy)))
    have h3 := map_opt (x := hi) fun y hy => h y (.inl (.inr hy))
    have h4 := map_opt (x := mx) fun y hy => h y (.inr hy)
    simp only [aval, h1, h2, h3, h4]
  | makeFunc f first caps =>
    simp only [Op.operands, Array.mem_append] at h
    have : caps.toList.map ρ = caps.toList.map ρ' := List.map_congr_left fun x hx => h x (.inr (by simpa using hx))
    simp only [aval, this]
  | alloc t => simp only [aval]
  | move x => have h1 := h x (by simp [Op.operands]); simp only [aval, h1]
  | assign x => have h1 := h x (by simp [Op.operands]); simp only [aval, h1]
  | pick c a b => have h1 := h c (by simp [Op.operands]); have h2 := h a (by simp [Op.operands]); have h3 := h b (by simp [Op.operands]); simp only [aval, h1, h2, h3]
  | box t x => have h1 := h x (by simp [Op.operands]); simp only [aval, h1]
  | load t x => have h1 := h x (by simp [Op.operands]); simp only [aval, h1]
  | store t x y => have h1 := h x (by simp [Op.operands]); have h2 := h y (by simp [Op.operands]); simp only [aval, h1, h2]
  | nilCheck x => have h1 := h x (by simp [Op.operands]); simp only [aval, h1]
  | binOp op t x y t2 => have h1 := h x (by simp [Op.operands]); have h2 := h y (by simp [Op.operands]); simp only [aval, h1, h2]
  | unOp op t x => have h1 := h x (by simp [Op.operands]); simp only [aval, h1]
  | convert s d x => have h1 := h x (by simp [Op.operands]); simp only [aval, h1]
  | fieldAddr t x i => have h1 := h x (by simp [Op.operands]); simp only [aval, h1]
  | field t x i => have h1 := h x (by simp [Op.operands]); simp only [aval, h1]
  | indexAddr t x i => have h1 := h x (by simp [Op.operands]); have h2 := h i (by simp [Op.operands]); simp only [aval, h1, h2]
  | index t x i => have h1 := h x (by simp [Op.operands]); have h2 := h i (by simp [Op.operands]); simp only [aval, h1, h2]
  | extract x i => have h1 := h x (by simp [Op.operands]); simp only [aval, h1]
  | _ => simp only [aval]

theorem aobj_congr {ρ ρ' : Operand → V} {id : Nat} {o : Oper} (h : ∀ x ∈ o.op.operands, ρ x = ρ' x) : aobj P ρ id o = aobj P ρ' id o := by
  obtain ⟨dst, op, ty, pos, after, gd⟩ := o
  simp only at h
  cases op with
  | buildSlice t n ps => simp only [Op.operands] at h; simp only [aobj, map_pairs h]
  | box t x => have h1 := h x (by simp [Op.operands]); simp only [aobj, h1]
  | _ => simp only [aobj]

/-- The same at all that an operation looks at. -/
def Agree (ops : Array Oper) (o : Oper) (t t' : List V) : Prop := ∀ d ∈ o.looksAt ops, t.getD d .dead = t'.getD d .dead
theorem Agree.op {ops : Array Oper} {o : Oper} {t t' : List V} (h : Agree ops o t t') : ∀ x ∈ o.op.operands, aev t x = aev t' x := fun x hx => by
  cases x with
  | tmp d => exact h d (List.mem_append_left _ (List.mem_filterMap.2 ⟨.tmp d, by simpa using hx, rfl⟩))
  | _ => rfl
theorem Agree.wanted {ops : Array Oper} {o : Oper} {t t' : List V} (h : Agree ops o t t') : awanted ops t o = awanted ops t' o := by
  unfold awanted
  cases hg : o.guard with
  | none => rfl
  | some jw =>
    obtain ⟨j, want⟩ := jw
    simp only
    cases hd : (ops[j]?).bind (·.dst) with
    | none => rfl
    | some d =>
      simp only
      rw [h d (List.mem_append_right _ (by simp [hg, hd]))]

theorem call_args {c : Call} {ρ ρ' : Operand → V} (h : ∀ x ∈ c.operands, ρ x = ρ' x) : c.args.toList.map ρ = c.args.toList.map ρ' ∧ ∀ f, c.callee = .value f → ρ f = ρ' f := by
  obtain ⟨cal, args, ats⟩ := c
  refine ⟨List.map_congr_left fun x hx => h x ?_, fun f hf => h f ?_⟩
  · cases cal <;> simp [Call.operands] at hx ⊢ <;> simp [hx]
  · simp only at hf
    subst hf
    simp [Call.operands]

theorem qop_congr {ops : Array Oper} {o : Oper} {t t' : List V} {st : List Ob} (h : Agree ops o t t') : qop P o t st = qop P o t' st := by
  have ho := h.op
  unfold qop
  split
  · rename_i c hc
    rw [hc] at ho
    simp only [Op.operands] at ho
    rw [(call_args ho).1]
  · rw [aval_congr ho]

theorem aop_congr {C : CallK} {ops : Array Oper} {o : Oper} {t t' : List V} {st : List Ob} {K : V → List Ob → Prop} (h : Agree ops o t t') : aop P C o t st K = aop P C o t' st K := by
  have ho := h.op
  unfold aop
  split
  · rename_i c hc
    rw [hc] at ho
    simp only [Op.operands] at ho
    obtain ⟨h1, h2⟩ := call_args ho
    unfold acall
    split
    · rename_i f hf
      rw [h1, h2 f hf]
    · rw [h1]
    · rfl
  · rw [aval_congr ho]

/-! ### Temporaries -/
def dstOf (ops : Array Oper) (i : Nat) : Option Tmp := (ops[i]?).bind (·.dst)
def TL (ops : Array Oper) (vs : Nat → V) (S : Nat → Bool) (t0 : List V) : Nat → List V
  | 0 => t0
  | i + 1 => if S i = true then aput (TL ops vs S t0 i) (dstOf ops i) (vs i) else TL ops vs S t0 i

variable {ops : Array Oper} {vs : Nat → V} {S S' : Nat → Bool} {t0 : List V}
theorem aput_len (t : List V) (d : Option Tmp) (v : V) : (aput t d v).length = t.length := by cases d <;> simp [aput]
theorem TL_len : ∀ n, (TL ops vs S t0 n).length = t0.length
  | 0 => rfl
  | n + 1 => by
    simp only [TL]
    split
    · rw [aput_len, TL_len n]
    · exact TL_len n
theorem aput_getD (t : List V) (d : Option Tmp) (v : V) (x : Nat) : (aput t d v).getD x .dead = if d = some x ∧ x < t.length then v else t.getD x .dead := by
  cases d with
  | none => simp [aput]
  | some d =>
    simp only [aput, List.getD_eq_getElem?_getD, List.getElem?_set]
    by_cases hx : d = x
    · subst hx
      by_cases hl : d < t.length
      · simp [hl]
      · simp [hl]
    · simp [hx]
theorem TL_agree {d : Nat} : ∀ n, (∀ i, i < n → dstOf ops i = some d → S i = S' i) → (TL ops vs S t0 n).getD d .dead = (TL ops vs S' t0 n).getD d .dead
  | 0, _ => rfl
  | n + 1, h => by
    have ih := TL_agree n fun i hi => h i (by omega)
    have key : ∀ S'' : Nat → Bool, (TL ops vs S'' t0 (n + 1)).getD d .dead = if S'' n = true ∧ dstOf ops n = some d ∧ d < t0.length then vs n else (TL ops vs S'' t0 n).getD d .dead := fun S'' => by
      simp only [TL]
      split
      · rename_i hs
        rw [aput_getD, TL_len]
        simp [hs]
      · rename_i hs
        simp [hs]
    rw [key S, key S', ih]
    by_cases hd : dstOf ops n = some d
    · rw [h n (by omega) hd]
    · simp [hd]
theorem TL_congr : ∀ n, (∀ i, i < n → S i = S' i) → TL ops vs S t0 n = TL ops vs S' t0 n
  | 0, _ => rfl
  | n + 1, h => by simp only [TL]; rw [TL_congr n fun i hi => h i (by omega), h n (by omega)]
theorem TL_vs {vs' : Nat → V} : ∀ n, (∀ i, i < n → vs i = vs' i) → TL ops vs S t0 n = TL ops vs' S t0 n
  | 0, _ => rfl
  | n + 1, h => by simp only [TL]; rw [TL_vs n fun i hi => h i (by omega), h n (by omega)]
theorem TL_stop {m : Nat} : ∀ n, m ≤ n → (∀ i, m ≤ i → i < n → S i = false) → TL ops vs S t0 n = TL ops vs S t0 m
  | 0, hm, _ => by rw [show m = 0 by omega]
  | n + 1, hm, h => by
    by_cases hmn : m = n + 1
    · rw [hmn]
    · simp only [TL]
      rw [h n (by omega) (by omega)]
      simp only [Bool.false_eq_true, if_false]
      exact TL_stop n (by omega) fun i h1 h2 => h i h1 (by omega)
theorem aput_comm (t : List V) {d d' : Option Tmp} (v v' : V) (h : ∀ x, d = some x → d' ≠ some x) : aput (aput t d v) d' v' = aput (aput t d' v') d v := by
  cases d with
  | none => simp [aput]
  | some x =>
    cases d' with
    | none => simp [aput]
    | some y => exact List.set_comm _ _ (fun he => h x rfl (by rw [he]))
/-- One more. -/
theorem TL_set {i : Nat} (hi : S i = false) (hS : ∀ j, j ≠ i → S' j = S j) (hS' : S' i = true) : ∀ n, i < n → (∀ j, i < j → j < n → S j = true → ∀ x, dstOf ops i = some x → dstOf ops j ≠ some x) →
    TL ops vs S' t0 n = aput (TL ops vs S t0 n) (dstOf ops i) (vs i)
  | 0, h, _ => by omega
  | n + 1, h, hd => by
    by_cases hn : i = n
    · subst hn
      simp only [TL, hi, hS', if_true, Bool.false_eq_true, if_false]
      rw [TL_congr i fun j hj => hS j (by omega)]
    · have ih := TL_set hi hS hS' n (by omega) fun j h1 h2 => hd j h1 (by omega)
      simp only [TL]
      rw [hS n (Ne.symm hn), ih]
      split
      · rename_i hs
        exact aput_comm _ _ _ (hd n (by omega) (by omega) hs)
      · rfl
end
end Go.M
