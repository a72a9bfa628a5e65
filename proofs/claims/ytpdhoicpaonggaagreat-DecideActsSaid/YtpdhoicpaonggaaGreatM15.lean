/- Loops by an invariant; what grows; bytes. -/
import Derived.Test.YtpdhoicpaonggaaGreatM14
set_option linter.unusedVariables false
set_option linter.unusedSimpArgs false
namespace Go.M
open Go Go.RowKit
section
variable {P : Program} {C : CallK} {m : Nat}

def CMono (C : CallK) : Prop := ∀ f args st (K K' : V → List Ob → Prop), (∀ v st, K v st → K' v st) → C f args st K → C f args st K'

theorem acall_mono (hC : CMono C) {c : Call} {ty : TypeId} {ρ : Operand → V} {st : List Ob} {K K' : V → List Ob → Prop} (hk : ∀ v st, K v st → K' v st) (h : acall P C c ty ρ st K) : acall P C c ty ρ st K' := by
  unfold acall at h ⊢
  split at h
  · split at h
    · split at h
      · exact h.elim
      · rename_i hg; simp only [hg, if_false]; exact hC _ _ _ _ _ hk h
    · exact hC _ _ _ _ _ hk h
    · exact h.elim
  · split at h
    · exact hk _ _ h
    · split at h
      · exact hk _ _ h
      · exact h.elim
  · exact h.elim
theorem aop_mono (hC : CMono C) {o : Oper} {t : List V} {st : List Ob} {K K' : V → List Ob → Prop} (hk : ∀ v st, K v st → K' v st) (h : aop P C o t st K) : aop P C o t st K' := by
  unfold aop at h ⊢
  split
  · rename_i c hc
    simp only [hc] at h
    exact acall_mono hC hk h
  · rename_i hne
    split at h
    · rename_i c hc
      exact absurd hc (hne c)
    · split
      · rename_i v st' hv
        simp only [hv] at h
        exact hk _ _ h
      · rename_i hv
        simp only [hv] at h

theorem aops_mono (hC : CMono C) {ops : Array Oper} : ∀ {l : List Oper} {t : List V} {st : List Ob} {K K' : List V → List Ob → Prop}, (∀ t st, K t st → K' t st) → aops P C ops l t st K → aops P C ops l t st K'
  | [], t, st, K, K', hk, h => hk _ _ h
  | o :: l, t, st, K, K', hk, h => by
    simp only [aops] at h ⊢
    split
    · rename_i hw
      simp only [hw] at h
      exact aop_mono hC (fun v st h => aops_mono hC hk h) h
    · rename_i hw
      simp only [hw] at h
      exact aops_mono hC hk h
    · rename_i hw
      simp only [hw] at h

theorem aloop_mono {body : ExK → List V → List Ob → Prop} (hb : ∀ (K K' : ExK) t st, (∀ e t st, K e t st → K' e t st) → body K t st → body K' t st) : ∀ (k : Nat) {K K' : ExK} {t : List V} {st : List Ob}, (∀ e t st, K e t st → K' e t st) → aloop body k K t st → aloop body k K' t st
  | 0, K, K', t, st, hk, h => h
  | k + 1, K, K', t, st, hk, h => by
    simp only [aloop] at h ⊢
    refine hb _ _ _ _ (fun e t st h => ?_) h
    cases e with
    | normal => exact aloop_mono hb k hk h
    | _ => exact hk _ _ _ h

theorem adraw_mono (hC : CMono C) {ops : Array Oper} {plan : List PI} {base : Nat} : ∀ {l : List Oper} {ps : List PI} {t : List V} {st : List Ob} {hs : List (List Ob)} {xs : List (Option Ob)} {K K' : List V → List Ob → Prop}, (∀ t st, K t st → K' t st) →
    adraw P C ops plan base l ps t st hs xs K → adraw P C ops plan base l ps t st hs xs K'
  | [], ps, t, st, hs, xs, K, K', hk, h => by
    have e : ∀ K : List V → List Ob → Prop, adraw P C ops plan base [] ps t st hs xs K = K t (patch base xs (List.range xs.length) st) := fun K => by cases ps <;> simp [adraw]
    rw [e] at h ⊢
    exact hk _ _ h
  | o :: l, [], t, st, hs, xs, K, K', hk, h => by
    simp only [adraw] at h ⊢
    exact hk _ _ h
  | o :: l, p :: ps, t, st, hs, xs, K, K', hk, h => by
    simp only [adraw] at h ⊢
    split
    · rename_i hw
      simp only [hw] at h
      split
      · rename_i hA
        simp only [hA, if_true] at h
        split
        · rename_i v X hX
          simp only [hX] at h
          exact adraw_mono hC hk h
        · rename_i hX
          simp only [hX] at h
      · rename_i hA
        simp only [hA, Bool.false_eq_true, if_false] at h
        split
        · rename_i hQ
          simp only [hQ, if_true] at h
          split
          · rename_i v hv
            simp only [hv] at h
            exact ⟨h.1, adraw_mono hC hk h.2⟩
          · rename_i hv
            simp only [hv] at h
        · rename_i hQ
          simp only [hQ, Bool.false_eq_true, if_false] at h
          exact aop_mono hC (fun v st h => ⟨h.1, adraw_mono hC hk h.2⟩) h
    · rename_i hw
      simp only [hw] at h
      exact adraw_mono hC hk h
    · rename_i hw
      simp only [hw] at h

theorem loopEnd_mono {s : LoopState} {p : Option Code} {K K' : Exit → Prop} (hk : ∀ e, K e → K' e) (h : loopEnd s p K) : loopEnd s p K' := by
  unfold loopEnd at h ⊢
  split at h
  · exact h
  · cases s <;> first | exact h.elim | exact hk _ h
  · cases s <;> first | exact h.elim | exact hk _ h
  · cases s <;> first | exact h.elim | exact hk _ h
  · exact h.elim
theorem acode_mono {pl : Nat → Option (List PI)} (hC : CMono C) : ∀ (c : Code) {K K' : ExK} {t : List V} {st : List Ob}, (∀ e t st, K e t st → K' e t st) → acode P C m pl c K t st → acode P C m pl c K' t st := by
  intro c
  induction c with
  | skip => intro K K' t st hk h; simp only [acode] at h ⊢; exact hk _ _ _ h
  | region id ops draw =>
    intro K K' t st hk h
    cases draw with
    | false =>
      simp only [acode] at h ⊢
      exact aops_mono hC (fun t st h => hk _ _ _ h) h
    | true =>
      simp only [acode] at h ⊢
      split
      · rename_i hpl
        simp only [hpl] at h
        exact aops_mono hC (fun t st h => hk _ _ _ h) h
      · rename_i plan hpl
        simp only [hpl] at h
        exact adraw_mono hC (fun t st h => hk _ _ _ h) h
  | seq a b iha ihb =>
    intro K K' t st hk h
    simp only [acode] at h ⊢
    refine iha (fun e t st h => ?_) h
    cases e with
    | normal => exact ihb hk h
    | _ => exact hk _ _ _ h
  | cond c a b iha ihb =>
    intro K K' t st hk h
    simp only [acode] at h ⊢
    split
    · rename_i x hx
      simp only [hx] at h
      split
      · rename_i hx1
        rw [if_pos hx1] at h
        exact iha hk h
      · rename_i hx1
        rw [if_neg hx1] at h
        exact ihb hk h
    · rename_i hx
      split at h
      · rename_i x hx'
        exact absurd hx' (hx x)
      · exact h
  | block id b ih =>
    intro K K' t st hk h
    simp only [acode] at h ⊢
    refine ih (fun e t st h => ?_) h
    cases e with
    | exit j =>
      simp only at h ⊢
      split
      · rename_i hj; rw [if_pos hj] at h; exact hk _ _ _ h
      · rename_i hj; rw [if_neg hj] at h; exact hk _ _ _ h
    | _ => exact hk _ _ _ h
  | loop b ih =>
    intro K K' t st hk h
    simp only [acode] at h ⊢
    exact aloop_mono (body := acode P C m pl b) (fun K K' t st hk h => ih hk h) m hk h
  | exit id => intro K K' t st hk h; simp only [acode] at h ⊢; exact hk _ _ _ h
  | ret => intro K K' t st hk h; simp only [acode] at h ⊢; exact hk _ _ _ h
  | rangeFunc g ps a b iha ihb =>
    intro K K' t st hk h
    rw [acode_rangeFunc] at h ⊢
    unfold rfK at h ⊢
    split at h
    · split at h
      · exact h.elim
      · rename_i hg
        simp only [hg, if_false]
        refine hC _ _ _ _ _ (fun v st h => ?_) h
        unfold rfEnd at h ⊢
        split at h
        · exact loopEnd_mono (fun e h => hk _ _ _ h) h
        · exact h.elim
    · exact h.elim
  | _ => intro K K' t st hk h; simp [acode] at h
theorem around_mono (hC : CMono C) {id : Nat} {args : List V} {st : List Ob} {K K' : V → List Ob → Prop} (hk : ∀ v st, K v st → K' v st) (h : around P C m id args st K) : around P C m id args st K' := by
  unfold around at h ⊢
  split at h
  · refine ⟨h.1, acode_mono hC _ (fun e t1 st1 h => ⟨h.1, ?_⟩) h.2⟩
    have h2 := h.2
    split at h2
    · refine acode_mono hC _ (fun e t2 st2 h => ?_) h2
      split at h
      · split at h
        · exact hk _ _ h
        · exact h.elim
      · exact h.elim
    · exact h2.elim
  · exact h.elim

theorem acallF_mono {pl : Plans} : ∀ n, CMono (acallF P pl n m)
  | 0 => fun f args st K K' hk h => h
  | n + 1 => fun f args st K K' hk h => by
    simp only [acallF] at h ⊢
    split
    · rename_i fn hf
      simp only [hf] at h
      rcases h with ⟨v, st', ht, h⟩ | h
      · exact .inl ⟨v, st', ht, hk _ _ h⟩
      refine .inr ?_
      split
      · rename_i pg pe hp
        simp only [hp] at h
        split
        · rename_i v st' hs
          simp only [hs] at h
          exact hk _ _ h
        · rename_i hs
          simp only [hs] at h
      rename_i hp
      simp only [hp] at h
      split
      · rename_i c hc
        simp only [hc] at h
        refine acode_mono (acallF_mono n) c (fun e t st h => ⟨h.1, ?_⟩) h
        have h2 := h.2
        split
        · rename_i v hv
          simp only [hv] at h2
          exact hk _ _ h2
        · rename_i hv
          simp only [hv] at h2
      · rename_i hc
        simp only [hc] at h
    · rename_i hf
      simp only [hf] at h
      split at h
      · rename_i hfs
        rw [if_pos hfs]
        split at h
        · exact around_mono (acallF_mono n) hk h
        · exact h.elim
      · exact h.elim

def invK (J : List V → List Ob → Prop) (K : ExK) : ExK := fun e t st => match e with
  | .normal => J t st
  | e => K e t st
theorem invK_normal {J : List V → List Ob → Prop} {K : ExK} {t : List V} {st : List Ob} : invK J K .normal t st = J t st := propext ⟨fun h => h, fun h => h⟩
theorem invK_exit {J : List V → List Ob → Prop} {K : ExK} {t : List V} {st : List Ob} (j : Nat) : invK J K (.exit j) t st = K (.exit j) t st := propext ⟨fun h => h, fun h => h⟩
theorem invK_ret {J : List V → List Ob → Prop} {K : ExK} {t : List V} {st : List Ob} : invK J K .ret t st = K .ret t st := propext ⟨fun h => h, fun h => h⟩

theorem aloop_inv {pl : Plans} {pf : Nat → Option (List PI)} {n : Nat} {b : Code} {K : ExK} (I : Nat → List V → List Ob → Prop)
    (step : ∀ k t st, I k t st → ∃ j, k = j + 1 ∧ acode P (acallF P pl n m) m pf b (invK (I j) K) t st) : ∀ k t st, I k t st → aloop (acode P (acallF P pl n m) m pf b) k K t st := by
  intro k
  induction k with
  | zero => intro t st h; obtain ⟨j, hj, _⟩ := step 0 t st h; omega
  | succ k ih =>
    intro t st h
    obtain ⟨j, hj, hs⟩ := step _ t st h
    obtain rfl : j = k := by omega
    simp only [aloop]
    refine acode_mono (acallF_mono n) b (fun e t st h => ?_) hs
    cases e with
    | normal => exact ih t st h
    | _ => exact h
end

theorem get_new (b X : List Ob) (n : Nat) : (b ++ X)[b.length + n]? = X[n]? := by rw [List.getElem?_append_right (by omega), Nat.add_sub_cancel_left]
theorem get_new0 (b X : List Ob) : (b ++ X)[b.length]? = X[0]? := get_new b X 0
theorem set_new (b X : List Ob) (n : Nat) (o : Ob) : (b ++ X).set (b.length + n) o = b ++ X.set n o := by rw [List.set_append_right _ _ (by omega), Nat.add_sub_cancel_left]
theorem set_new0 (b X : List Ob) (o : Ob) : (b ++ X).set b.length o = b ++ X.set 0 o := set_new b X 0 o
theorem get_old {b : List Ob} {i : Nat} (h : i < b.length) (X : List Ob) : (b ++ X)[i]? = b[i]? := List.getElem?_append_left h
theorem set_old {b : List Ob} {i : Nat} (h : i < b.length) (X : List Ob) (o : Ob) : (b ++ X).set i o = b.set i o ++ X := List.set_append_left _ _ h

def bs (l : List Int) : List V := l.map fun n => .sc (.int .u8 n)
theorem closed_bs : ∀ l, closedL (bs l) = true
  | [] => rfl
  | n :: l => by simp only [bs, List.map_cons, closedL, closed, Bool.true_and]; exact closed_bs l
section
variable {P : Program} {st st' : List Ob} {t e : TypeId} {v : V} {xs : List V} {n : Nat}

def Rd (P : Program) (st : List Ob) (e : TypeId) (v : V) (xs : List V) (n : Nat) : Prop := elems P st e v = some (xs, n) ∧ ((∀ b, v ≠ .sc (.string b)) ∧ (nilV v = true → n = 0)) ∧ ∀ s, szOf P e = some s → xs.length = n * s

theorem Grw.refl (st : List Ob) : Grw st st := fun _ _ h => h
theorem Grw.trans {a b c : List Ob} (h : Grw a b) (k : Grw b c) : Grw a c := fun i o hi => k i o (h i o hi)
theorem Grw.push (st X : List Ob) : Grw st (st ++ X) := fun i o' h => by
  rw [List.getElem?_append_left (List.getElem?_eq_some_iff.1 h).1]; exact h
theorem Grw.push' {a st : List Ob} (h : Grw a st) (X : List Ob) : Grw a (st ++ X) := h.trans (.push st X)
theorem Grw.set {a st : List Ob} (h : Grw a st) {id : Nat} (hid : a.length ≤ id) (o : Ob) : Grw a (st.set id o) := fun i o' hi => by
  have := (List.getElem?_eq_some_iff.1 hi).1
  rw [List.getElem?_set_ne (by omega)]
  exact h i o' hi
theorem Grw.le {a b : List Ob} (h : Grw a b) : a.length ≤ b.length := by
  cases a with
  | nil => simp
  | cons x a =>
    have := h (x :: a).length.pred (((x :: a)[(x :: a).length.pred]'(by simp))) (List.getElem?_eq_getElem (by simp))
    have := (List.getElem?_eq_some_iff.1 this).1
    simp at this ⊢
    omega
theorem Rd.grw (h : Rd P st e v xs n) (k : Grw st st') : Rd P st' e v xs n := by
  refine ⟨?_, h.2⟩
  have h1 := h.1
  unfold elems at h1 ⊢
  cases v with
  | sl id off len full gg =>
    simp only at h1 ⊢
    split at h1
    · rename_i e' xs' n' lo fz s hst hs
      rw [k _ _ hst]
      simp only [hs]
      exact h1
    · cases h1
  | sc v => cases v <;> simp only at h1 ⊢ <;> first | exact h1 | cases h1
  | _ => simp only at h1 ⊢ <;> first | exact h1 | cases h1
theorem Rd.cases (h : Rd P st e v xs n) : (∃ nil full, v = .tsl xs n nil full) ∨ ∃ id off full g ys m lo fz s, v = .sl id off n full g ∧ st[id]? = some (.row e ys m lo fz) ∧ szOf P e = some s ∧ (lo ≤ g ∧ off + n ≤ g) ∧ xs = (ys.drop (off * s)).take (n * s) := by
  obtain ⟨h1, h2, h3⟩ := h
  unfold elems at h1
  cases v with
  | sl id off len full gg =>
    simp only at h1
    split at h1
    · rename_i e' xs' n' lo fz s hst hs
      split at h1
      · rename_i hc
        simp only [Option.some.injEq, Prod.mk.injEq] at h1
        obtain ⟨rfl, rfl⟩ := h1
        obtain ⟨rfl, hlo⟩ := hc
        exact .inr ⟨_, _, _, _, _, _, _, _, _, rfl, hst, hs, hlo, rfl⟩
      · cases h1
    · cases h1
  | tsl ys m nil full => simp only [Option.some.injEq, Prod.mk.injEq] at h1; obtain ⟨rfl, rfl⟩ := h1; exact .inl ⟨_, _, rfl⟩
  | sc v => cases v <;> simp only at h1 <;> first | exact absurd rfl (h2.1 _) | cases h1
  | _ => simp only at h1; cases h1

def ixp (s : Nat) (v : V) (j off : Nat) : V := match v with
  | .tsl xs _ _ _ => .tref (xs.drop (j * s + off))
  | .sl id o len _ g => .rref id ((o + j) * s + off) g
  | _ => .dead

def aix (P : Program) (st : List Ob) (t : TypeId) (v i : V) : Option (V × List Ob) := match asI i with
  | some j => match P.underlying t, v with
    | some (.array n e), .ref id o => match szOf P e with
      | some s => if 0 ≤ j ∧ j < n then some (.ref id (o + j.toNat * s), st) else none
      | none => none
    | some (.slice e), .sl id off len _ g => match st[id]?, szOf P e with
      | some (.row e' _ _ lo _), some s => if e' = e ∧ 0 ≤ j ∧ j < len ∧ lo ≤ g then some (.rref id ((off + j.toNat) * s) g, st) else none
      | _, _ => none
    | some (.slice e), .tsl xs len _ _ => match szOf P e with
      | some s => if 0 ≤ j ∧ j < len then some (.tref (xs.drop (j.toNat * s)), st) else none
      | none => none
    | _, _ => none
  | none => none
def ald (P : Program) (st : List Ob) (t : TypeId) (a : V) : Option (V × List Ob) := match a with
  | .ref id off => match st[id]? with
    | some (.cells xs) => (aload P t (xs.drop off)).map (·, st)
    | _ => none
  | .rref id off e => match st[id]? with
    | some (.row ty xs _ lo _) => match szOf P t, szOf P ty with
      | some k, some s => if lo ≤ e ∧ 0 < k ∧ off + k ≤ e * s then (aload P t (xs.drop off)).map (·, st) else none
      | _, _ => none
    | _ => none
  | .tref xs => (aload P t xs).map (·, st)
  | _ => none
def afa (P : Program) (st : List Ob) (t : TypeId) (i : Nat) (v : V) : Option (V × List Ob) := match fieldOf P t i with
  | some (off, s, _) => if s = 0 then none else match v with
    | .ref id o => some (.ref id (o + off), st)
    | .rref id o e => some (.rref id (o + off) e, st)
    | .tref xs => some (.tref (xs.drop off), st)
    | _ => none
  | none => none
def alen (P : Program) (st : List Ob) (t : TypeId) (x : V) : Option (V × List Ob) := match P.underlying t, x with
  | some (.slice _), .sl _ _ n _ _ => some (.sc (.int .i64 n), st)
  | some (.slice _), .tsl _ n _ _ => some (.sc (.int .i64 n), st)
  | some .string, .sc (.string b) => some (.sc (.int .i64 b.size), st)
  | _, _ => none
variable {ρ : Operand → V} {dst : Option Tmp} {ty : TypeId} {pos : String} {after : Array Edge} {gd : Option (Nat × Bool)}
theorem aval_ix (x i : Operand) : aval P ρ st { dst := dst, op := .indexAddr t x i, type := ty, pos := pos, after := after, guard := gd } = aix P st t (ρ x) (ρ i) := id rfl
theorem aval_ld (x : Operand) : aval P ρ st { dst := dst, op := .load t x, type := ty, pos := pos, after := after, guard := gd } = ald P st t (ρ x) := id rfl
theorem aval_fa (x : Operand) (i : Nat) : aval P ρ st { dst := dst, op := .fieldAddr t x i, type := ty, pos := pos, after := after, guard := gd } = afa P st t i (ρ x) := id rfl
theorem ab_len (x : V) : abuiltin P st .len #[t] [x] = alen P st t x := id rfl

theorem eqGuard_map (op : BinOp) (t : TypeId) (x y : Operand) (A B : Option Nat) : eqGuard op t x y (.map A) (.map B) = pure () := by
  unfold eqGuard
  cases op <;> rfl
theorem pr_eqnilm {t k e : TypeId} (h : P.underlying t = some (.map k e)) (x y : Operand) : pureRun P (do eqGuard .eql t x y (.map none) (.map none); binOp .eql t (.map none) (.map none)) = some (.bool true) := by
  rw [eqGuard_map]
  simp only [pureRun_bind, pureRun_pure, Option.bind_some]
  show pureRun P (do pure (Value.bool (← Op.equalIn (9999 + 1) t (.map none) (.map none)))) = _
  rw [pureRun_bind, Op.equalIn, pureRun_bind, pureRun_underlying h]
  rfl
theorem pr_nenilm {t k e : TypeId} (h : P.underlying t = some (.map k e)) (x y : Operand) : pureRun P (do eqGuard .neq t x y (.map none) (.map none); binOp .neq t (.map none) (.map none)) = some (.bool false) := by
  rw [eqGuard_map]
  simp only [pureRun_bind, pureRun_pure, Option.bind_some]
  show pureRun P (do pure (Value.bool (!(← Op.equalIn (9999 + 1) t (.map none) (.map none))))) = _
  rw [pureRun_bind, Op.equalIn, pureRun_bind, pureRun_underlying h]
  rfl
theorem alen_map (id : Nat) : alen P st t (.map id) = none := by
  simp only [alen]
  cases P.underlying t with
  | none => rfl
  | some d => cases d <;> rfl
theorem alen_nilmap : alen P st t (.sc (.map none)) = none := by
  simp only [alen]
  cases P.underlying t with
  | none => rfl
  | some d => cases d <;> rfl
theorem mlen_at {k e : TypeId} {id : Nat} {es : List (Value × V)} (ht : P.underlying t = some (.map k e)) (h : st[id]? = some (.map es)) : mlen P st .len #[t] [.map id] = some (.sc (.int .i64 es.length)) := by
  simp only [mlen, ht, h]
theorem av_lookup (x k : Operand) (c : Bool) : aval P ρ st { dst := dst, op := .lookup t x k c, type := ty, pos := pos, after := after, guard := gd } = (alookup P st t (ρ x) (ρ k) c).map fun v => (v, st) := id rfl
theorem av_mapUpdate (x k y : Operand) : aval P ρ st { dst := dst, op := .mapUpdate t x k y, type := ty, pos := pos, after := after, guard := gd } = (aupdate P st t (ρ x) (ρ k) (ρ y)).map fun s => (.sc undef, s) := id rfl
theorem flat_one {α : Type} (x : α) (n : Nat) : (List.replicate n [x]).flatten = List.replicate n x := by
  induction n with
  | zero => rfl
  | succ n ih => rw [List.replicate_succ, List.flatten_cons, ih, List.replicate_succ]; rfl
theorem av_makeSlice (l c : Operand) : aval P ρ st { dst := dst, op := .makeSlice t l c, type := ty, pos := pos, after := after, guard := gd } = match P.underlying t, asI (ρ l), asI (ρ c) with
    | some (.slice e), some n, some m => match szOf P e, bytesOf P e, zeroOf P e with
      | some s, some by_, some z => if n = m ∧ 0 ≤ n ∧ 0 < s ∧ z.cells.size = s ∧ n.toNat * by_ ≤ 140737488355328 ∧ n ≤ 9223372036854775807 ∧ closedL (z.cells.toList.map ofVal) = true ∧ z.cells.toList.all Value.oneCell' = true then
          some (.sl st.length 0 n.toNat false n.toNat, st ++ [.row e (List.replicate n.toNat (z.cells.toList.map ofVal)).flatten n.toNat 0 false]) else none
      | _, _, _ => none
    | _, _, _ => none := id rfl
theorem av_makeMap : aval P ρ st { dst := dst, op := .makeMap t none, type := ty, pos := pos, after := after, guard := gd } = some (.map st.length, st ++ [.map []]) := id rfl
def adelete (P : Program) (st : List Ob) (t : TypeId) (x k : V) : Option (V × List Ob) := match P.underlying t, toVal k, x with
  | some (.map kt _), some kv, .map id => match st[id]? with
    | some (.map es) => match akey P es.isEmpty kt kv, afind P kt kv es with
      | some _, some (some i) => some (.tup [], st.set id (.map (es.eraseIdx i)))
      | some _, some none => some (.tup [], st)
      | _, _ => none
    | _ => none
  | some (.map kt _), some kv, .sc (.map none) => (akey P true kt kv).map fun _ => (.tup [], st)
  | _, _, _ => none
theorem ab_delete (t' : TypeId) (x k : V) : abuiltin P st .delete #[t, t'] [x, k] = adelete P st t x k := id rfl
theorem ab_append (t t' : TypeId) (s x : V) : abuiltin P st .append #[t, t'] [s, x] = match P.underlying t' with
    | some (.slice _) => aappend P st t s x
    | some .string => aappend P st t s x
    | _ => none := id rfl
theorem ab_min2 (t t' : TypeId) (k : IntKind) (a b : Int) : abuiltin P st .min #[t, t'] [.sc (.int k a), .sc (.int k b)] = some (.sc (.int k (if b < a then b else a)), st) := id rfl
theorem ab_max2 (t t' : TypeId) (k : IntKind) (a b : Int) : abuiltin P st .max #[t, t'] [.sc (.int k a), .sc (.int k b)] = some (.sc (.int k (if a < b then b else a)), st) := by
  have e : pureRun P (Builtin.max_ #[t, t'] t #[.int k a, .int k b]) = some (.int k (if a < b then b else a)) := by
    show pureRun P ((Builtin.max2 (.int k a) (.int k b)) >>= fun x => pure x) = _
    rw [pureRun_bind, max2_int]
    rfl
  show (pureRun P (Builtin.max_ #[t, t'] t #[.int k a, .int k b])).map (fun v => (V.sc v, st)) = _
  rw [e]
  rfl
theorem aix_ref (id o : Nat) (k : IntKind) (j : Int) : aix P st t (.ref id o) (.sc (.int k j)) = match P.underlying t with
    | some (.array n e) => match szOf P e with
      | some s => if 0 ≤ j ∧ j < n then some (.ref id (o + j.toNat * s), st) else none
      | none => none
    | _ => none := by
  simp only [aix, asI]
  cases P.underlying t with
  | none => rfl
  | some d => cases d <;> rfl
theorem aix_sl (id off len : Nat) (full : Bool) (g : Nat) (k : IntKind) (j : Int) : aix P st t (.sl id off len full g) (.sc (.int k j)) = match P.underlying t with
    | some (.slice e) => match st[id]?, szOf P e with
      | some (.row e' _ _ lo _), some s => if e' = e ∧ 0 ≤ j ∧ j < len ∧ lo ≤ g then some (.rref id ((off + j.toNat) * s) g, st) else none
      | _, _ => none
    | _ => none := by
  simp only [aix, asI]
  cases P.underlying t with
  | none => rfl
  | some d => cases d <;> rfl
theorem aix_tsl (xs : List V) (len : Nat) (nil full : Bool) (k : IntKind) (j : Int) : aix P st t (.tsl xs len nil full) (.sc (.int k j)) = match P.underlying t with
    | some (.slice e) => match szOf P e with
      | some s => if 0 ≤ j ∧ j < len then some (.tref (xs.drop (j.toNat * s)), st) else none
      | none => none
    | _ => none := by
  simp only [aix, asI]
  cases P.underlying t with
  | none => rfl
  | some d => cases d <;> rfl
theorem ald_ref (id off : Nat) : ald P st t (.ref id off) = match st[id]? with
    | some (.cells xs) => (aload P t (xs.drop off)).map (·, st)
    | _ => none := by simp only [ald]
theorem ald_rref (id off e : Nat) : ald P st t (.rref id off e) = match st[id]? with
    | some (.row ty xs _ lo _) => match szOf P t, szOf P ty with
      | some k, some s => if lo ≤ e ∧ 0 < k ∧ off + k ≤ e * s then (aload P t (xs.drop off)).map (·, st) else none
      | _, _ => none
    | _ => none := by simp only [ald]
theorem ald_tref (xs : List V) : ald P st t (.tref xs) = (aload P t xs).map (·, st) := by simp only [ald]
theorem afa_ref (i id o : Nat) : afa P st t i (.ref id o) = match fieldOf P t i with
    | some (off, s, _) => if s = 0 then none else some (.ref id (o + off), st)
    | none => none := by simp only [afa]
theorem afa_rref (i id o e : Nat) : afa P st t i (.rref id o e) = match fieldOf P t i with
    | some (off, s, _) => if s = 0 then none else some (.rref id (o + off) e, st)
    | none => none := by simp only [afa]
theorem afa_tref (i : Nat) (xs : List V) : afa P st t i (.tref xs) = match fieldOf P t i with
    | some (off, s, _) => if s = 0 then none else some (.tref (xs.drop off), st)
    | none => none := by simp only [afa]
theorem alen_sl (id off len : Nat) (full : Bool) (g : Nat) : alen P st t (.sl id off len full g) = match P.underlying t with
    | some (.slice _) => some (.sc (.int .i64 len), st)
    | _ => none := by
  simp only [alen]
  cases P.underlying t with
  | none => rfl
  | some d => cases d <;> rfl
theorem alen_tsl (xs : List V) (len : Nat) (nil full : Bool) : alen P st t (.tsl xs len nil full) = match P.underlying t with
    | some (.slice _) => some (.sc (.int .i64 len), st)
    | _ => none := by
  simp only [alen]
  cases P.underlying t with
  | none => rfl
  | some d => cases d <;> rfl
theorem alen_str (b : ByteArray) : alen P st t (.sc (.string b)) = match P.underlying t with
    | some .string => some (.sc (.int .i64 b.size), st)
    | _ => none := by
  simp only [alen]
  cases P.underlying t with
  | none => rfl
  | some d => cases d <;> rfl

theorem aslice_str (b : ByteArray) (lo hi mx : Option V) : aslice P st t (.sc (.string b)) lo hi mx = match P.underlying t, mx with
    | some .string, none => match abound hi b.size b.size with
      | some h => match abound lo 0 h with
        | some l => some (.sc (.string (b.extract l h)))
        | none => none
      | none => none
    | _, _ => none := id rfl
theorem aslice_tsl (xs : List V) (n : Nat) (nil full : Bool) (lo hi mx : Option V) : aslice P st t (.tsl xs n nil full) lo hi mx = match P.underlying t with
    | some (.slice e) => match szOf P e with
      | some s => match abound hi n n with
        | some h => match abound lo 0 h, abound mx h n with
          | some l, some m => if m = h then
              some (if h = l then .tsl [] 0 nil (nil || mx.isSome || (full && h == n)) else .tsl ((xs.drop (l * s)).take ((h - l) * s)) (h - l) nil (mx.isSome || (full && h == n))) else none
          | _, _ => none
        | none => none
      | none => none
    | _ => none := id rfl
theorem aslice_sl (id_ off n : Nat) (full : Bool) (g : Nat) (lo hi mx : Option V) : aslice P st t (.sl id_ off n full g) lo hi mx = match P.underlying t with
    | some (.slice e) => match st[id_]?, szOf P e with
      | some (.row e' _ _ _ _), some _ => if e' = e then (match abound hi n n with
        | some h => match abound lo 0 h, abound mx h n with
          | some l, some m => if m = h then
              (if h = l then some (.tsl [] 0 false (mx.isSome || (full && h == n))) else if full = true ∧ mx.isSome = false ∧ h ≠ n then none else some (.sl id_ (off + l) (h - l) (mx.isSome || (full && h == n)) g)) else none
          | _, _ => none
        | none => none) else none
      | _, _ => none
    | _ => none := id rfl

theorem aix_rd (h : Rd P st e v xs n) (ht : P.underlying t = some (.slice e)) {s : Nat} (hs : szOf P e = some s) (k : IntKind) {j : Int} (h0 : 0 ≤ j) (hj : j < n) : aix P st t v (.sc (.int k j)) = some (ixp s v j.toNat 0, st) := by
  rcases h.cases with ⟨nil, full, rfl⟩ | ⟨id, off, full, gg, ys, m, lo, fz, s', rfl, h1, h2, h3, rfl⟩
  · rw [aix_tsl, ht]
    simp only [hs, h0, hj, and_self, if_true, ixp, Nat.add_zero]
  · rw [aix_sl, ht, h1]
    simp only [hs, h0, hj, h3, and_self, if_true, ixp, Nat.add_zero]
theorem alen_rd (h : Rd P st e v xs n) (ht : P.underlying t = some (.slice e)) : alen P st t v = some (.sc (.int .i64 n), st) := by
  rcases h.cases with ⟨nil, full, rfl⟩ | ⟨id, off, full, gg, ys, m, lo, fz, s', rfl, h1, h2, h3, rfl⟩
  · rw [alen_tsl, ht]
  · rw [alen_sl, ht]
theorem afa_ix (h : Rd P st e v xs n) {i off s k : Nat} {ft : TypeId} (hf : fieldOf P t i = some (off, k, ft)) (hk : k ≠ 0) (j o : Nat) : afa P st t i (ixp s v j o) = some (ixp s v j (o + off), st) := by
  rcases h.cases with ⟨nil, full, rfl⟩ | ⟨id, off', full, gg, ys, m, lo, fz, s', rfl, h1, h2, h3, rfl⟩
  · simp only [ixp, afa_tref, hf, if_neg hk, List.drop_drop, Nat.add_assoc]
  · simp only [ixp, afa_rref, hf, if_neg hk, Nat.add_assoc]
theorem aload_take {ys : List V} {k m : Nat} (hk : szOf P t = some k) (h0 : 0 < k) (hm : k ≤ m) (hl : m ≤ ys.length) : aload P t (ys.take m) = aload P t ys := by
  unfold aload
  cases aggT P t with
  | none => rfl
  | some b =>
    cases b with
    | true =>
      simp only [hk, List.length_take]
      rw [if_pos (by omega), if_pos (by omega), List.take_take, Nat.min_eq_left hm]
    | false => simp only [hk]; rw [List.getElem?_take, if_pos (by omega)]
theorem ald_ix (h : Rd P st e v xs n) {s k : Nat} (hs : szOf P e = some s) (hk : szOf P t = some k) (h0 : 0 < k) {j o : Nat} (hj : j < n) (hks : o + k ≤ s) : ald P st t (ixp s v j o) = (aload P t (xs.drop (j * s + o))).map (·, st) := by
  have hlen := h.2.2 s hs
  have hjs : (j + 1) * s ≤ n * s := Nat.mul_le_mul_right _ hj
  rw [Nat.succ_mul] at hjs
  rcases h.cases with ⟨nil, full, rfl⟩ | ⟨id, off, full, gg, ys, m, lo, fz, s', rfl, h1, h2, h3, rfl⟩
  · simp only [ixp, ald_tref]
  · rw [hs] at h2
    cases h2
    simp only [List.length_take, List.length_drop] at hlen
    simp only [ixp, ald_rref, h1, hs, hk]
    have hg := Nat.mul_le_mul_right s h3.2
    rw [Nat.add_mul] at hg
    rw [if_pos ⟨h3.1, h0, by rw [Nat.add_mul]; omega⟩]
    congr 1
    rw [List.drop_take, List.drop_drop, Nat.add_mul]
    rw [show off * s + j * s + o = off * s + (j * s + o) by omega]
    exact (aload_take hk h0 (by omega) (by rw [List.length_drop]; omega)).symm
def fullV : V → Bool
  | .tsl _ _ _ f => f
  | .sl _ _ _ f _ => f
  | _ => false
theorem abound_nat (k : IntKind) (n d most : Nat) (h : n ≤ most) : abound (some (.sc (.int k n))) d most = some n := by
  simp only [abound, asI]
  rw [if_pos ⟨by omega, by omega⟩, Int.toNat_natCast]
theorem append_full (h : Rd P st e v xs n) (hf : fullV v = true) (ht : P.underlying t = some (.slice e)) {s by_ : Nat} {z : Value} (hs : szOf P e = some s) (hb : bytesOf P e = some by_) (hz : zeroOf P e = some z) (h0 : 0 < s) (hzs : z.cells.size = s)
    {x : V} {ys : List V} {k : Nat} (hx : elems P st e x = some (ys, k)) (hc : closedL ys = true) (hl : ys.length = k * s) (h1 : (n + k) * by_ ≤ 140737488355328) (h2 : n + k ≤ 9223372036854775807) (hk : 0 < k) :
    aappend P st t v x = some (.sl st.length 0 (n + k) false (n + k), st ++ [.row e (xs ++ ys) (n + k) 0 false]) := by
  have hlen := h.2.2 s hs
  unfold aappend
  simp only [ht, hs, hb, hz, hx]
  rw [if_pos ⟨h0, hzs, hc, hl⟩]
  rcases h.cases with ⟨nil, full, rfl⟩ | ⟨id, off, full, gg, zs, m, lo, fz, s', rfl, k1, k2, k3, hxs⟩
  · simp only [fullV] at hf
    subst hf
    simp only
    rw [if_pos ⟨trivial, hlen, h1, h2⟩, if_neg (by omega)]
  · simp only [fullV] at hf
    subst hf
    rw [hs] at k2; cases k2
    simp only [k1]
    rw [if_pos ⟨trivial, h1, h2, k3.1⟩]
    simp only [if_true]
    rw [if_neg (by omega), hxs]
theorem append_full0 (h : Rd P st e v xs n) (hf : fullV v = true) (ht : P.underlying t = some (.slice e)) {s by_ : Nat} {z : Value} (hs : szOf P e = some s) (hb : bytesOf P e = some by_) (hz : zeroOf P e = some z) (h0 : 0 < s) (hzs : z.cells.size = s)
    {x : V} (hx : elems P st e x = some ([], 0)) (h1 : n * by_ ≤ 140737488355328) (h2 : n ≤ 9223372036854775807) :
    aappend P st t v x = some (v, st) := by
  have hlen := h.2.2 s hs
  unfold aappend
  simp only [ht, hs, hb, hz, hx]
  rw [if_pos ⟨h0, hzs, rfl, by simp⟩]
  rcases h.cases with ⟨nil, full, rfl⟩ | ⟨id, off, full, gg, zs, m, lo, fz, s', rfl, k1, k2, k3, hxs⟩
  · simp only [fullV] at hf
    subst hf
    simp only
    rw [if_pos ⟨trivial, hlen, h1, h2⟩]
    simp
  · simp only [fullV] at hf
    subst hf
    rw [hs] at k2; cases k2
    simp only [k1]
    rw [if_pos ⟨trivial, h1, h2, k3.1⟩]
    simp
theorem append_own {id lo : Nat} {ys : List V} {k : Nat} (hid : st[id]? = some (.row e xs n lo false)) (hlo : lo ≤ n) (ht : P.underlying t = some (.slice e)) {s by_ : Nat} {z : Value} (hs : szOf P e = some s) (hb : bytesOf P e = some by_) (hz : zeroOf P e = some z) (h0 : 0 < s) (hzs : z.cells.size = s)
    {x : V} (hx : elems P st e x = some (ys, k)) (hc : closedL ys = true) (hl : ys.length = k * s) (h1 : (n + k) * by_ ≤ 140737488355328) (h2 : n + k ≤ 9223372036854775807) :
    aappend P st t (.sl id 0 n false n) x = some (.sl id 0 (n + k) false (n + k), st.set id (.row e (xs ++ ys) (n + k) lo false)) := by
  unfold aappend
  simp only [ht, hs, hb, hz, hx, hid]
  rw [if_pos ⟨h0, hzs, hc, hl⟩, if_pos ⟨trivial, h1, h2, by omega⟩]
  simp

def Buf (P : Program) (e : TypeId) (s0 s : List Ob) (w : V) (ys : List V) (n : Nat) : Prop :=
  Grw s0 s ∧ ((Rd P s e w ys n ∧ fullV w = true) ∨ ∃ id lo sz, s0.length ≤ id ∧ w = .sl id 0 n false n ∧ s[id]? = some (.row e ys n lo false) ∧ lo ≤ n ∧ szOf P e = some sz ∧ ys.length = n * sz)
theorem Buf.start (h : Rd P st e v xs n) (hf : fullV v = true) : Buf P e st st v xs n := ⟨.refl _, .inl ⟨h, hf⟩⟩
theorem Buf.grw {s0 s s' : List Ob} {w : V} {ys : List V} (h : Buf P e s0 s w ys n) (k : Grw s s') : Buf P e s0 s' w ys n := by
  refine ⟨h.1.trans k, ?_⟩
  rcases h.2 with ⟨h1, h2⟩ | ⟨id, lo, sz, h1, h2, h3, h4, h5, h6⟩
  · exact .inl ⟨h1.grw k, h2⟩
  · exact .inr ⟨id, lo, sz, h1, h2, k _ _ h3, h4, h5, h6⟩
theorem Buf.rd {s0 s : List Ob} {w : V} {ys : List V} (h : Buf P e s0 s w ys n) : Rd P s e w ys n := by
  rcases h.2 with ⟨h1, h2⟩ | ⟨id, lo, sz, h1, rfl, h3, h4, h5, h6⟩
  · exact h1
  · refine ⟨?_, ⟨fun b hb => (by cases hb), fun hh => by cases hh⟩, fun s' hs' => by rw [h5] at hs'; cases hs'; exact h6⟩
    simp only [elems, h3, h5]
    rw [if_pos ⟨trivial, by omega, by omega⟩]
    simp only [Nat.zero_mul, List.drop_zero]
    rw [← h6, List.take_length]
theorem Buf.append {s0 s : List Ob} {w : V} {ys : List V} (h : Buf P e s0 s w ys n) (ht : P.underlying t = some (.slice e)) {sz by_ : Nat} {z : Value} (hs : szOf P e = some sz) (hb : bytesOf P e = some by_) (hz : zeroOf P e = some z) (h0 : 0 < sz) (hzs : z.cells.size = sz)
    {x : V} {zs : List V} {k : Nat} (hx : elems P s e x = some (zs, k)) (hc : closedL zs = true) (hl : zs.length = k * sz) (h1 : (n + k) * by_ ≤ 140737488355328) (h2 : n + k ≤ 9223372036854775807) :
    ∃ w' s', aappend P s t w x = some (w', s') ∧ Buf P e s0 s' w' (ys ++ zs) (n + k) := by
  rcases h.2 with ⟨k1, k2⟩ | ⟨id, lo, sz', k1, rfl, k3, k4, k5, k6⟩
  · by_cases hk : k = 0
    · subst hk
      have hz0 : zs = [] := by simpa using hl
      subst hz0
      exact ⟨_, _, append_full0 k1 k2 ht hs hb hz h0 hzs hx (by simpa using h1) (by simpa using h2), h.1, .inl ⟨by simpa using k1, k2⟩⟩
    · refine ⟨_, _, append_full k1 k2 ht hs hb hz h0 hzs hx hc hl h1 h2 (by omega), h.1.push' _, .inr ⟨s.length, 0, sz, h.1.le, rfl, by simp, Nat.zero_le _, hs, ?_⟩⟩
      rw [List.length_append, k1.2.2 sz hs, hl, Nat.add_mul]
  · rw [hs] at k5; cases k5
    refine ⟨_, _, append_own k3 k4 ht hs hb hz h0 hzs hx hc hl h1 h2, h.1.set k1 _, .inr ⟨id, lo, sz, k1, rfl, ?_, by omega, hs, ?_⟩⟩
    · rw [List.getElem?_set_self (List.getElem?_eq_some_iff.1 k3).1]
    · rw [List.length_append, k6, hl, Nat.add_mul]
theorem aconv_i {s d : TypeId} {k j : IntKind} {x : Int} (hd : P.underlying d = some (.int k)) (hs : (P.underlying s).isSome = true) : aconvert P st s d (.sc (.int j x)) = some (.sc (.int k (k.wrap x))) := by
  obtain ⟨ds, hds⟩ := Option.isSome_iff_exists.1 hs
  simp only [aconvert, toVal]
  rw [pr_conv hds hd]
  rfl
theorem aconv_s {s d : TypeId} {b : ByteArray} (hd : P.underlying d = some .string) (hs : (P.underlying s).isSome = true) : aconvert P st s d (.sc (.string b)) = some (.sc (.string b)) := by
  obtain ⟨ds, hds⟩ := Option.isSome_iff_exists.1 hs
  simp only [aconvert, toVal]
  rw [pr_convs hds hd]
  rfl
def seqPs : Nat → List V → List (Nat × V)
  | _, [] => []
  | j, v :: vs => (j, v) :: seqPs (j + 1) vs
def fitL (s : Nat) : List V → Bool
  | [] => true
  | v :: vs => (cellsV v).length == s && (cellsV v).all one && fitL s vs
def flatL : List V → List V
  | [] => []
  | v :: vs => cellsV v ++ flatL vs
theorem afill_seq {s : Nat} : ∀ (vs : List V) (j : Nat) (pre rest : List V), pre.length = j * s → rest.length = vs.length * s → fitL s vs = true → afill (fun i => some (i * s, s)) (pre ++ rest) (seqPs j vs) = some (pre ++ flatL vs)
  | [], j, pre, rest, hp, hr, _ => by
    have : rest = [] := by simpa using hr
    subst this
    rfl
  | v :: vs, j, pre, rest, hp, hr, hf => by
    simp only [fitL, Bool.and_eq_true, beq_iff_eq] at hf
    obtain ⟨⟨h1, h2⟩, h3⟩ := hf
    rw [List.length_cons, Nat.succ_mul] at hr
    simp only [seqPs, afill]
    rw [if_pos ⟨h1, by rw [List.length_append]; omega, h2⟩]
    have e : splice (pre ++ rest) (cellsV v) (j * s) = (pre ++ cellsV v) ++ rest.drop s := by
      unfold splice
      rw [← hp, List.take_left, h1, ← List.drop_drop, List.drop_left]
    rw [e, afill_seq vs (j + 1) (pre ++ cellsV v) (rest.drop s) (by rw [List.length_append, h1, hp, Nat.succ_mul]) (by rw [List.length_drop]; omega) h3]
    simp only [flatL, List.append_assoc]
def abs (P : Program) (t : TypeId) (n : Nat) (ps : List (Nat × V)) : Option (TypeId × List V) := match P.underlying t with
  | some (.slice e) => match szOf P e, zeroOf P e with
    | some s, some z => if 0 < s ∧ n * s ≤ 16777216 ∧ z.cells.size = s then
        match afill (fun i => some (i * s, s)) ((List.range (n * s)).map fun i => ofVal (z.cells[i % z.cells.size]!)) ps with
        | some cs => if closedL cs ∧ cs.all one then some (e, cs) else none
        | none => none
      else none
    | _, _ => none
  | _ => none
def absZ (P : Program) (st : List Ob) (t : TypeId) (n : Nat) (ps : List (Nat × V)) : Option (TypeId × List V × List Ob) := match P.underlying t with
  | some (.slice e) => match szOf P e, zeroOf P e with
    | some s, some z => if 0 < s ∧ n * s ≤ 16777216 ∧ z.cells.size = s then
        match afill (fun i => some (i * s, s)) ((List.range (n * s)).map fun i => ofVal (z.cells[i % z.cells.size]!)) ps with
        | some cs => match shutL P st cs with
          | some (cs', st1) => if cs'.all one then some (e, cs', st1) else none
          | none => none
        | none => none
      else none
    | _, _ => none
  | _ => none
def absF (P : Program) (st : List Ob) (t : TypeId) (n : Nat) (ps : List (Nat × V)) : Option (TypeId × List V × List Ob) := match abs P t n ps with
  | some x => some (x.1, x.2, st)
  | none => absZ P st t n ps
theorem absF_eq (st : List Ob) (n : Nat) (ps : List (Nat × V)) : absF P st t n ps = match abs P t n ps with
  | some x => some (x.1, x.2, st)
  | none => absZ P st t n ps := by rw [absF]
theorem aval_bs (n : Nat) (ps : Array (Nat × Operand)) : aval P ρ st { dst := dst, op := .buildSlice t n ps, type := ty, pos := pos, after := after, guard := gd } = (absF P st t n (ps.toList.map fun p => (p.1, ρ p.2))).map fun x => (.sl x.2.2.length 0 n false n, x.2.2 ++ [.row x.1 x.2.1 n 0 false]) := by
  simp only [aval, absF, abs, absZ]
  cases P.underlying t with
  | none => rfl
  | some d =>
    cases d with
    | slice e =>
      simp only
      cases szOf P e with
      | none => rfl
      | some s =>
        cases zeroOf P e with
        | none => rfl
        | some z =>
          simp only
          by_cases hc : 0 < s ∧ n * s ≤ 16777216 ∧ z.cells.size = s
          · simp only [if_pos hc]
            generalize afill _ _ _ = q
            cases q with
            | none => rfl
            | some cs =>
              simp only
              by_cases hd : closedL cs = true ∧ cs.all one = true
              · simp only [if_pos hd]; rfl
              · simp only [if_neg hd]
                cases shutL P st cs with
                | none => rfl
                | some y =>
                  obtain ⟨cs', st1⟩ := y
                  simp only
                  by_cases ha : cs'.all one = true
                  · simp only [if_pos ha]; rfl
                  · simp only [if_neg ha]; rfl
          · simp only [if_neg hc]; rfl
    | _ => rfl
theorem aobj_bs (id n : Nat) (ps : Array (Nat × Operand)) : aobj P ρ id { dst := dst, op := .buildSlice t n ps, type := ty, pos := pos, after := after, guard := gd } = (abs P t n (ps.toList.map fun p => (p.1, ρ p.2))).map fun x => (.sl id 0 n false n, .row x.1 x.2 n 0 false) := by
  simp only [aobj, abs]
  cases P.underlying t with
  | none => rfl
  | some d =>
    cases d with
    | slice e =>
      simp only
      cases szOf P e with
      | none => rfl
      | some s =>
        cases zeroOf P e with
        | none => rfl
        | some z =>
          simp only
          by_cases hc : 0 < s ∧ n * s ≤ 16777216 ∧ z.cells.size = s
          · rw [if_pos hc, if_pos hc]
            generalize afill _ _ _ = q
            cases q with
            | none => rfl
            | some cs =>
              simp only
              by_cases hd : closedL cs = true ∧ cs.all one = true
              · rw [if_pos hd, if_pos hd]; rfl
              · rw [if_neg hd, if_neg hd]; rfl
          · rw [if_neg hc, if_neg hc]; rfl
    | _ => rfl
def absL (P : Program) (t : TypeId) (n : Nat) (vs : List V) : Option (TypeId × List V) := match P.underlying t with
  | some (.slice e) => match szOf P e, zeroOf P e with
    | some s, some z => if (0 < s ∧ n * s ≤ 16777216 ∧ z.cells.size = s) ∧ fitL s vs = true ∧ closedL (flatL vs) = true ∧ (flatL vs).all one = true then some (e, flatL vs) else none
    | _, _ => none
  | _ => none
theorem afill_unfit {s : Nat} : ∀ (vs : List V) (j : Nat) (pre rest : List V), pre.length = j * s → rest.length = vs.length * s → fitL s vs = false → afill (fun i => some (i * s, s)) (pre ++ rest) (seqPs j vs) = none
  | [], j, pre, rest, hp, hr, hf => by simp [fitL] at hf
  | v :: vs, j, pre, rest, hp, hr, hf => by
    rw [List.length_cons, Nat.succ_mul] at hr
    simp only [seqPs, afill]
    by_cases hc : (cellsV v).length = s ∧ j * s + s ≤ (pre ++ rest).length ∧ (cellsV v).all one = true
    · rw [if_pos hc]
      obtain ⟨h1, _, h2⟩ := hc
      have e : splice (pre ++ rest) (cellsV v) (j * s) = (pre ++ cellsV v) ++ rest.drop s := by
        unfold splice
        rw [← hp, List.take_left, h1, ← List.drop_drop, List.drop_left]
      have hf' : fitL s vs = false := by simpa [fitL, h1, h2] using hf
      rw [e, afill_unfit vs (j + 1) (pre ++ cellsV v) (rest.drop s) (by rw [List.length_append, h1, hp, Nat.succ_mul]) (by rw [List.length_drop]; omega) hf']
    · rw [if_neg hc]
theorem abs_lit (vs : List V) : abs P t vs.length (seqPs 0 vs) = absL P t vs.length vs := by
  unfold absL abs
  cases P.underlying t with
  | none => rfl
  | some d =>
    cases d with
    | slice e =>
      simp only
      cases szOf P e with
      | none => rfl
      | some s =>
        cases zeroOf P e with
        | none => rfl
        | some z =>
          simp only
          by_cases hc : 0 < s ∧ vs.length * s ≤ 16777216 ∧ z.cells.size = s
          · rw [if_pos hc]
            cases hf : fitL s vs with
            | true =>
              have := afill_seq (s := s) vs 0 [] ((List.range (vs.length * s)).map fun i => ofVal (z.cells[i % z.cells.size]!)) (by simp) (by simp) hf
              simp only [List.nil_append] at this
              simp only [this]
              by_cases hd : closedL (flatL vs) = true ∧ (flatL vs).all one = true
              · rw [if_pos hd, if_pos ⟨hc, trivial, hd.1, hd.2⟩]
              · rw [if_neg hd, if_neg (fun h => hd ⟨h.2.2.1, h.2.2.2⟩)]
            | false =>
              have := afill_unfit (s := s) vs 0 [] ((List.range (vs.length * s)).map fun i => ofVal (z.cells[i % z.cells.size]!)) (by simp) (by simp) hf
              simp only [List.nil_append] at this
              simp only [this]
              rw [if_neg (fun h => by cases h.2.1)]
          · rw [if_neg hc, if_neg (fun h => hc h.1)]
    | _ => rfl
theorem abs0 : abs P t 0 [] = absL P t 0 [] := abs_lit []
theorem abs1 (a : V) : abs P t 1 [(0, a)] = absL P t 1 [a] := abs_lit [a]
theorem abs2 (a b : V) : abs P t 2 [(0, a), (1, b)] = absL P t 2 [a, b] := abs_lit [a, b]
theorem abs3 (a b c : V) : abs P t 3 [(0, a), (1, b), (2, c)] = absL P t 3 [a, b, c] := abs_lit [a, b, c]
theorem abs4 (a b c d : V) : abs P t 4 [(0, a), (1, b), (2, c), (3, d)] = absL P t 4 [a, b, c, d] := abs_lit [a, b, c, d]
theorem abs5 (a b c d f : V) : abs P t 5 [(0, a), (1, b), (2, c), (3, d), (4, f)] = absL P t 5 [a, b, c, d, f] := abs_lit [a, b, c, d, f]
theorem abs6 (a b c d f g : V) : abs P t 6 [(0, a), (1, b), (2, c), (3, d), (4, f), (5, g)] = absL P t 6 [a, b, c, d, f, g] := abs_lit [a, b, c, d, f, g]

end
end Go.M
