/- What a run of code comes to: one value, one memory; and the same where more is there. -/
import Derived.Test.YtfndpnmdjblokaaM11c
set_option linter.unusedVariables false
set_option linter.unusedSimpArgs false
namespace Go.M
open Go Go.RowKit
section
variable {P : Program} {ov : Nat → Option Ob}

theorem abuiltin_any {a b : List Ob} {bi : Builtin} {ts : Array TypeId} {args : List V} {v : V} {a' : List Ob} (hb : bi = .len ∨ bi = .min ∨ bi = .max) (h : abuiltin P a bi ts args = some (v, a')) : (abuiltin P b bi ts args).map (·.1) = some v := by
  unfold abuiltin at h ⊢
  split at h
  · simp at hb
  · split at h
    · simp only [Option.some.injEq, Prod.mk.injEq] at h; obtain ⟨rfl, rfl⟩ := h; simp_all
    · simp only [Option.some.injEq, Prod.mk.injEq] at h; obtain ⟨rfl, rfl⟩ := h; simp_all
    · simp only [Option.some.injEq, Prod.mk.injEq] at h; obtain ⟨rfl, rfl⟩ := h; simp_all
    · cases h
  · split at h
    · rename_i us hus
      obtain ⟨y, hy, hz⟩ := Option.map_eq_some_iff.1 h
      simp only [Prod.mk.injEq] at hz
      simp only [hus, hy, Option.map_some, hz.1]
    · cases h
  · split at h
    · rename_i us hus
      obtain ⟨y, hy, hz⟩ := Option.map_eq_some_iff.1 h
      simp only [Prod.mk.injEq] at hz
      simp only [hus, hy, Option.map_some, hz.1]
    · cases h
  · cases h

theorem quiet_call {c : Call} (h : quietOp (.call c) = true) : ∃ b, c.callee = .builtin b ∧ (b = .len ∨ b = .min ∨ b = .max) := by
  obtain ⟨cal, args, ats⟩ := c
  cases cal with
  | builtin b => refine ⟨b, rfl, ?_⟩; cases b <;> simp [quietOp] at h ⊢
  | _ => simp [quietOp] at h

theorem qop_le {a b : List Ob} (hle : LE a b) {o : Oper} {t : List V} {v : V} (hq : quietOp o.op = true) (h : qop P o t a = some v) : qop P o t b = some v := by
  unfold qop at h ⊢
  split at h
  · rename_i c hc
    try simp only [hc]
    rw [hc] at hq
    obtain ⟨bi, hcb, hbi⟩ := quiet_call hq
    simp only [hcb] at h ⊢
    obtain ⟨⟨y, s⟩, hy, rfl⟩ := Option.map_eq_some_iff.1 h
    exact abuiltin_any hbi hy
  · rename_i hne
    obtain ⟨⟨y, s⟩, hy, rfl⟩ := Option.map_eq_some_iff.1 h
    exact aval_le hle hq hy

theorem qop_any {a b : List Ob} {o : Oper} {t : List V} {v : V} (hq : quietOp o.op = true) (hm : memOp o.op = false) (h : qop P o t a = some v) : qop P o t b = some v := by
  unfold qop at h ⊢
  split at h
  · rename_i c hc
    try simp only [hc]
    rw [hc] at hq
    obtain ⟨bi, hcb, hbi⟩ := quiet_call hq
    simp only [hcb] at h ⊢
    obtain ⟨⟨y, s⟩, hy, rfl⟩ := Option.map_eq_some_iff.1 h
    exact abuiltin_any hbi hy
  · rename_i hne
    obtain ⟨⟨y, s⟩, hy, rfl⟩ := Option.map_eq_some_iff.1 h
    exact aval_any hq hm hy

/-- One outcome; gone stays gone; and the same outcome where gone objects are filled. -/
def CF (C : CallK) : Prop := ∀ f args st K, C f args st K → ∃ v st', K v st' ∧ KG1 st st' ∧ st.length ≤ st'.length ∧ ∀ ov (K' : V → List Ob → Prop), Fine ov st.length → K' v (over ov st') → C f args (over ov st) K'

theorem KG1.trans {a b c : List Ob} (h : KG1 a b) (k : KG1 b c) : KG1 a c := fun i hi => k i (h i hi)
theorem KG.one {a b : List Ob} (h : KG a b) : KG1 a b := h.1
theorem KG.le {a b : List Ob} (h : KG a b) : a.length ≤ b.length := by
  cases a with
  | nil => simp
  | cons x a =>
    have hl : (x :: a).length - 1 < (x :: a).length := by simp
    have hg : (x :: a)[(x :: a).length - 1]? = some ((x :: a)[(x :: a).length - 1]) := List.getElem?_eq_getElem hl
    have : (x :: a).length - 1 < b.length := by
      by_cases hn : (x :: a)[(x :: a).length - 1] = .gone
      · rw [hn] at hg; exact (List.getElem?_eq_some_iff.1 (h.1 _ hg)).1
      · obtain ⟨o', h1, _⟩ := h.2 _ _ hg hn; exact (List.getElem?_eq_some_iff.1 h1).1
    omega
theorem Fine.le {n m : Nat} (h : Fine ov n) (hl : n ≤ m) : Fine ov m := ⟨fun i hi => h.1 i (by omega), h.2⟩

theorem aop_CF {C : CallK} (hC : CF C) {o : Oper} {t : List V} {st : List Ob} {K : V → List Ob → Prop} (h : aop P C o t st K) :
    ∃ v st', K v st' ∧ KG1 st st' ∧ st.length ≤ st'.length ∧ ∀ ov (K' : V → List Ob → Prop), Fine ov st.length → K' v (over ov st') → aop P C o t (over ov st) K' := by
  unfold aop at h
  split at h
  · rename_i c hop
    unfold acall at h
    split at h
    · rename_i f hf
      split at h
      · rename_i g caps hg
        obtain ⟨v, st', h1, h2, h3, h4⟩ := hC _ _ _ _ h
        refine ⟨v, st', h1, h2, h3, fun ov K' k1 k2 => ?_⟩
        unfold aop acall
        simp only [hop, hf, hg]
        exact h4 ov K' k1 k2
      · exact h.elim
    · rename_i b hb
      split at h
      · rename_i v st' hv
        have hk := (abuiltin_fill (ov := fun _ => none) hv).2
        refine ⟨v, st', h, hk.one, hk.le, fun ov K' k1 k2 => ?_⟩
        unfold aop acall
        simp only [hop, hb, (abuiltin_fill (ov := ov) hv).1]
        exact k2
      · exact h.elim
    · exact h.elim
  · rename_i hne
    split at h
    · rename_i v st' hv
      have hk := (aval_fill (ov := fun _ => none) hv).2
      refine ⟨v, st', h, hk.one, hk.le, fun ov K' k1 k2 => ?_⟩
      unfold aop
      split
      · rename_i c hc; exact absurd hc (hne c)
      · simp only [(aval_fill (ov := ov) hv).1]
        exact k2
    · exact h.elim

theorem aops_CF {C : CallK} (hC : CF C) {ops : Array Oper} : ∀ {l : List Oper} {t : List V} {st : List Ob} {K : List V → List Ob → Prop}, aops P C ops l t st K →
    ∃ t' st', K t' st' ∧ KG1 st st' ∧ st.length ≤ st'.length ∧ ∀ ov (K' : List V → List Ob → Prop), Fine ov st.length → K' t' (over ov st') → aops P C ops l t (over ov st) K'
  | [], t, st, K, h => ⟨t, st, h, fun _ h => h, Nat.le_refl _, fun ov K' _ h => h⟩
  | o :: l, t, st, K, h => by
    simp only [aops] at h
    split at h
    · rename_i hw
      obtain ⟨v, st1, h1, h2, h3, h4⟩ := aop_CF hC h
      obtain ⟨t', st', k1, k2, k3, k4⟩ := aops_CF hC h1
      refine ⟨t', st', k1, h2.trans k2, Nat.le_trans h3 k3, fun ov K' j1 j2 => ?_⟩
      simp only [aops, hw]
      exact h4 ov _ j1 (k4 ov K' (j1.le h3) j2)
    · rename_i hw
      obtain ⟨t', st', k1, k2, k3, k4⟩ := aops_CF hC h
      refine ⟨t', st', k1, k2, k3, fun ov K' j1 j2 => ?_⟩
      simp only [aops, hw]
      exact k4 ov K' j1 j2
    · exact h.elim

def NoGone (xs : List (Option Ob)) : Prop := ∀ (a : Nat), xs[a]? ≠ some (some .gone)

/-- What the needed new objects lay in. -/
def ovOf (base : Nat) (xs : List (Option Ob)) (needs : List Nat) : Nat → Option Ob := fun i => if base ≤ i ∧ i - base ∈ needs then (xs[i - base]?).getD none else none

theorem patch_over {base : Nat} {xs : List (Option Ob)} (hx : NoGone xs) : ∀ (needs : List Nat) (st : List Ob), patch base xs needs st = over (ovOf base xs needs) st
  | [], st => by
    rw [show ovOf base xs [] = fun _ => none from by funext i; simp [ovOf], over_none]
    rfl
  | a :: r, st => by
    have hpt : ∀ (i : Nat), (over (ovOf base xs (a :: r)) st)[i]? = (over (ovOf base xs r) (match st[base + a]?, xs[a]? with
      | some .gone, some (some X) => st.set (base + a) X
      | _, _ => st))[i]? := by
      intro i
      rw [over_at, over_at]
      by_cases hi : i = base + a
      · subst hi
        have hov : ovOf base xs (a :: r) (base + a) = (xs[a]?).getD none := by
          simp only [ovOf, Nat.le_add_right, Nat.add_sub_cancel_left, List.mem_cons, true_or, and_self, if_true]
        rw [hov]
        cases hst : st[base + a]? with
        | none => simp [hst]
        | some o =>
          cases o with
          | gone =>
            cases hxa : xs[a]? with
            | none =>
              have : ovOf base xs r (base + a) = none := by simp [ovOf, hxa]
              simp [hst, this]
            | some y =>
              cases y with
              | none =>
                have : ovOf base xs r (base + a) = none := by simp [ovOf, hxa]
                simp [hst, this]
              | some X =>
                have hlt := (List.getElem?_eq_some_iff.1 hst).1
                have hne : X ≠ .gone := fun h => hx a (by rw [hxa, h])
                simp only [Option.getD_some, List.getElem?_set_self hlt]
                cases X <;> first | rfl | exact absurd rfl hne
          | _ => simp [hst]
      · have hov : ovOf base xs (a :: r) i = ovOf base xs r i := by
          unfold ovOf
          by_cases hb : base ≤ i
          · have : i - base ≠ a := by omega
            simp [hb, this]
          · simp [hb]
        rw [hov]
        have : (match st[base + a]?, xs[a]? with
          | some Ob.gone, some (some X) => st.set (base + a) X
          | _, _ => st)[i]? = st[i]? := by
          split
          · rw [List.getElem?_set_ne (by omega)]
          · rfl
        rw [this]
    rw [List.ext_getElem? hpt, ← patch_over hx r]
    simp only [patch]
    split
    · rename_i X h1 h2
      simp only [h1, h2]
    · rename_i hne
      split
      · rename_i X h1 h2
        exact (hne X h1 h2).elim
      · rfl

theorem over_over {ov ov' : Nat → Option Ob} (h : ∀ (i : Nat) (X : Ob), ov i = some X → X ≠ .gone ∧ ov' i = some X) (st : List Ob) : over ov' (over ov st) = over ov' st := by
  apply List.ext_getElem?
  intro i
  rw [over_at, over_at, over_at]
  cases hs : st[i]? with
  | none => rfl
  | some o =>
    cases o with
    | gone =>
      simp only
      cases ho : ov i with
      | none => rfl
      | some X =>
        obtain ⟨hn, h2⟩ := h i X ho
        simp only [Option.getD_some, h2]
        cases X <;> first | rfl | exact absurd rfl hn
    | _ => rfl
theorem over_comm {ov ov' : Nat → Option Ob} (h : ∀ (i : Nat), ov i = none ∨ ov' i = none) (hn : ∀ (i : Nat), ov i ≠ some .gone) (hn' : ∀ (i : Nat), ov' i ≠ some .gone) (st : List Ob) : over ov' (over ov st) = over ov (over ov' st) := by
  apply List.ext_getElem?
  intro i
  rw [over_at, over_at, over_at, over_at]
  cases hs : st[i]? with
  | none => rfl
  | some o =>
    cases o with
    | gone =>
      simp only
      rcases h i with h | h <;> simp only [h, Option.getD_none]
      · cases ho : ov' i with
        | none => rfl
        | some X => simp only [Option.getD_some]; cases X <;> first | rfl | (simp only [h]; rfl)
      · cases ho : ov i with
        | none => rfl
        | some X => simp only [Option.getD_some]; cases X <;> first | rfl | (simp only [h]; rfl)
    | _ => rfl
end
end Go.M
