/- The machine is deterministic, and blind to what is gone. -/
import Derived.Test.YtfndpnmdjblokaaM11b
set_option linter.unusedVariables false
set_option linter.unusedSimpArgs false
namespace Go.M
open Go Go.RowKit

/-- What is there, and not gone, is in the other one too. -/
def LE (a b : List Ob) : Prop := ∀ (i : Nat) (o : Ob), a[i]? = some o → o ≠ .gone → b[i]? = some o
/-- Gone stays gone. -/
def KG1 (s s' : List Ob) : Prop := ∀ (i : Nat), s[i]? = some .gone → s'[i]? = some .gone

section
variable {P : Program} {ov : Nat → Option Ob}

theorem LE.over (st : List Ob) : LE st (over ov st) := fun i o h hn => fill_get h hn
theorem LE.refl (st : List Ob) : LE st st := fun i o h hn => h
theorem LE.trans {a b c : List Ob} (h : LE a b) (k : LE b c) : LE a c := fun i o hi hn => k i o (h i o hi hn) hn
theorem LE.cells {a b : List Ob} (h : LE a b) {id : Nat} {xs : List V} (k : a[id]? = some (.cells xs)) : b[id]? = some (.cells xs) := h _ _ k (by simp)
theorem LE.row {a b : List Ob} (h : LE a b) {id : Nat} {e : TypeId} {xs : List V} {n lo : Nat} {fz : Bool} (k : a[id]? = some (.row e xs n lo fz)) : b[id]? = some (.row e xs n lo fz) := h _ _ k (by simp)

theorem elems_le {a b : List Ob} (hle : LE a b) {e : TypeId} {x : V} {y : List V × Nat} (h : elems P a e x = some y) : elems P b e x = some y := by
  unfold elems at h ⊢
  cases x with
  | sl id off len full =>
    simp only at h ⊢
    split at h
    · rename_i e' xs n lo fz s h1 h2
      simp only [hle.row h1, h2]
      exact h
    · cases h
  | sc v => cases v <;> simp only at h ⊢ <;> exact h
  | _ => simp only at h ⊢ <;> exact h

/-- A quiet operation yields the same where there is more. -/
theorem aval_le {a b : List Ob} (hle : LE a b) {ρ : Operand → V} {o : Oper} {v : V} {a' : List Ob} (hq : quietOp o.op = true) (h : aval P ρ a o = some (v, a')) : (aval P ρ b o).map (·.1) = some v := by
  obtain ⟨dst, op, ty, pos, after, gd⟩ := o
  have same : ∀ {x : Option V} {s : List Ob}, x.map (·, s) = some (v, a') → x = some v := fun {x s} hx => by
    obtain ⟨y, rfl, hy⟩ := Option.map_eq_some_iff.1 hx
    simp only [Prod.mk.injEq] at hy
    rw [hy.1]
  cases op with
  | move x => simp only [aval, Option.some.injEq, Prod.mk.injEq] at h ⊢; obtain ⟨rfl, rfl⟩ := h; rfl
  | assign x => simp only [aval, Option.some.injEq, Prod.mk.injEq] at h ⊢; obtain ⟨rfl, rfl⟩ := h; rfl
  | pick c x y =>
    simp only [aval] at h ⊢
    split at h
    · simp only [Option.some.injEq, Prod.mk.injEq] at h; obtain ⟨rfl, rfl⟩ := h; rfl
    · cases h
  | build t ps =>
    simp only [aval] at h ⊢
    split at h
    · rename_i z pl hz hp
      split at h
      · rename_i cs hcs
        simp only [Option.some.injEq, Prod.mk.injEq] at h
        obtain ⟨rfl, rfl⟩ := h
        simp_all
      · cases h
    · cases h
  | load t x =>
    simp only [aval] at h ⊢
    split at h
    · rename_i id off ha
      split at h
      · rename_i xs hx
        simp only [ha, hle.cells hx, same h, Option.map_some]
      · cases h
    · rename_i id off e ha
      split at h
      · rename_i ty xs n lo fz hx
        split at h
        · rename_i k s hk hs
          split at h
          · rename_i hc
            simp only [ha, hle.row hx, hk, hs, if_pos hc, same h, Option.map_some]
          · cases h
        · cases h
      · cases h
    · rename_i xs ha
      simp only [ha, same h, Option.map_some]
    · cases h
  | nilCheck x =>
    simp only [aval] at h ⊢
    split at h
    · simp only [Option.some.injEq, Prod.mk.injEq] at h; obtain ⟨rfl, rfl⟩ := h; rfl
    · simp only [Option.some.injEq, Prod.mk.injEq] at h; obtain ⟨rfl, rfl⟩ := h; rfl
    · simp only [Option.some.injEq, Prod.mk.injEq] at h; obtain ⟨rfl, rfl⟩ := h; rfl
    · split at h
      · simp only [Option.some.injEq, Prod.mk.injEq] at h; obtain ⟨rfl, rfl⟩ := h; rfl
      · cases h
    · cases h
  | binOp op t x y t2 =>
    simp only [aval] at h ⊢
    rw [same h]; rfl
  | unOp op t x =>
    simp only [aval] at h ⊢
    split at h
    · rename_i a ha
      obtain ⟨y, hy, hz⟩ := Option.map_eq_some_iff.1 h
      simp only [Prod.mk.injEq] at hz
      rw [hy]
      simp only [Option.map_some, hz.1]
    · cases h
  | convert s d x =>
    simp only [aval] at h ⊢
    have h1 := same h
    unfold aconvert at h1 ⊢
    split at h1
    · simp only [h1, Option.map_some]
    · split at h1
      · rename_i e hu1 hu2
        split at h1
        · rename_i hu3
          split at h1
          · rename_i xs n he
            simp only [elems_le hle he, h1, Option.map_some]
          · cases h1
        · cases h1
      · cases h1
  | makeFunc f first caps =>
    simp only [aval] at h ⊢
    split at h
    · rename_i hc
      simp only [Option.some.injEq, Prod.mk.injEq] at h
      obtain ⟨rfl, rfl⟩ := h
      rw [if_pos hc]
      rfl
    · cases h
  | slice t x lo hi mx =>
    simp only [aval] at h ⊢
    split at h
    · cases h
    · rename_i hc
      have h1 := same h
      rw [if_neg hc]
      have : aslice P b t (ρ x) (lo.map ρ) (hi.map ρ) (mx.map ρ) = some v := by
        unfold aslice at h1 ⊢
        generalize ρ x = y at *
        cases y with
        | sl id off n full =>
          simp only at h1 ⊢
          split at h1
          · rename_i e he
            split at h1
            · rename_i e' xs n' lo' fz s k1 k2
              simp only [hle.row k1, k2]
              exact h1
            · cases h1
          · cases h1
        | sc v => cases v <;> simp only at h1 ⊢ <;> exact h1
        | _ => simp only at h1 ⊢ <;> exact h1
      rw [this]; rfl
  | fieldAddr t x i =>
    simp only [aval] at h ⊢
    split at h
    · rename_i off s ft hf
      split at h
      · cases h
      · rename_i hs
        simp only [hf, if_neg hs]
        split at h
        · simp only [Option.some.injEq, Prod.mk.injEq] at h; obtain ⟨rfl, rfl⟩ := h; rfl
        · simp only [Option.some.injEq, Prod.mk.injEq] at h; obtain ⟨rfl, rfl⟩ := h; rfl
        · simp only [Option.some.injEq, Prod.mk.injEq] at h; obtain ⟨rfl, rfl⟩ := h; rfl
        · cases h
    · cases h
  | field t x i =>
    simp only [aval] at h ⊢
    split at h
    · rename_i off s ft hf
      split at h
      · rename_i xs hx
        simp only [hf, hx, same h, Option.map_some]
      · cases h
    · cases h
  | indexAddr t x i =>
    simp only [aval] at h ⊢
    split at h
    · rename_i j hj
      try simp only [hj]
      split at h
      · rename_i n e id o hu hx
        try simp only [hu, hx]
        split at h
        · rename_i s hs
          split at h
          · rename_i hc
            simp only [Option.some.injEq, Prod.mk.injEq] at h
            obtain ⟨rfl, rfl⟩ := h
            simp only [hs, if_pos hc, Option.map_some]
          · cases h
        · cases h
      · rename_i e id off len full hu hx
        try simp only [hu, hx]
        split at h
        · rename_i e' xs n lo fz s h1 h2
          split at h
          · rename_i hc
            simp only [Option.some.injEq, Prod.mk.injEq] at h
            obtain ⟨rfl, rfl⟩ := h
            simp only [hle.row h1, h2, if_pos hc, Option.map_some]
          · cases h
        · cases h
      · rename_i e xs len nil full hu hx
        try simp only [hu, hx]
        split at h
        · rename_i s hs
          split at h
          · rename_i hc
            simp only [Option.some.injEq, Prod.mk.injEq] at h
            obtain ⟨rfl, rfl⟩ := h
            simp only [hs, if_pos hc, Option.map_some]
          · cases h
        · cases h
      · cases h
    · cases h
  | index t x i =>
    simp only [aval] at h ⊢
    split at h
    · rename_i j hj
      try simp only [hj]
      split at h
      · rename_i n e xs hu hx
        try simp only [hu, hx]
        split at h
        · rename_i s hs
          split at h
          · rename_i hc
            simp only [hs, if_pos hc, same h, Option.map_some]
          · cases h
        · cases h
      · rename_i bb hu hx
        try simp only [hu, hx]
        split at h
        · rename_i hc
          obtain ⟨c, hcc, hz⟩ := Option.map_eq_some_iff.1 h
          simp only [Prod.mk.injEq] at hz
          rw [if_pos hc, hcc]
          simp only [Option.map_some, hz.1]
        · cases h
      · cases h
    · cases h
  | extract x i =>
    simp only [aval] at h ⊢
    split at h
    · rename_i xs hx
      simp only [hx, same h, Option.map_some]
    · cases h
  | alloc t => simp [quietOp] at hq
  | box t x => simp [quietOp] at hq
  | buildSlice t n ps => simp [quietOp] at hq
  | store t x y => simp [quietOp] at hq
  | _ => simp [aval] at h

/-- What looks at no memory yields the same everywhere. -/
theorem aval_any {a b : List Ob} {ρ : Operand → V} {o : Oper} {v : V} {a' : List Ob} (hq : quietOp o.op = true) (hm : memOp o.op = false) (h : aval P ρ a o = some (v, a')) : (aval P ρ b o).map (·.1) = some v := by
  obtain ⟨dst, op, ty, pos, after, gd⟩ := o
  have key : ∀ {x : Option V} {s s' : List Ob}, x.map (·, s) = some (v, a') → (x.map (·, s')).map (·.1) = some v := fun {x s s'} hx => by
    obtain ⟨y, rfl, hy⟩ := Option.map_eq_some_iff.1 hx
    simp only [Prod.mk.injEq] at hy
    simp only [Option.map_some, hy.1]
  cases op with
  | load t x => simp [memOp] at hm
  | convert s d x => simp [memOp] at hm
  | slice t x lo hi mx => simp [memOp] at hm
  | indexAddr t x i => simp [memOp] at hm
  | alloc t => simp [quietOp] at hq
  | box t x => simp [quietOp] at hq
  | buildSlice t n ps => simp [quietOp] at hq
  | store t x y => simp [quietOp] at hq
  | move x => simp only [aval, Option.some.injEq, Prod.mk.injEq] at h ⊢; obtain ⟨rfl, rfl⟩ := h; rfl
  | assign x => simp only [aval, Option.some.injEq, Prod.mk.injEq] at h ⊢; obtain ⟨rfl, rfl⟩ := h; rfl
  | binOp op t x y t2 => simp only [aval] at h ⊢; exact key h
  | pick c x y =>
    simp only [aval] at h ⊢
    split at h
    · simp only [Option.some.injEq, Prod.mk.injEq] at h; obtain ⟨rfl, rfl⟩ := h; rfl
    · cases h
  | build t ps =>
    simp only [aval] at h ⊢
    split at h
    · split at h
      · simp only [Option.some.injEq, Prod.mk.injEq] at h
        obtain ⟨rfl, rfl⟩ := h
        simp_all
      · cases h
    · cases h
  | nilCheck x =>
    simp only [aval] at h ⊢
    split at h
    · simp only [Option.some.injEq, Prod.mk.injEq] at h; obtain ⟨rfl, rfl⟩ := h; rfl
    · simp only [Option.some.injEq, Prod.mk.injEq] at h; obtain ⟨rfl, rfl⟩ := h; rfl
    · simp only [Option.some.injEq, Prod.mk.injEq] at h; obtain ⟨rfl, rfl⟩ := h; rfl
    · split at h
      · simp only [Option.some.injEq, Prod.mk.injEq] at h; obtain ⟨rfl, rfl⟩ := h; rfl
      · cases h
    · cases h
  | unOp op t x =>
    simp only [aval] at h ⊢
    split at h
    · obtain ⟨y, hy, hz⟩ := Option.map_eq_some_iff.1 h
      simp only [Prod.mk.injEq] at hz
      rw [hy]
      simp only [Option.map_some, hz.1]
    · cases h
  | makeFunc f first caps =>
    simp only [aval] at h ⊢
    split at h
    · rename_i hc
      simp only [Option.some.injEq, Prod.mk.injEq] at h
      obtain ⟨rfl, rfl⟩ := h
      rw [if_pos hc]
      rfl
    · cases h
  | fieldAddr t x i =>
    simp only [aval] at h ⊢
    split at h
    · split at h
      · cases h
      · rename_i hs
        simp only [if_neg hs]
        split at h
        · simp only [Option.some.injEq, Prod.mk.injEq] at h; obtain ⟨rfl, rfl⟩ := h; rfl
        · simp only [Option.some.injEq, Prod.mk.injEq] at h; obtain ⟨rfl, rfl⟩ := h; rfl
        · simp only [Option.some.injEq, Prod.mk.injEq] at h; obtain ⟨rfl, rfl⟩ := h; rfl
        · cases h
    · cases h
  | field t x i =>
    simp only [aval] at h ⊢
    split at h
    · split at h
      · exact key h
      · cases h
    · cases h
  | index t x i =>
    simp only [aval] at h ⊢
    split at h
    · split at h
      · split at h
        · split at h
          · rename_i hc; rw [if_pos hc]; exact key h
          · cases h
        · cases h
      · split at h
        · rename_i hc
          rw [if_pos hc]
          obtain ⟨c, hcc, hz⟩ := Option.map_eq_some_iff.1 h
          simp only [Prod.mk.injEq] at hz
          rw [hcc]
          simp only [Option.map_some, hz.1]
        · cases h
      · cases h
    · cases h
  | extract x i =>
    simp only [aval] at h ⊢
    split at h
    · exact key h
    · cases h
  | _ => simp [aval] at h
end
end Go.M
