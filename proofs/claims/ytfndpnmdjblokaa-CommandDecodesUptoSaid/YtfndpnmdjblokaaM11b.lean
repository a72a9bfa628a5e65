/- The machine is deterministic, and what it does not look at may be anything: a gone object may be filled. -/
import Derived.Test.YtfndpnmdjblokaaM11
set_option linter.unusedVariables false
set_option linter.unusedSimpArgs false
namespace Go.M
open Go Go.RowKit

/-- What is gone stays gone, what is there stays there. -/
def KG (s s' : List Ob) : Prop := (∀ (i : Nat), s[i]? = some .gone → s'[i]? = some .gone) ∧ ∀ (i : Nat) (o : Ob), s[i]? = some o → o ≠ .gone → ∃ o', s'[i]? = some o' ∧ o' ≠ .gone
theorem KG.refl (s : List Ob) : KG s s := ⟨fun _ h => h, fun _ o h hn => ⟨o, h, hn⟩⟩
theorem KG.trans {a b c : List Ob} (h : KG a b) (k : KG b c) : KG a c := ⟨fun i hi => k.1 i (h.1 i hi), fun i o hi hn => by obtain ⟨o', h1, h2⟩ := h.2 i o hi hn; exact k.2 i o' h1 h2⟩
theorem KG.push (s : List Ob) (o : Ob) : KG s (s ++ [o]) := ⟨fun i h => by rw [List.getElem?_append_left (List.getElem?_eq_some_iff.1 h).1]; exact h, fun i o' h hn => ⟨o', by rw [List.getElem?_append_left (List.getElem?_eq_some_iff.1 h).1]; exact h, hn⟩⟩
theorem KG.set {s : List Ob} {id : Nat} {o o' : Ob} (h : s[id]? = some o) (hn : o ≠ .gone) (hn' : o' ≠ .gone) : KG s (s.set id o') := by
  have hlt := (List.getElem?_eq_some_iff.1 h).1
  refine ⟨fun i hi => ?_, fun i x hi hx => ?_⟩
  · by_cases hii : id = i
    · subst hii; rw [h] at hi; cases hi; exact absurd rfl hn
    · rw [List.getElem?_set_ne hii]; exact hi
  · by_cases hii : id = i
    · subst hii; exact ⟨o', by rw [List.getElem?_set_self hlt], hn'⟩
    · exact ⟨x, by rw [List.getElem?_set_ne hii]; exact hi, hx⟩

/-- Gone objects, filled. -/
def over (ov : Nat → Option Ob) (st : List Ob) : List Ob := st.mapIdx fun i o => match o with
  | .gone => (ov i).getD .gone
  | o => o
def Fine (ov : Nat → Option Ob) (n : Nat) : Prop := (∀ (i : Nat), n ≤ i → ov i = none) ∧ ∀ (i : Nat), ov i ≠ some .gone
section
variable {P : Program} {ov : Nat → Option Ob}
theorem over_at (st : List Ob) (i : Nat) : (over ov st)[i]? = match st[i]? with
    | some .gone => some ((ov i).getD .gone)
    | o => o := by
  simp only [over, List.getElem?_mapIdx]
  cases st[i]? with
  | none => rfl
  | some o => cases o <;> rfl
theorem over_len (st : List Ob) : (over ov st).length = st.length := by simp [over]
theorem over_none (st : List Ob) : over (fun _ => none) st = st := by
  apply List.ext_getElem?
  intro i
  rw [over_at]
  cases st[i]? with
  | none => rfl
  | some o => cases o <;> rfl
theorem fill_get {st : List Ob} {id : Nat} {o : Ob} (h : st[id]? = some o) (hn : o ≠ .gone) : (over ov st)[id]? = some o := by
  rw [over_at, h]
  cases o <;> first | rfl | exact absurd rfl hn
theorem fill_cells {st : List Ob} {id : Nat} {xs : List V} (h : st[id]? = some (.cells xs)) : (over ov st)[id]? = some (.cells xs) := fill_get h (by simp)
theorem fill_row {st : List Ob} {id : Nat} {e : TypeId} {xs : List V} {n lo : Nat} {fz : Bool} (h : st[id]? = some (.row e xs n lo fz)) : (over ov st)[id]? = some (.row e xs n lo fz) := fill_get h (by simp)
theorem fill_push (st : List Ob) {o : Ob} (hn : o ≠ .gone) : over ov st ++ [o] = over ov (st ++ [o]) := by
  cases o <;> first | exact absurd rfl hn | simp only [over, List.mapIdx_append, List.mapIdx_cons, List.mapIdx_nil]
theorem fill_push_c (st : List Ob) (xs : List V) : over ov st ++ [.cells xs] = over ov (st ++ [.cells xs]) := fill_push st (by simp)
theorem fill_push_r (st : List Ob) (e : TypeId) (xs : List V) (n lo : Nat) (fz : Bool) : over ov st ++ [.row e xs n lo fz] = over ov (st ++ [.row e xs n lo fz]) := fill_push st (by simp)
theorem fill_set {st : List Ob} {id : Nat} {o : Ob} (hn : o ≠ .gone) : (over ov st).set id o = over ov (st.set id o) := by
  apply List.ext_getElem?
  intro i
  rw [over_at, List.getElem?_set, List.getElem?_set, over_at]
  by_cases hi : id = i
  · simp only [hi, if_true, over_len]
    split
    · cases o <;> first | rfl | exact absurd rfl hn
    · rfl
  · simp only [if_neg hi]

theorem fill_set_c (st : List Ob) (id : Nat) (xs : List V) : (over ov st).set id (.cells xs) = over ov (st.set id (.cells xs)) := fill_set (by simp)
theorem fill_set_r (st : List Ob) (id : Nat) (e : TypeId) (xs : List V) (n lo : Nat) (fz : Bool) : (over ov st).set id (.row e xs n lo fz) = over ov (st.set id (.row e xs n lo fz)) := fill_set (by simp)
theorem elems_fill {st : List Ob} {e : TypeId} {x : V} {y : List V × Nat} (h : elems P st e x = some y) : elems P (over ov st) e x = some y := by
  unfold elems at h ⊢
  cases x with
  | sl id off len full =>
    simp only at h ⊢
    split at h
    · rename_i e' xs n lo fz s h1 h2
      simp only [fill_row h1, h2]
      exact h
    · cases h
  | sc v => cases v <;> simp only at h ⊢ <;> exact h
  | _ => simp only at h ⊢ <;> exact h

theorem aslice_fill {st : List Ob} {t : TypeId} {x : V} {lo hi mx : Option V} {v : V} (h : aslice P st t x lo hi mx = some v) : aslice P (over ov st) t x lo hi mx = some v := by
  unfold aslice at h ⊢
  cases x with
  | sl id off n full =>
    simp only at h ⊢
    split at h
    · rename_i e he
      split at h
      · rename_i e' xs n' lo' fz s h1 h2
        simp only [fill_row h1, h2]
        exact h
      · cases h
    · cases h
  | sc v => cases v <;> simp only at h ⊢ <;> exact h
  | _ => simp only at h ⊢ <;> exact h

theorem aconvert_fill {st : List Ob} {s d : TypeId} {x : V} {v : V} (h : aconvert P st s d x = some v) : aconvert P (over ov st) s d x = some v := by
  unfold aconvert at h ⊢
  split at h
  · exact h
  · split at h
    · rename_i e hu1 hu2
      split at h
      · rename_i hu3
        split at h
        · rename_i xs n he
          simp only [hu3, elems_fill he]
          exact h
        · cases h
      · cases h
    · cases h

/-- An operation that is no call. -/
theorem aval_fill {ρ : Operand → V} {st st' : List Ob} {o : Oper} {v : V} (h : aval P ρ st o = some (v, st')) :
    aval P ρ (over ov st) o = some (v, over ov st') ∧ KG st st' := by
  obtain ⟨dst, op, ty, pos, after, gd⟩ := o
  have same : ∀ {x : Option V}, x.map (·, st) = some (v, st') → x = some v ∧ st' = st := fun {x} hx => by
    obtain ⟨y, rfl, hy⟩ := Option.map_eq_some_iff.1 hx
    simp only [Prod.mk.injEq] at hy
    exact ⟨by rw [hy.1], hy.2.symm⟩
  cases op with
  | move x => simp only [aval, Option.some.injEq, Prod.mk.injEq] at h ⊢; obtain ⟨rfl, rfl⟩ := h; exact ⟨⟨rfl, rfl⟩, .refl _⟩
  | assign x => simp only [aval, Option.some.injEq, Prod.mk.injEq] at h ⊢; obtain ⟨rfl, rfl⟩ := h; exact ⟨⟨rfl, rfl⟩, .refl _⟩
  | pick c a b =>
    simp only [aval] at h ⊢
    split at h
    · simp only [Option.some.injEq, Prod.mk.injEq] at h ⊢; obtain ⟨rfl, rfl⟩ := h; exact ⟨⟨rfl, rfl⟩, .refl _⟩
    · cases h
  | alloc t =>
    simp only [aval] at h ⊢
    split at h
    · rename_i z hz
      split at h
      · rename_i hc
        simp only [Option.some.injEq, Prod.mk.injEq] at h
        obtain ⟨rfl, rfl⟩ := h
        simp only [hz, if_pos hc, over_len, fill_push_c, fill_push_r]
        exact ⟨trivial, .push _ _⟩
      · cases h
    · cases h
  | box t x =>
    simp only [aval] at h ⊢
    split at h
    · rename_i hc
      simp only [Option.some.injEq, Prod.mk.injEq] at h
      obtain ⟨rfl, rfl⟩ := h
      simp only [if_pos hc, over_len, fill_push_c, fill_push_r]
      exact ⟨trivial, .push _ _⟩
    · cases h
  | build t ps =>
    simp only [aval] at h ⊢
    split at h
    · rename_i z pl hz hp
      split at h
      · rename_i cs hcs
        simp only [Option.some.injEq, Prod.mk.injEq] at h
        obtain ⟨rfl, rfl⟩ := h
        simp only [hz, hp, hcs]
        exact ⟨trivial, .refl _⟩
      · cases h
    · cases h
  | buildSlice t n ps =>
    simp only [aval] at h ⊢
    split at h
    · rename_i e he
      split at h
      · rename_i s z hs hz
        split at h
        · rename_i hc
          split at h
          · rename_i cs hcs
            split at h
            · rename_i hd
              simp only [Option.some.injEq, Prod.mk.injEq] at h
              obtain ⟨rfl, rfl⟩ := h
              simp only [he, hs, hz, if_pos hc, hcs, if_pos hd, over_len, fill_push_c, fill_push_r]
              exact ⟨trivial, .push _ _⟩
            · cases h
          · cases h
        · cases h
      · cases h
    · cases h
  | load t a =>
    simp only [aval] at h ⊢
    split at h
    · rename_i id off ha
      split at h
      · rename_i xs hx
        obtain ⟨h1, rfl⟩ := same h
        simp only [ha, fill_cells hx, h1]
        exact ⟨rfl, .refl _⟩
      · cases h
    · rename_i id off e ha
      split at h
      · rename_i ty xs n lo fz hx
        split at h
        · rename_i k s hk hs
          split at h
          · rename_i hc
            obtain ⟨h1, rfl⟩ := same h
            simp only [ha, fill_row hx, hk, hs, if_pos hc, h1]
            exact ⟨rfl, .refl _⟩
          · cases h
        · cases h
      · cases h
    · rename_i xs ha
      obtain ⟨h1, rfl⟩ := same h
      simp only [ha, h1]
      exact ⟨rfl, .refl _⟩
    · cases h
  | store t a x =>
    simp only [aval] at h ⊢
    split at h
    · rename_i id off ha
      split at h
      · rename_i xs hx
        split at h
        · rename_i hc
          simp only [Option.some.injEq, Prod.mk.injEq] at h
          obtain ⟨rfl, rfl⟩ := h
          simp only [ha, fill_cells hx, if_pos hc, fill_set_c, fill_set_r]
          exact ⟨trivial, .set hx (by simp) (by simp)⟩
        · cases h
      · cases h
    · rename_i id off e ha
      split at h
      · rename_i ty xs n lo fz hx
        split at h
        · rename_i hc
          simp only [Option.some.injEq, Prod.mk.injEq] at h
          obtain ⟨rfl, rfl⟩ := h
          simp only [ha, fill_row hx, if_pos hc, fill_set_c, fill_set_r]
          exact ⟨trivial, .set hx (by simp) (by simp)⟩
        · cases h
      · cases h
    · cases h
  | nilCheck x =>
    simp only [aval] at h ⊢
    split at h
    · simp only [Option.some.injEq, Prod.mk.injEq] at h ⊢; obtain ⟨rfl, rfl⟩ := h; exact ⟨⟨rfl, rfl⟩, .refl _⟩
    · simp only [Option.some.injEq, Prod.mk.injEq] at h ⊢; obtain ⟨rfl, rfl⟩ := h; exact ⟨⟨rfl, rfl⟩, .refl _⟩
    · simp only [Option.some.injEq, Prod.mk.injEq] at h ⊢; obtain ⟨rfl, rfl⟩ := h; exact ⟨⟨rfl, rfl⟩, .refl _⟩
    · split at h
      · simp only [Option.some.injEq, Prod.mk.injEq] at h ⊢; obtain ⟨rfl, rfl⟩ := h; exact ⟨⟨rfl, rfl⟩, .refl _⟩
      · cases h
    · cases h
  | binOp op t x y t2 =>
    simp only [aval] at h ⊢
    obtain ⟨h1, rfl⟩ := same h
    rw [h1]
    exact ⟨rfl, .refl _⟩
  | unOp op t x =>
    simp only [aval] at h ⊢
    split at h
    · rename_i a ha
      obtain ⟨y, hy, hz⟩ := Option.map_eq_some_iff.1 h
      simp only [Prod.mk.injEq] at hz
      obtain ⟨rfl, rfl⟩ := hz
      rw [hy]
      exact ⟨rfl, .refl _⟩
    · cases h
  | convert s d x =>
    simp only [aval] at h ⊢
    obtain ⟨h1, rfl⟩ := same h
    rw [aconvert_fill h1]
    exact ⟨rfl, .refl _⟩
  | makeFunc f first caps =>
    simp only [aval] at h ⊢
    split at h
    · rename_i hc
      simp only [Option.some.injEq, Prod.mk.injEq] at h
      obtain ⟨rfl, rfl⟩ := h
      rw [if_pos hc]
      exact ⟨rfl, .refl _⟩
    · cases h
  | slice t x lo hi mx =>
    simp only [aval] at h ⊢
    split at h
    · cases h
    · rename_i hc
      obtain ⟨h1, rfl⟩ := same h
      rw [if_neg hc, aslice_fill h1]
      exact ⟨rfl, .refl _⟩
  | fieldAddr t x i =>
    simp only [aval] at h ⊢
    split at h
    · rename_i off s ft hf
      split at h
      · cases h
      · rename_i hs
        simp only [hf, if_neg hs]
        split at h
        · simp only [Option.some.injEq, Prod.mk.injEq] at h ⊢; obtain ⟨rfl, rfl⟩ := h; exact ⟨⟨rfl, rfl⟩, .refl _⟩
        · simp only [Option.some.injEq, Prod.mk.injEq] at h ⊢; obtain ⟨rfl, rfl⟩ := h; exact ⟨⟨rfl, rfl⟩, .refl _⟩
        · simp only [Option.some.injEq, Prod.mk.injEq] at h ⊢; obtain ⟨rfl, rfl⟩ := h; exact ⟨⟨rfl, rfl⟩, .refl _⟩
        · cases h
    · cases h
  | field t x i =>
    simp only [aval] at h ⊢
    split at h
    · rename_i off s ft hf
      split at h
      · rename_i xs hx
        obtain ⟨h1, rfl⟩ := same h
        simp only [hf, hx, h1]
        exact ⟨rfl, .refl _⟩
      · cases h
    · cases h
  | indexAddr t x i =>
    simp only [aval] at h ⊢
    split at h
    · rename_i j hj
      try simp only [hj]
      split at h
      · rename_i n e id o hu hx
        try simp only [hu, hx]
        split at h
        · rename_i s hs
          split at h
          · rename_i hc
            simp only [Option.some.injEq, Prod.mk.injEq] at h
            obtain ⟨rfl, rfl⟩ := h
            simp only [hs, if_pos hc]
            exact ⟨trivial, .refl _⟩
          · cases h
        · cases h
      · rename_i e id off len full hu hx
        try simp only [hu, hx]
        split at h
        · rename_i e' xs n lo fz s h1 h2
          split at h
          · rename_i hc
            simp only [Option.some.injEq, Prod.mk.injEq] at h
            obtain ⟨rfl, rfl⟩ := h
            simp only [fill_row h1, h2, if_pos hc]
            exact ⟨trivial, .refl _⟩
          · cases h
        · cases h
      · rename_i e xs len nil full hu hx
        try simp only [hu, hx]
        split at h
        · rename_i s hs
          split at h
          · rename_i hc
            simp only [Option.some.injEq, Prod.mk.injEq] at h
            obtain ⟨rfl, rfl⟩ := h
            simp only [hs, if_pos hc]
            exact ⟨trivial, .refl _⟩
          · cases h
        · cases h
      · cases h
    · cases h
  | index t x i =>
    simp only [aval] at h ⊢
    split at h
    · rename_i j hj
      try simp only [hj]
      split at h
      · rename_i n e xs hu hx
        try simp only [hu, hx]
        split at h
        · rename_i s hs
          split at h
          · rename_i hc
            obtain ⟨h1, rfl⟩ := same h
            simp only [hs, if_pos hc, h1]
            exact ⟨rfl, .refl _⟩
          · cases h
        · cases h
      · rename_i b hu hx
        try simp only [hu, hx]
        split at h
        · rename_i hc
          obtain ⟨c, hcc, hz⟩ := Option.map_eq_some_iff.1 h
          simp only [Prod.mk.injEq] at hz
          obtain ⟨rfl, rfl⟩ := hz
          rw [if_pos hc, hcc]
          exact ⟨rfl, .refl _⟩
        · cases h
      · cases h
    · cases h
  | extract x i =>
    simp only [aval] at h ⊢
    split at h
    · rename_i xs hx
      obtain ⟨h1, rfl⟩ := same h
      simp only [hx, h1]
      exact ⟨rfl, .refl _⟩
    · cases h
  | _ => simp [aval] at h

theorem aappend_fill {st st' : List Ob} {t : TypeId} {s x v : V} (h : aappend P st t s x = some (v, st')) : aappend P (over ov st) t s x = some (v, over ov st') ∧ KG st st' := by
  unfold aappend at h ⊢
  split at h
  · rename_i e he
    split at h
    · rename_i sz by_ z ys m h1 h2 h3 h4
      simp only [h1, h2, h3, elems_fill h4]
      split at h
      · rename_i hc
        rw [if_pos hc]
        split at h
        · split at h
          · rename_i hd
            rw [if_pos hd]
            split at h
            · rename_i hm
              simp only [Option.some.injEq, Prod.mk.injEq] at h ⊢
              obtain ⟨rfl, rfl⟩ := h
              rw [if_pos hm]
              exact ⟨rfl, .refl _⟩
            · rename_i hm
              simp only [Option.some.injEq, Prod.mk.injEq] at h ⊢
              obtain ⟨rfl, rfl⟩ := h
              rw [if_neg hm, over_len, fill_push_r]
              exact ⟨rfl, .push _ _⟩
          · cases h
        · split at h
          · rename_i e' xs n lo fz hx
            simp only [fill_row hx]
            split at h
            · rename_i hd
              rw [if_pos hd]
              split at h
              · rename_i hf
                rw [if_pos hf]
                split at h
                · rename_i hm
                  simp only [Option.some.injEq, Prod.mk.injEq] at h ⊢
                  obtain ⟨rfl, rfl⟩ := h
                  rw [if_pos hm]
                  exact ⟨rfl, .refl _⟩
                · rename_i hm
                  simp only [Option.some.injEq, Prod.mk.injEq] at h ⊢
                  obtain ⟨rfl, rfl⟩ := h
                  rw [if_neg hm, over_len, fill_push_r]
                  exact ⟨rfl, .push _ _⟩
              · rename_i hf
                rw [if_neg hf]
                split at h
                · rename_i hm
                  simp only [Option.some.injEq, Prod.mk.injEq] at h ⊢
                  obtain ⟨rfl, rfl⟩ := h
                  rw [if_pos hm, fill_set_r]
                  exact ⟨rfl, .set hx (by simp) (by simp)⟩
                · cases h
            · cases h
          · cases h
        · cases h
      · cases h
    · cases h
  · cases h

theorem abuiltin_fill {st st' : List Ob} {b : Builtin} {ts : Array TypeId} {args : List V} {v : V} (h : abuiltin P st b ts args = some (v, st')) : abuiltin P (over ov st) b ts args = some (v, over ov st') ∧ KG st st' := by
  unfold abuiltin at h ⊢
  split at h
  · rename_i t t' s x hts
    try simp only [hts]
    split at h
    · exact aappend_fill h
    · exact aappend_fill h
    · cases h
  · rename_i t x hts
    try simp only [hts]
    split at h
    · simp only [Option.some.injEq, Prod.mk.injEq] at h ⊢; obtain ⟨rfl, rfl⟩ := h; exact ⟨⟨rfl, rfl⟩, .refl _⟩
    · simp only [Option.some.injEq, Prod.mk.injEq] at h ⊢; obtain ⟨rfl, rfl⟩ := h; exact ⟨⟨rfl, rfl⟩, .refl _⟩
    · simp only [Option.some.injEq, Prod.mk.injEq] at h ⊢; obtain ⟨rfl, rfl⟩ := h; exact ⟨⟨rfl, rfl⟩, .refl _⟩
    · cases h
  · split at h
    · rename_i us hus
      obtain ⟨y, hy, hz⟩ := Option.map_eq_some_iff.1 h
      simp only [Prod.mk.injEq] at hz
      obtain ⟨rfl, rfl⟩ := hz
      simp only [hus, hy]
      exact ⟨rfl, .refl _⟩
    · cases h
  · split at h
    · rename_i us hus
      obtain ⟨y, hy, hz⟩ := Option.map_eq_some_iff.1 h
      simp only [Prod.mk.injEq] at hz
      obtain ⟨rfl, rfl⟩ := hz
      simp only [hus, hy]
      exact ⟨rfl, .refl _⟩
    · cases h
  · cases h
end
end Go.M
