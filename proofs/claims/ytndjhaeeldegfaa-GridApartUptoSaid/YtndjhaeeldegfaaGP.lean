/- Lists of entries: looked into, turned, made shorter. -/
import Derived.Test.YtndjhaeeldegfaaG1
set_option linter.unusedVariables false
set_option linter.unusedSimpArgs false
set_option maxRecDepth 10000
namespace Go.Proofs.Ytndjhaeeldegfaa
open Go Go.M Go.RowKit
attribute [local congr] acallF_cong aloop_cong bcase_cong resK_cong valK_cong wantK_cong callK_cong xputK_cong qputK_cong resM_cong rfK_cong
attribute [local irreducible] seqK blockK loopK nextK bcase resK valK wantK funK putK dputK xputK qputK callK aops aop acode adraw aloop acallF acall invK resM rfK rfEnd rdEnd rdMid around
theorem atI_cons {α : Type} (i : Int) (k : Int) (u : α) (l : List (Int × α)) : atI i ((k, u) :: l) = if i == k then some 0 else (atI i l).map (· + 1) := rfl
theorem getI_nil (i : Int) : getI i [] = none := rfl
theorem getI_cons (i k : Int) (u : V) (l : List (Int × V)) : getI i ((k, u) :: l) = if i == k then some u else getI i l := by
  unfold getI
  rw [atI_cons]
  by_cases h : (i == k) = true
  · rw [if_pos h, if_pos h]; rfl
  · rw [if_neg h, if_neg h]; cases atI i l <;> rfl
theorem putI_nil (i : Int) (v : V) : putI i v [] = [(i, v)] := rfl
theorem putI_cons (i k : Int) (v u : V) (l : List (Int × V)) : putI i v ((k, u) :: l) = if i == k then (i, v) :: l else (k, u) :: putI i v l := by
  unfold putI
  rw [atI_cons]
  by_cases h : (i == k) = true
  · rw [if_pos h, if_pos h]; rfl
  · rw [if_neg h, if_neg h]; cases atI i l <;> rfl
def delI (i : Int) (l : List (Int × V)) : List (Int × V) := match atI i l with
  | some q => l.eraseIdx q
  | none => l
theorem delI_nil (i : Int) : delI i [] = [] := rfl
theorem delI_cons (i k : Int) (u : V) (l : List (Int × V)) : delI i ((k, u) :: l) = if i == k then l else (k, u) :: delI i l := by
  unfold delI
  rw [atI_cons]
  by_cases h : (i == k) = true
  · rw [if_pos h, if_pos h]; rfl
  · rw [if_neg h, if_neg h]; cases atI i l <;> rfl
theorem tstI (i k : Int) : (i == k) = true ↔ i = k := by simp
theorem getI_putI (j i : Int) (v : V) : ∀ l : List (Int × V), getI j (putI i v l) = if j == i then some v else getI j l
  | [] => by rw [putI_nil, getI_cons, getI_nil]
  | (k, u) :: l => by
    rw [putI_cons, getI_cons]
    by_cases h : (i == k) = true
    · rw [if_pos h, getI_cons]
      have := (tstI i k).1 h
      subst this
      split <;> rfl
    · rw [if_neg h, getI_cons, getI_putI j i v l]
      by_cases h1 : (j == k) = true
      · rw [if_pos h1, if_pos h1]
        have := (tstI j k).1 h1
        subst this
        rw [if_neg (fun hh => h ((tstI _ _).2 ((tstI _ _).1 hh).symm))]
      · rw [if_neg h1, if_neg h1]
theorem putI_len (i : Int) (v : V) : ∀ l : List (Int × V), (putI i v l).length = if (getI i l).isSome = true then l.length else l.length + 1
  | [] => rfl
  | (k, u) :: l => by
    rw [putI_cons, getI_cons]
    by_cases h : (i == k) = true
    · simp only [h, if_true, Option.isSome_some, List.length_cons]
    · simp only [h, if_false, Bool.false_eq_true, List.length_cons, putI_len i v l]
      split <;> rfl
/-- No key twice. -/
def ndI (l : List (Int × V)) : Prop := (l.map (·.1)).Nodup
theorem getI_none {i : Int} : ∀ {l : List (Int × V)}, getI i l = none ↔ i ∉ l.map (·.1)
  | [] => by simp [getI_nil]
  | (k, u) :: l => by
    rw [getI_cons]
    by_cases h : (i == k) = true
    · have := (tstI i k).1 h
      subst this
      simp [h]
    · rw [if_neg h, getI_none (l := l)]
      have : i ≠ k := fun hh => h ((tstI _ _).2 hh)
      simp [this]
theorem ndI_putI (i : Int) (v : V) : ∀ {l : List (Int × V)}, ndI l → ndI (putI i v l)
  | [], _ => by simp [ndI, putI_nil]
  | (k, u) :: l, h => by
    rw [putI_cons]
    unfold ndI at h
    rw [List.map_cons, List.nodup_cons] at h
    by_cases hh : (i == k) = true
    · rw [if_pos hh]
      have := (tstI i k).1 hh
      subst this
      unfold ndI
      rw [List.map_cons, List.nodup_cons]
      exact h
    · rw [if_neg hh]
      unfold ndI
      rw [List.map_cons, List.nodup_cons]
      refine ⟨?_, ndI_putI i v h.2⟩
      rw [← getI_none (i := k), getI_putI, if_neg (fun h2 => hh ((tstI _ _).2 ((tstI _ _).1 h2).symm))]
      exact getI_none.2 h.1
theorem getI_delI (j i : Int) : ∀ {l : List (Int × V)}, ndI l → getI j (delI i l) = if j == i then none else getI j l
  | [], _ => by rw [delI_nil, getI_nil]; split <;> rfl
  | (k, u) :: l, h => by
    rw [delI_cons, getI_cons]
    unfold ndI at h
    rw [List.map_cons, List.nodup_cons] at h
    by_cases hh : (i == k) = true
    · have := (tstI i k).1 hh
      subst this
      rw [if_pos hh]
      split
      · rename_i h2
        have := (tstI _ _).1 h2
        subst this
        exact getI_none.2 h.1
      · rfl
    · rw [if_neg hh, getI_cons, getI_delI j i h.2]
      by_cases h1 : (j == k) = true
      · rw [if_pos h1, if_pos h1]
        have := (tstI j k).1 h1
        subst this
        rw [if_neg (fun h2 => hh ((tstI _ _).2 ((tstI _ _).1 h2).symm))]
      · rw [if_neg h1, if_neg h1]
theorem ndI_delI (i : Int) : ∀ {l : List (Int × V)}, ndI l → ndI (delI i l)
  | [], h => h
  | (k, u) :: l, h => by
    rw [delI_cons]
    have h0 := h
    unfold ndI at h
    rw [List.map_cons, List.nodup_cons] at h
    by_cases hh : (i == k) = true
    · rw [if_pos hh]; exact h.2
    · rw [if_neg hh]
      unfold ndI
      rw [List.map_cons, List.nodup_cons]
      refine ⟨?_, ndI_delI i h.2⟩
      rw [← getI_none (i := k), getI_delI _ _ h.2]
      split
      · rfl
      · exact getI_none.2 h.1
theorem delI_len (i : Int) : ∀ {l : List (Int × V)}, (getI i l).isSome = true → (delI i l).length + 1 = l.length
  | [], h => by simp [getI_nil] at h
  | (k, u) :: l, h => by
    rw [delI_cons]
    rw [getI_cons] at h
    by_cases hh : (i == k) = true
    · simp only [hh, if_true, List.length_cons]
    · simp only [hh, if_false, Bool.false_eq_true] at h ⊢
      rw [List.length_cons, List.length_cons, delI_len i h]
theorem delI_none (i : Int) {l : List (Int × V)} (h : getI i l = none) : delI i l = l := by
  unfold getI at h
  unfold delI
  cases hq : atI i l with
  | none => rfl
  | some q =>
    obtain ⟨x, hx⟩ := atI_spec hq
    rw [hq] at h
    simp [hx] at h

theorem atC_cons {α : Type} (i : (Int × Int)) (k : (Int × Int)) (u : α) (l : List ((Int × Int) × α)) : atC i ((k, u) :: l) = if i.1 == k.1 && i.2 == k.2 then some 0 else (atC i l).map (· + 1) := rfl
theorem getC_nil (i : (Int × Int)) : getC i [] = none := rfl
theorem getC_cons (i k : (Int × Int)) (u : V) (l : List ((Int × Int) × V)) : getC i ((k, u) :: l) = if i.1 == k.1 && i.2 == k.2 then some u else getC i l := by
  unfold getC
  rw [atC_cons]
  by_cases h : (i.1 == k.1 && i.2 == k.2) = true
  · rw [if_pos h, if_pos h]; rfl
  · rw [if_neg h, if_neg h]; cases atC i l <;> rfl
theorem putC_nil (i : (Int × Int)) (v : V) : putC i v [] = [(i, v)] := rfl
theorem putC_cons (i k : (Int × Int)) (v u : V) (l : List ((Int × Int) × V)) : putC i v ((k, u) :: l) = if i.1 == k.1 && i.2 == k.2 then (i, v) :: l else (k, u) :: putC i v l := by
  unfold putC
  rw [atC_cons]
  by_cases h : (i.1 == k.1 && i.2 == k.2) = true
  · rw [if_pos h, if_pos h]; rfl
  · rw [if_neg h, if_neg h]; cases atC i l <;> rfl
def delC (i : (Int × Int)) (l : List ((Int × Int) × V)) : List ((Int × Int) × V) := match atC i l with
  | some q => l.eraseIdx q
  | none => l
theorem delC_nil (i : (Int × Int)) : delC i [] = [] := rfl
theorem delC_cons (i k : (Int × Int)) (u : V) (l : List ((Int × Int) × V)) : delC i ((k, u) :: l) = if i.1 == k.1 && i.2 == k.2 then l else (k, u) :: delC i l := by
  unfold delC
  rw [atC_cons]
  by_cases h : (i.1 == k.1 && i.2 == k.2) = true
  · rw [if_pos h, if_pos h]; rfl
  · rw [if_neg h, if_neg h]; cases atC i l <;> rfl
theorem tstC (i k : (Int × Int)) : (i.1 == k.1 && i.2 == k.2) = true ↔ i = k := by simp only [Bool.and_eq_true, beq_iff_eq]; exact ⟨fun h => Prod.ext h.1 h.2, fun h => by rw [h]; exact ⟨rfl, rfl⟩⟩
theorem getC_putC (j i : (Int × Int)) (v : V) : ∀ l : List ((Int × Int) × V), getC j (putC i v l) = if j.1 == i.1 && j.2 == i.2 then some v else getC j l
  | [] => by rw [putC_nil, getC_cons, getC_nil]
  | (k, u) :: l => by
    rw [putC_cons, getC_cons]
    by_cases h : (i.1 == k.1 && i.2 == k.2) = true
    · rw [if_pos h, getC_cons]
      have := (tstC i k).1 h
      subst this
      split <;> rfl
    · rw [if_neg h, getC_cons, getC_putC j i v l]
      by_cases h1 : (j.1 == k.1 && j.2 == k.2) = true
      · rw [if_pos h1, if_pos h1]
        have := (tstC j k).1 h1
        subst this
        rw [if_neg (fun hh => h ((tstC _ _).2 ((tstC _ _).1 hh).symm))]
      · rw [if_neg h1, if_neg h1]
theorem putC_len (i : (Int × Int)) (v : V) : ∀ l : List ((Int × Int) × V), (putC i v l).length = if (getC i l).isSome = true then l.length else l.length + 1
  | [] => rfl
  | (k, u) :: l => by
    rw [putC_cons, getC_cons]
    by_cases h : (i.1 == k.1 && i.2 == k.2) = true
    · simp only [h, if_true, Option.isSome_some, List.length_cons]
    · simp only [h, if_false, Bool.false_eq_true, List.length_cons, putC_len i v l]
      split <;> rfl
/-- No key twice. -/
def ndC (l : List ((Int × Int) × V)) : Prop := (l.map (·.1)).Nodup
theorem getC_none {i : (Int × Int)} : ∀ {l : List ((Int × Int) × V)}, getC i l = none ↔ i ∉ l.map (·.1)
  | [] => by simp [getC_nil]
  | (k, u) :: l => by
    rw [getC_cons]
    by_cases h : (i.1 == k.1 && i.2 == k.2) = true
    · have := (tstC i k).1 h
      subst this
      simp [h]
    · rw [if_neg h, getC_none (l := l)]
      have : i ≠ k := fun hh => h ((tstC _ _).2 hh)
      simp [this]
theorem ndC_putC (i : (Int × Int)) (v : V) : ∀ {l : List ((Int × Int) × V)}, ndC l → ndC (putC i v l)
  | [], _ => by simp [ndC, putC_nil]
  | (k, u) :: l, h => by
    rw [putC_cons]
    unfold ndC at h
    rw [List.map_cons, List.nodup_cons] at h
    by_cases hh : (i.1 == k.1 && i.2 == k.2) = true
    · rw [if_pos hh]
      have := (tstC i k).1 hh
      subst this
      unfold ndC
      rw [List.map_cons, List.nodup_cons]
      exact h
    · rw [if_neg hh]
      unfold ndC
      rw [List.map_cons, List.nodup_cons]
      refine ⟨?_, ndC_putC i v h.2⟩
      rw [← getC_none (i := k), getC_putC, if_neg (fun h2 => hh ((tstC _ _).2 ((tstC _ _).1 h2).symm))]
      exact getC_none.2 h.1
theorem getC_delC (j i : (Int × Int)) : ∀ {l : List ((Int × Int) × V)}, ndC l → getC j (delC i l) = if j.1 == i.1 && j.2 == i.2 then none else getC j l
  | [], _ => by rw [delC_nil, getC_nil]; split <;> rfl
  | (k, u) :: l, h => by
    rw [delC_cons, getC_cons]
    unfold ndC at h
    rw [List.map_cons, List.nodup_cons] at h
    by_cases hh : (i.1 == k.1 && i.2 == k.2) = true
    · have := (tstC i k).1 hh
      subst this
      rw [if_pos hh]
      split
      · rename_i h2
        have := (tstC _ _).1 h2
        subst this
        exact getC_none.2 h.1
      · rfl
    · rw [if_neg hh, getC_cons, getC_delC j i h.2]
      by_cases h1 : (j.1 == k.1 && j.2 == k.2) = true
      · rw [if_pos h1, if_pos h1]
        have := (tstC j k).1 h1
        subst this
        rw [if_neg (fun h2 => hh ((tstC _ _).2 ((tstC _ _).1 h2).symm))]
      · rw [if_neg h1, if_neg h1]
theorem ndC_delC (i : (Int × Int)) : ∀ {l : List ((Int × Int) × V)}, ndC l → ndC (delC i l)
  | [], h => h
  | (k, u) :: l, h => by
    rw [delC_cons]
    have h0 := h
    unfold ndC at h
    rw [List.map_cons, List.nodup_cons] at h
    by_cases hh : (i.1 == k.1 && i.2 == k.2) = true
    · rw [if_pos hh]; exact h.2
    · rw [if_neg hh]
      unfold ndC
      rw [List.map_cons, List.nodup_cons]
      refine ⟨?_, ndC_delC i h.2⟩
      rw [← getC_none (i := k), getC_delC _ _ h.2]
      split
      · rfl
      · exact getC_none.2 h.1
theorem delC_len (i : (Int × Int)) : ∀ {l : List ((Int × Int) × V)}, (getC i l).isSome = true → (delC i l).length + 1 = l.length
  | [], h => by simp [getC_nil] at h
  | (k, u) :: l, h => by
    rw [delC_cons]
    rw [getC_cons] at h
    by_cases hh : (i.1 == k.1 && i.2 == k.2) = true
    · simp only [hh, if_true, List.length_cons]
    · simp only [hh, if_false, Bool.false_eq_true] at h ⊢
      rw [List.length_cons, List.length_cons, delC_len i h]
theorem delC_none (i : (Int × Int)) {l : List ((Int × Int) × V)} (h : getC i l = none) : delC i l = l := by
  unfold getC at h
  unfold delC
  cases hq : atC i l with
  | none => rfl
  | some q =>
    obtain ⟨x, hx⟩ := atC_spec hq
    rw [hq] at h
    simp [hx] at h

end Go.Proofs.Ytndjhaeeldegfaa
