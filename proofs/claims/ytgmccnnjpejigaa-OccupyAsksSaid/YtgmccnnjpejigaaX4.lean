/- Lists of entries: looked into, turned, made shorter. Maps with units: entries taken away; keys told. Chapter 5, the plain law: what the index's maps hold, and the document's list. Chapter 5, the plain law: lists by rising numbers. Chapter 5: an index, put into. Chapter 5: a unit's cells, taken away. Chapter 5: a unit moved, taken. -/
import Derived.Test.YtgmccnnjpejigaaX1
import Derived.Test.YtgmccnnjpejigaaX2
set_option linter.unusedVariables false
set_option linter.unusedSimpArgs false
set_option maxRecDepth 10000
namespace Go.Proofs.Ytgmccnnjpejigaa
open Go Go.M Go.RowKit
attribute [local congr] acallF_cong aloop_cong bcase_cong resK_cong valK_cong wantK_cong callK_cong xputK_cong qputK_cong resM_cong rfK_cong
attribute [local irreducible] seqK blockK loopK nextK bcase resK valK wantK funK putK dputK xputK qputK callK aops aop acode adraw aloop acallF acall invK resM rfK rfEnd rdEnd rdMid around
/-! ### Lists of entries: looked into, turned, made shorter. -/
theorem atI_cons {α : Type} (i : Int) (k : Int) (u : α) (l : List (Int × α)) : atI i ((k, u) :: l) = if i == k then some 0 else (atI i l).map (· + 1) := rfl
theorem getI_nil (i : Int) : getI i [] = none := rfl
theorem getI_cons (i k : Int) (u : V) (l : List (Int × V)) : getI i ((k, u) :: l) = if i == k then some u else getI i l := by
  unfold getI
  rw [atI_cons]
  by_cases h : (i == k) = true
  · rw [if_pos h, if_pos h]; rfl
  · rw [if_neg h, if_neg h]; cases atI i l <;> rfl
theorem putI_nil (i : Int) (v : V) : putI i v [] = [(i, v)] := rfl
theorem putI_cons (i k : Int) (v u : V) (l : List (Int × V)) : putI i v ((k, u) :: l) = if i == k then (i, v) :: l else (k, u) :: putI i v l := by
  unfold putI
  rw [atI_cons]
  by_cases h : (i == k) = true
  · rw [if_pos h, if_pos h]; rfl
  · rw [if_neg h, if_neg h]; cases atI i l <;> rfl
def delI (i : Int) (l : List (Int × V)) : List (Int × V) := match atI i l with
  | some q => l.eraseIdx q
  | none => l
theorem delI_nil (i : Int) : delI i [] = [] := rfl
theorem delI_cons (i k : Int) (u : V) (l : List (Int × V)) : delI i ((k, u) :: l) = if i == k then l else (k, u) :: delI i l := by
  unfold delI
  rw [atI_cons]
  by_cases h : (i == k) = true
  · rw [if_pos h, if_pos h]; rfl
  · rw [if_neg h, if_neg h]; cases atI i l <;> rfl
theorem tstI (i k : Int) : (i == k) = true ↔ i = k := by simp
theorem getI_putI (j i : Int) (v : V) : ∀ l : List (Int × V), getI j (putI i v l) = if j == i then some v else getI j l
  | [] => by rw [putI_nil, getI_cons, getI_nil]
  | (k, u) :: l => by
    rw [putI_cons, getI_cons]
    by_cases h : (i == k) = true
    · rw [if_pos h, getI_cons]
      have := (tstI i k).1 h
      subst this
      split <;> rfl
    · rw [if_neg h, getI_cons, getI_putI j i v l]
      by_cases h1 : (j == k) = true
      · rw [if_pos h1, if_pos h1]
        have := (tstI j k).1 h1
        subst this
        rw [if_neg (fun hh => h ((tstI _ _).2 ((tstI _ _).1 hh).symm))]
      · rw [if_neg h1, if_neg h1]
theorem putI_len (i : Int) (v : V) : ∀ l : List (Int × V), (putI i v l).length = if (getI i l).isSome = true then l.length else l.length + 1
  | [] => rfl
  | (k, u) :: l => by
    rw [putI_cons, getI_cons]
    by_cases h : (i == k) = true
    · simp only [h, if_true, Option.isSome_some, List.length_cons]
    · simp only [h, if_false, Bool.false_eq_true, List.length_cons, putI_len i v l]
      split <;> rfl
/-- No key twice. -/
def ndI (l : List (Int × V)) : Prop := (l.map (·.1)).Nodup
theorem getI_none {i : Int} : ∀ {l : List (Int × V)}, getI i l = none ↔ i ∉ l.map (·.1)
  | [] => by simp [getI_nil]
  | (k, u) :: l => by
    rw [getI_cons]
    by_cases h : (i == k) = true
    · have := (tstI i k).1 h
      subst this
      simp [h]
    · rw [if_neg h, getI_none (l := l)]
      have : i ≠ k := fun hh => h ((tstI _ _).2 hh)
      simp [this]
theorem ndI_putI (i : Int) (v : V) : ∀ {l : List (Int × V)}, ndI l → ndI (putI i v l)
  | [], _ => by simp [ndI, putI_nil]
  | (k, u) :: l, h => by
    rw [putI_cons]
    unfold ndI at h
    rw [List.map_cons, List.nodup_cons] at h
    by_cases hh : (i == k) = true
    · rw [if_pos hh]
      have := (tstI i k).1 hh
      subst this
      unfold ndI
      rw [List.map_cons, List.nodup_cons]
      exact h
    · rw [if_neg hh]
      unfold ndI
      rw [List.map_cons, List.nodup_cons]
      refine ⟨?_, ndI_putI i v h.2⟩
      rw [← getI_none (i := k), getI_putI, if_neg (fun h2 => hh ((tstI _ _).2 ((tstI _ _).1 h2).symm))]
      exact getI_none.2 h.1
theorem getI_delI (j i : Int) : ∀ {l : List (Int × V)}, ndI l → getI j (delI i l) = if j == i then none else getI j l
  | [], _ => by rw [delI_nil, getI_nil]; split <;> rfl
  | (k, u) :: l, h => by
    rw [delI_cons, getI_cons]
    unfold ndI at h
    rw [List.map_cons, List.nodup_cons] at h
    by_cases hh : (i == k) = true
    · have := (tstI i k).1 hh
      subst this
      rw [if_pos hh]
      split
      · rename_i h2
        have := (tstI _ _).1 h2
        subst this
        exact getI_none.2 h.1
      · rfl
    · rw [if_neg hh, getI_cons, getI_delI j i h.2]
      by_cases h1 : (j == k) = true
      · rw [if_pos h1, if_pos h1]
        have := (tstI j k).1 h1
        subst this
        rw [if_neg (fun h2 => hh ((tstI _ _).2 ((tstI _ _).1 h2).symm))]
      · rw [if_neg h1, if_neg h1]
theorem ndI_delI (i : Int) : ∀ {l : List (Int × V)}, ndI l → ndI (delI i l)
  | [], h => h
  | (k, u) :: l, h => by
    rw [delI_cons]
    have h0 := h
    unfold ndI at h
    rw [List.map_cons, List.nodup_cons] at h
    by_cases hh : (i == k) = true
    · rw [if_pos hh]; exact h.2
    · rw [if_neg hh]
      unfold ndI
      rw [List.map_cons, List.nodup_cons]
      refine ⟨?_, ndI_delI i h.2⟩
      rw [← getI_none (i := k), getI_delI _ _ h.2]
      split
      · rfl
      · exact getI_none.2 h.1
theorem delI_len (i : Int) : ∀ {l : List (Int × V)}, (getI i l).isSome = true → (delI i l).length + 1 = l.length
  | [], h => by simp [getI_nil] at h
  | (k, u) :: l, h => by
    rw [delI_cons]
    rw [getI_cons] at h
    by_cases hh : (i == k) = true
    · simp only [hh, if_true, List.length_cons]
    · simp only [hh, if_false, Bool.false_eq_true] at h ⊢
      rw [List.length_cons, List.length_cons, delI_len i h]
theorem delI_none (i : Int) {l : List (Int × V)} (h : getI i l = none) : delI i l = l := by
  unfold getI at h
  unfold delI
  cases hq : atI i l with
  | none => rfl
  | some q =>
    obtain ⟨x, hx⟩ := atI_spec hq
    rw [hq] at h
    simp [hx] at h

theorem atC_cons {α : Type} (i : (Int × Int)) (k : (Int × Int)) (u : α) (l : List ((Int × Int) × α)) : atC i ((k, u) :: l) = if i.1 == k.1 && i.2 == k.2 then some 0 else (atC i l).map (· + 1) := rfl
theorem getC_nil (i : (Int × Int)) : getC i [] = none := rfl
theorem getC_cons (i k : (Int × Int)) (u : V) (l : List ((Int × Int) × V)) : getC i ((k, u) :: l) = if i.1 == k.1 && i.2 == k.2 then some u else getC i l := by
  unfold getC
  rw [atC_cons]
  by_cases h : (i.1 == k.1 && i.2 == k.2) = true
  · rw [if_pos h, if_pos h]; rfl
  · rw [if_neg h, if_neg h]; cases atC i l <;> rfl
theorem putC_nil (i : (Int × Int)) (v : V) : putC i v [] = [(i, v)] := rfl
theorem putC_cons (i k : (Int × Int)) (v u : V) (l : List ((Int × Int) × V)) : putC i v ((k, u) :: l) = if i.1 == k.1 && i.2 == k.2 then (i, v) :: l else (k, u) :: putC i v l := by
  unfold putC
  rw [atC_cons]
  by_cases h : (i.1 == k.1 && i.2 == k.2) = true
  · rw [if_pos h, if_pos h]; rfl
  · rw [if_neg h, if_neg h]; cases atC i l <;> rfl
def delC (i : (Int × Int)) (l : List ((Int × Int) × V)) : List ((Int × Int) × V) := match atC i l with
  | some q => l.eraseIdx q
  | none => l
theorem delC_nil (i : (Int × Int)) : delC i [] = [] := rfl
theorem delC_cons (i k : (Int × Int)) (u : V) (l : List ((Int × Int) × V)) : delC i ((k, u) :: l) = if i.1 == k.1 && i.2 == k.2 then l else (k, u) :: delC i l := by
  unfold delC
  rw [atC_cons]
  by_cases h : (i.1 == k.1 && i.2 == k.2) = true
  · rw [if_pos h, if_pos h]; rfl
  · rw [if_neg h, if_neg h]; cases atC i l <;> rfl
theorem tstC (i k : (Int × Int)) : (i.1 == k.1 && i.2 == k.2) = true ↔ i = k := by simp only [Bool.and_eq_true, beq_iff_eq]; exact ⟨fun h => Prod.ext h.1 h.2, fun h => by rw [h]; exact ⟨rfl, rfl⟩⟩
theorem getC_putC (j i : (Int × Int)) (v : V) : ∀ l : List ((Int × Int) × V), getC j (putC i v l) = if j.1 == i.1 && j.2 == i.2 then some v else getC j l
  | [] => by rw [putC_nil, getC_cons, getC_nil]
  | (k, u) :: l => by
    rw [putC_cons, getC_cons]
    by_cases h : (i.1 == k.1 && i.2 == k.2) = true
    · rw [if_pos h, getC_cons]
      have := (tstC i k).1 h
      subst this
      split <;> rfl
    · rw [if_neg h, getC_cons, getC_putC j i v l]
      by_cases h1 : (j.1 == k.1 && j.2 == k.2) = true
      · rw [if_pos h1, if_pos h1]
        have := (tstC j k).1 h1
        subst this
        rw [if_neg (fun hh => h ((tstC _ _).2 ((tstC _ _).1 hh).symm))]
      · rw [if_neg h1, if_neg h1]
theorem putC_len (i : (Int × Int)) (v : V) : ∀ l : List ((Int × Int) × V), (putC i v l).length = if (getC i l).isSome = true then l.length else l.length + 1
  | [] => rfl
  | (k, u) :: l => by
    rw [putC_cons, getC_cons]
    by_cases h : (i.1 == k.1 && i.2 == k.2) = true
    · simp only [h, if_true, Option.isSome_some, List.length_cons]
    · simp only [h, if_false, Bool.false_eq_true, List.length_cons, putC_len i v l]
      split <;> rfl
/-- No key twice. -/
def ndC (l : List ((Int × Int) × V)) : Prop := (l.map (·.1)).Nodup
theorem getC_none {i : (Int × Int)} : ∀ {l : List ((Int × Int) × V)}, getC i l = none ↔ i ∉ l.map (·.1)
  | [] => by simp [getC_nil]
  | (k, u) :: l => by
    rw [getC_cons]
    by_cases h : (i.1 == k.1 && i.2 == k.2) = true
    · have := (tstC i k).1 h
      subst this
      simp [h]
    · rw [if_neg h, getC_none (l := l)]
      have : i ≠ k := fun hh => h ((tstC _ _).2 hh)
      simp [this]
theorem ndC_putC (i : (Int × Int)) (v : V) : ∀ {l : List ((Int × Int) × V)}, ndC l → ndC (putC i v l)
  | [], _ => by simp [ndC, putC_nil]
  | (k, u) :: l, h => by
    rw [putC_cons]
    unfold ndC at h
    rw [List.map_cons, List.nodup_cons] at h
    by_cases hh : (i.1 == k.1 && i.2 == k.2) = true
    · rw [if_pos hh]
      have := (tstC i k).1 hh
      subst this
      unfold ndC
      rw [List.map_cons, List.nodup_cons]
      exact h
    · rw [if_neg hh]
      unfold ndC
      rw [List.map_cons, List.nodup_cons]
      refine ⟨?_, ndC_putC i v h.2⟩
      rw [← getC_none (i := k), getC_putC, if_neg (fun h2 => hh ((tstC _ _).2 ((tstC _ _).1 h2).symm))]
      exact getC_none.2 h.1
theorem getC_delC (j i : (Int × Int)) : ∀ {l : List ((Int × Int) × V)}, ndC l → getC j (delC i l) = if j.1 == i.1 && j.2 == i.2 then none else getC j l
  | [], _ => by rw [delC_nil, getC_nil]; split <;> rfl
  | (k, u) :: l, h => by
    rw [delC_cons, getC_cons]
    unfold ndC at h
    rw [List.map_cons, List.nodup_cons] at h
    by_cases hh : (i.1 == k.1 && i.2 == k.2) = true
    · have := (tstC i k).1 hh
      subst this
      rw [if_pos hh]
      split
      · rename_i h2
        have := (tstC _ _).1 h2
        subst this
        exact getC_none.2 h.1
      · rfl
    · rw [if_neg hh, getC_cons, getC_delC j i h.2]
      by_cases h1 : (j.1 == k.1 && j.2 == k.2) = true
      · rw [if_pos h1, if_pos h1]
        have := (tstC j k).1 h1
        subst this
        rw [if_neg (fun h2 => hh ((tstC _ _).2 ((tstC _ _).1 h2).symm))]
      · rw [if_neg h1, if_neg h1]
theorem ndC_delC (i : (Int × Int)) : ∀ {l : List ((Int × Int) × V)}, ndC l → ndC (delC i l)
  | [], h => h
  | (k, u) :: l, h => by
    rw [delC_cons]
    have h0 := h
    unfold ndC at h
    rw [List.map_cons, List.nodup_cons] at h
    by_cases hh : (i.1 == k.1 && i.2 == k.2) = true
    · rw [if_pos hh]; exact h.2
    · rw [if_neg hh]
      unfold ndC
      rw [List.map_cons, List.nodup_cons]
      refine ⟨?_, ndC_delC i h.2⟩
      rw [← getC_none (i := k), getC_delC _ _ h.2]
      split
      · rfl
      · exact getC_none.2 h.1
theorem delC_len (i : (Int × Int)) : ∀ {l : List ((Int × Int) × V)}, (getC i l).isSome = true → (delC i l).length + 1 = l.length
  | [], h => by simp [getC_nil] at h
  | (k, u) :: l, h => by
    rw [delC_cons]
    rw [getC_cons] at h
    by_cases hh : (i.1 == k.1 && i.2 == k.2) = true
    · simp only [hh, if_true, List.length_cons]
    · simp only [hh, if_false, Bool.false_eq_true] at h ⊢
      rw [List.length_cons, List.length_cons, delC_len i h]
theorem delC_none (i : (Int × Int)) {l : List ((Int × Int) × V)} (h : getC i l = none) : delC i l = l := by
  unfold getC at h
  unfold delC
  cases hq : atC i l with
  | none => rfl
  | some q =>
    obtain ⟨x, hx⟩ := atC_spec hq
    rw [hq] at h
    simp [hx] at h

/-! ### Maps with units: entries taken away; keys told. -/
theorem map_erase {α β : Type} (f : α → β) : ∀ (l : List α) (q : Nat), (l.eraseIdx q).map f = (l.map f).eraseIdx q
  | [], q => by simp
  | a :: l, 0 => by simp
  | a :: l, q + 1 => by simp [map_erase f l q]
section
variable {st : List Ob} {a : Nat} {t e : TypeId}
theorem dl_int {l : List (Int × V)} (ht : Try.prog.underlying t = some (.map 3 e)) (h : st[a]? = some (.map (esI l))) (i : Int) :
    adelete Try.prog st t (.map a) (.sc (.int .i64 i)) = some (.tup [], st.set a (.map (esI (delI i l)))) := by
  unfold adelete
  simp only [ht, toVal, h, akey_int Try.underlying3, esI, afind_int Try.underlying3]
  unfold delI
  cases hq : atI i l with
  | none => simp only; rw [set_self (by simpa [esI] using h)]
  | some q => simp only [map_erase]
theorem dl_cell {l : List ((Int × Int) × V)} (ht : Try.prog.underlying t = some (.map 32 e)) (h : st[a]? = some (.map (esC l))) (x y : Int) :
    adelete Try.prog st t (.map a) (.agg [.sc (.int .i64 x), .sc (.int .i64 y)]) = some (.tup [], st.set a (.map (esC (delC (x, y) l)))) := by
  unfold adelete
  have hk : toVal (.agg [.sc (.int .i64 x), .sc (.int .i64 y)]) = some (kc (x, y)) := rfl
  simp only [ht, hk, h, akey_cell, esC, afind_cell]
  unfold delC
  cases hq : atC (x, y) l with
  | none => simp only; rw [set_self (by simpa [esC] using h)]
  | some q => simp only [map_erase]
end
/-- Cells emptied, row by row. -/
def cutC (x y : Int) (W : Nat) (os : List ((Int × Int) × V)) : Nat → List ((Int × Int) × V)
  | 0 => os
  | k + 1 => delC (x + (k % W : Nat), y + (k / W : Nat)) (cutC x y W os k)
theorem keysI_esI : ∀ l : List (Int × V), keysI (esI l) = some (l.map (·.1))
  | [] => rfl
  | (i, v) :: l => by
    have := keysI_esI l
    simp only [esI, List.map_cons, keysI] at this ⊢
    rw [this]; rfl
theorem lk_int1 {st : List Ob} {a : Nat} {t e : TypeId} {l : List (Int × V)} {v : V} (ht : Try.prog.underlying t = some (.map 3 e)) (h : st[a]? = some (.map (esI l))) (i : Int) (hv : getI i l = some v) :
    alookup Try.prog st t (.map a) (.sc (.int .i64 i)) false = some v := by
  unfold alookup
  simp only [ht, toVal, h, akey_int Try.underlying3, esI, afind_int Try.underlying3]
  unfold getI at hv
  cases hq : atI i l with
  | none => rw [hq] at hv; cases hv
  | some q =>
    obtain ⟨x, hx⟩ := atI_spec hq
    rw [hq] at hv
    simp [hx] at hv ⊢
    exact hv

/-! ### Chapter 5, the plain law: what the index's maps hold, and the document's list. -/
theorem placeI_spec (id : Int) : ∀ (L : List U) (j : Nat), (placeI id L j = -1 ∧ ∀ u ∈ L, u.id ≠ id) ∨ ∃ i, ∃ h : i < L.length, placeI id L j = ((j + i : Nat) : Int) ∧ L[i].id = id
  | [], j => .inl ⟨rfl, by simp⟩
  | u :: L, j => by
    simp only [placeI]
    by_cases h : u.id = id
    · refine .inr ⟨0, by simp, ?_, ?_⟩
      · simp [h]
      · simpa using h
    · have h' : (u.id == id) = false := by simpa using h
      rw [h']
      simp only [Bool.false_eq_true, if_false]
      rcases placeI_spec id L (j + 1) with ⟨h1, h2⟩ | ⟨i, hi, h1, h2⟩
      · refine .inl ⟨h1, fun v hv => ?_⟩
        rcases List.mem_cons.1 hv with rfl | hv
        · exact h
        · exact h2 v hv
      · exact .inr ⟨i + 1, by simpa using hi, by rw [h1]; omega, by simpa using h2⟩
def inU (u : U) (a b : Int) : Prop := u.x ≤ a ∧ a ≤ u.x + u.w - 1 ∧ u.y ≤ b ∧ b ≤ u.y + u.h - 1
theorem cellq (x y a b : Int) (W H : Nat) (hW : 0 < W) : (∃ q, q < H * W ∧ a = x + (q % W : Nat) ∧ b = y + (q / W : Nat)) ↔ (x ≤ a ∧ a ≤ x + W - 1 ∧ y ≤ b ∧ b ≤ y + H - 1) := by
  constructor
  · rintro ⟨q, hq, rfl, rfl⟩
    have h1 := Nat.mod_lt q hW
    have h2 : q / W < H := Nat.div_lt_of_lt_mul (by rw [Nat.mul_comm]; exact hq)
    generalize q / W = d at h2 ⊢
    generalize q % W = e at h1 ⊢
    clear hq
    omega
  · rintro ⟨h1, h2, h3, h4⟩
    obtain ⟨i, hi⟩ := Int.eq_ofNat_of_zero_le (show 0 ≤ a - x by omega)
    obtain ⟨j, hj⟩ := Int.eq_ofNat_of_zero_le (show 0 ≤ b - y by omega)
    have hiW : i < W := by omega
    have hjH : j < H := by omega
    refine ⟨j * W + i, ?_, ?_, ?_⟩
    · have := Nat.mul_le_mul_right W (show j + 1 ≤ H from hjH)
      rw [Nat.add_mul, Nat.one_mul] at this
      omega
    · rw [show (j * W + i) % W = i by rw [Nat.mul_comm, Nat.mul_add_mod, Nat.mod_eq_of_lt hiW]]; omega
    · rw [show (j * W + i) / W = j by rw [Nat.mul_comm, Nat.mul_add_div hW, Nat.div_eq_of_lt hiW, Nat.add_zero]]; omega
section
variable {os : List ((Int × Int) × V)} {x y a b : Int} {W : Nat} {v : V}
theorem fill_in : ∀ k, (∃ q, q < k ∧ a = x + (q % W : Nat) ∧ b = y + (q / W : Nat)) → getC (a, b) (fillC v x y W os k) = some v
  | 0, ⟨q, h, _⟩ => by omega
  | k + 1, ⟨q, hq, ha, hb⟩ => by
    simp only [fillC]
    rw [getC_putC]
    split
    · rfl
    · rename_i h
      refine fill_in k ⟨q, ?_, ha, hb⟩
      rcases Nat.lt_or_ge q k with h1 | h1
      · exact h1
      · obtain rfl : q = k := by omega
        exact absurd (by simp [ha, hb]) h
theorem fill_out : ∀ k, (¬ ∃ q, q < k ∧ a = x + (q % W : Nat) ∧ b = y + (q / W : Nat)) → getC (a, b) (fillC v x y W os k) = getC (a, b) os
  | 0, _ => rfl
  | k + 1, h => by
    simp only [fillC]
    rw [getC_putC, if_neg, fill_out k (fun ⟨q, h1, h2⟩ => h ⟨q, by omega, h2⟩)]
    intro hh
    simp only [Bool.and_eq_true, beq_iff_eq] at hh
    exact h ⟨k, by omega, hh.1, hh.2⟩
theorem nd_fill : ∀ k, ndC os → ndC (fillC v x y W os k)
  | 0, h => h
  | k + 1, h => by simp only [fillC]; exact ndC_putC _ _ (nd_fill k h)
theorem nd_cut : ∀ k, ndC os → ndC (cutC x y W os k)
  | 0, h => h
  | k + 1, h => by simp only [cutC]; exact ndC_delC _ (nd_cut k h)
theorem cut_in (hn : ndC os) : ∀ k, (∃ q, q < k ∧ a = x + (q % W : Nat) ∧ b = y + (q / W : Nat)) → getC (a, b) (cutC x y W os k) = none
  | 0, ⟨q, h, _⟩ => by omega
  | k + 1, ⟨q, hq, ha, hb⟩ => by
    simp only [cutC]
    rw [getC_delC _ _ (nd_cut k hn)]
    split
    · rfl
    · rename_i h
      refine cut_in hn k ⟨q, ?_, ha, hb⟩
      rcases Nat.lt_or_ge q k with h1 | h1
      · exact h1
      · obtain rfl : q = k := by omega
        exact absurd (by simp [ha, hb]) h
theorem cut_out (hn : ndC os) : ∀ k, (¬ ∃ q, q < k ∧ a = x + (q % W : Nat) ∧ b = y + (q / W : Nat)) → getC (a, b) (cutC x y W os k) = getC (a, b) os
  | 0, _ => rfl
  | k + 1, h => by
    simp only [cutC]
    rw [getC_delC _ _ (nd_cut k hn), if_neg, cut_out hn k (fun ⟨q, h1, h2⟩ => h ⟨q, by omega, h2⟩)]
    intro hh
    simp only [Bool.and_eq_true, beq_iff_eq] at hh
    exact h ⟨k, by omega, hh.1, hh.2⟩
end
def valB (u : U) : Bool := mayB u.x u.y u.w u.h && decide (u.w ≤ 4) && decide (u.h ≤ 4)
theorem val_facts {u : U} (h : valB u = true) : mayB u.x u.y u.w u.h = true ∧ 1 ≤ u.w ∧ 1 ≤ u.h ∧ u.w ≤ 4 ∧ u.h ≤ 4 := by
  simp only [valB, Bool.and_eq_true, decide_eq_true_eq] at h
  obtain ⟨_, _, h5, h6, _⟩ := may_facts h.1.1
  exact ⟨h.1.1, h5.1, h6.1, h.1.2, h.2⟩
/-- The program's maps hold just these buildings. -/
structure Rel (us : List (Int × V)) (os : List ((Int × Int) × V)) (L : List U) : Prop where
  ni : ndI us
  nc : ndC os
  val : ∀ u ∈ L, valB u = true
  ids : (L.map U.id).Nodup
  gu : ∀ i v, getI i us = some v ↔ ∃ u ∈ L, u.id = i ∧ v = .agg (rc u.x u.y u.w u.h)
  go : ∀ a b v, getC (a, b) os = some v ↔ ∃ u ∈ L, inU u a b ∧ v = .sc (.int .i64 u.id)
  len : us.length = L.length
theorem Rel.nil : Rel [] [] [] := ⟨by simp [ndI], by simp [ndC], by simp, by simp, by simp [getI_nil], by simp [getC_nil], rfl⟩
section
variable {us : List (Int × V)} {os : List ((Int × Int) × V)} {L : List U}
theorem isSome_of {α : Type} {o : Option α} : o.isSome = true ↔ ∃ v, o = some v := Option.isSome_iff_exists
theorem Rel.hits (h : Rel us os L) (sb : Int → Bool) (x y : Int) (W H : Nat) (hW : 0 < W) : anyB sb os x y W (H * W) = true ↔ ∃ p ∈ L, sb p.id = true ∧ ∃ a b, inU p a b ∧ (x ≤ a ∧ a ≤ x + W - 1 ∧ y ≤ b ∧ b ≤ y + H - 1) := by
  simp only [anyB, List.any_eq_true, List.mem_range]
  constructor
  · rintro ⟨q, hq, hs⟩
    unfold hitB at hs
    cases hg : getC (x + ((q % W : Nat) : Int), y + ((q / W : Nat) : Int)) os with
    | none => rw [hg] at hs; cases hs
    | some v =>
      obtain ⟨p, hp, hin, rfl⟩ := (h.go _ _ _).1 hg
      rw [hg] at hs
      exact ⟨p, hp, hs, _, _, hin, (cellq x y _ _ W H hW).1 ⟨q, hq, rfl, rfl⟩⟩
  · rintro ⟨p, hp, hsb, a, b, h3, h4⟩
    obtain ⟨q, hq, ha, hb⟩ := (cellq x y a b W H hW).2 h4
    refine ⟨q, hq, ?_⟩
    have := (h.go a b _).2 ⟨p, hp, h3, rfl⟩
    rw [ha, hb] at this
    unfold hitB
    rw [this]
    exact hsb
theorem meet_in {u p : U} (hu : valB u = true) (hp : valB p = true) : meetB p.x p.y p.w p.h u.x u.y u.w u.h = true ↔ ∃ a b, inU p a b ∧ inU u a b := by
  obtain ⟨m1, h1, h2, _⟩ := val_facts hu
  obtain ⟨m2, h3, h4, _⟩ := val_facts hp
  simp only [meetB, m1, m2, Bool.true_and, lapB, Bool.not_eq_true', Bool.or_eq_false_iff, decide_eq_false_iff_not, mn, mx]
  constructor
  · rintro ⟨h5, h6⟩
    have key : ∀ a b c d : Int, a ≤ b → c ≤ d → ¬ ((if d < b then d else b) < (if c > a then c else a)) → (∃ z, a ≤ z ∧ z ≤ b ∧ c ≤ z ∧ z ≤ d) := fun a b c d h1 h2 hh => by
      refine ⟨if c > a then c else a, ?_⟩
      split at hh <;> split at hh <;> (try rw [if_pos (by assumption)]) <;> (try rw [if_neg (by assumption)]) <;> omega
    obtain ⟨a, ha1, ha2, ha3, ha4⟩ := key p.x (p.x + p.w - 1) u.x (u.x + u.w - 1) (by omega) (by omega) (of_decide_eq_false h5)
    obtain ⟨b, hb1, hb2, hb3, hb4⟩ := key p.y (p.y + p.h - 1) u.y (u.y + u.h - 1) (by omega) (by omega) (of_decide_eq_false h6)
    exact ⟨a, b, ⟨ha1, ha2, hb1, hb2⟩, ⟨ha3, ha4, hb3, hb4⟩⟩
  · rintro ⟨a, b, h5, h6⟩
    simp only [inU] at h5 h6
    constructor <;> refine decide_eq_false ?_ <;> split <;> split <;> omega
theorem plc_some (id : Int) (L : List U) : placeI id L 0 ≥ 0 ↔ ∃ u ∈ L, u.id = id := by
  rcases placeI_spec id L 0 with ⟨h1, h2⟩ | ⟨i, hi, h1, h2⟩
  · rw [h1]
    constructor
    · intro h; omega
    · rintro ⟨u, hu, he⟩; exact absurd he (h2 u hu)
  · rw [h1]
    constructor
    · intro _; exact ⟨L[i], List.getElem_mem hi, h2⟩
    · intro _; omega
theorem nodup_in {α β : Type} {f : α → β} : ∀ {l : List α}, (l.map f).Nodup → ∀ {a b : α}, a ∈ l → b ∈ l → f a = f b → a = b
  | [], _, a, b, ha, _, _ => by simp at ha
  | c :: l, h, a, b, ha, hb, e => by
    rw [List.map_cons, List.nodup_cons] at h
    rcases List.mem_cons.1 ha with rfl | ha' <;> rcases List.mem_cons.1 hb with rfl | hb'
    · rfl
    · exact absurd (List.mem_map.2 ⟨b, hb', e.symm⟩) h.1
    · exact absurd (List.mem_map.2 ⟨a, ha', e⟩) h.1
    · exact nodup_in h.2 ha' hb' e
theorem Rel.put (h : Rel us os L) {u : U} {L' : List U} (hu : valB u = true) (hg : getI u.id us = none) (hno : ¬ ∃ p ∈ L, ∃ a b, inU p a b ∧ inU u a b) (hm : ∀ v, v ∈ L' ↔ v = u ∨ v ∈ L) (hn : (L'.map U.id).Nodup) (hl : L'.length = L.length + 1) :
    Rel (putI u.id (.agg (rc u.x u.y u.w u.h)) us) (fillC (.sc (.int .i64 u.id)) u.x u.y u.w.toNat os (u.h.toNat * u.w.toNat)) L' := by
  obtain ⟨_, h1, h2, _⟩ := val_facts hu
  refine ⟨ndI_putI _ _ h.ni, nd_fill _ h.nc, fun v hv => ?_, hn, fun i v => ?_, fun a b v => ?_, ?_⟩
  · rcases (hm v).1 hv with rfl | hv
    · exact hu
    · exact h.val v hv
  · rw [getI_putI]
    by_cases hi : i = u.id
    · subst hi
      simp only [beq_self_eq_true, if_true, Option.some.injEq]
      constructor
      · rintro rfl; exact ⟨u, (hm u).2 (.inl rfl), rfl, rfl⟩
      · rintro ⟨p, hp, he, rfl⟩
        rcases (hm p).1 hp with rfl | hp
        · rfl
        · have := (h.gu u.id _).2 ⟨p, hp, he, rfl⟩
          rw [hg] at this; cases this
    · rw [if_neg (by simpa using hi), h.gu]
      constructor
      · rintro ⟨p, hp, h3⟩; exact ⟨p, (hm p).2 (.inr hp), h3⟩
      · rintro ⟨p, hp, h3, h4⟩
        rcases (hm p).1 hp with rfl | hp
        · exact absurd h3.symm hi
        · exact ⟨p, hp, h3, h4⟩
  · obtain ⟨W, hW⟩ := Int.eq_ofNat_of_zero_le (show 0 ≤ u.w by omega)
    obtain ⟨H, hH⟩ := Int.eq_ofNat_of_zero_le (show 0 ≤ u.h by omega)
    have hin : (∃ q, q < H * W ∧ a = u.x + (q % W : Nat) ∧ b = u.y + (q / W : Nat)) ↔ inU u a b := by
      rw [cellq u.x u.y a b W H (by omega)]
      simp only [inU, hW, hH]
    simp only [hW, hH, Int.toNat_natCast]
    by_cases hc : inU u a b
    · rw [fill_in _ (hin.2 hc)]
      simp only [Option.some.injEq]
      constructor
      · rintro rfl; exact ⟨u, (hm u).2 (.inl rfl), hc, rfl⟩
      · rintro ⟨p, hp, h3, rfl⟩
        rcases (hm p).1 hp with rfl | hp
        · rfl
        · exact absurd ⟨p, hp, a, b, h3, hc⟩ hno
    · rw [fill_out _ (fun hh => hc (hin.1 hh)), h.go]
      constructor
      · rintro ⟨p, hp, h3⟩; exact ⟨p, (hm p).2 (.inr hp), h3⟩
      · rintro ⟨p, hp, h3, h4⟩
        rcases (hm p).1 hp with rfl | hp
        · exact absurd h3 hc
        · exact ⟨p, hp, h3, h4⟩
  · rw [putI_len, hg, hl, h.len]; rfl
theorem Rel.raze (h : Rel us os L) {u : U} {L' : List U} (hu : u ∈ L) (hm : ∀ v, v ∈ L' ↔ v ≠ u ∧ v ∈ L) (hn : (L'.map U.id).Nodup) (hl : L'.length + 1 = L.length) :
    Rel (delI u.id us) (cutC u.x u.y u.w.toNat os (u.h.toNat * u.w.toNat)) L' := by
  have hv := h.val u hu
  obtain ⟨_, h1, h2, _⟩ := val_facts hv
  have huniq : ∀ p ∈ L, p.id = u.id → p = u := fun p hp he => nodup_in h.ids hp hu he
  refine ⟨ndI_delI _ h.ni, nd_cut _ h.nc, fun v hv => h.val v ((hm v).1 hv).2, hn, fun i v => ?_, fun a b v => ?_, ?_⟩
  · rw [getI_delI _ _ h.ni]
    by_cases hi : i = u.id
    · subst hi
      simp only [beq_self_eq_true, if_true]
      constructor
      · intro hh; cases hh
      · rintro ⟨p, hp, he, _⟩
        obtain ⟨q1, q2⟩ := (hm p).1 hp
        exact absurd (huniq p q2 he) q1
    · rw [if_neg (by simpa using hi), h.gu]
      constructor
      · rintro ⟨p, hp, h3, h4⟩
        exact ⟨p, (hm p).2 ⟨fun hh => hi (by rw [← h3, hh]), hp⟩, h3, h4⟩
      · rintro ⟨p, hp, h3⟩; exact ⟨p, ((hm p).1 hp).2, h3⟩
  · obtain ⟨W, hW⟩ := Int.eq_ofNat_of_zero_le (show 0 ≤ u.w by omega)
    obtain ⟨H, hH⟩ := Int.eq_ofNat_of_zero_le (show 0 ≤ u.h by omega)
    have hin : (∃ q, q < H * W ∧ a = u.x + (q % W : Nat) ∧ b = u.y + (q / W : Nat)) ↔ inU u a b := by
      rw [cellq u.x u.y a b W H (by omega)]
      simp only [inU, hW, hH]
    simp only [hW, hH, Int.toNat_natCast]
    by_cases hc : inU u a b
    · rw [cut_in h.nc _ (hin.2 hc)]
      constructor
      · intro hh; cases hh
      · rintro ⟨p, hp, h3, rfl⟩
        obtain ⟨q1, q2⟩ := (hm p).1 hp
        have e1 := (h.go a b _).2 ⟨p, q2, h3, rfl⟩
        have e2 := (h.go a b _).2 ⟨u, hu, hc, rfl⟩
        rw [e1] at e2
        simp only [Option.some.injEq, V.sc.injEq, Value.int.injEq, true_and] at e2
        exact absurd (huniq p q2 e2) q1
    · rw [cut_out h.nc _ (fun hh => hc (hin.1 hh)), h.go]
      constructor
      · rintro ⟨p, hp, h3, h4⟩
        exact ⟨p, (hm p).2 ⟨fun hh => hc (by rw [← hh]; exact h3), hp⟩, h3, h4⟩
      · rintro ⟨p, hp, h3⟩; exact ⟨p, ((hm p).1 hp).2, h3⟩
  · have := delI_len u.id (l := us) (isSome_of.2 ⟨_, (h.gu _ _).2 ⟨u, hu, rfl, rfl⟩⟩)
    rw [h.len] at this
    omega
end
/-! ### Chapter 5, the plain law: lists by rising numbers. -/
def insAt (p : Nat) (u : U) (L : List U) : List U := L.take p ++ u :: L.drop p
theorem insAt_len (p : Nat) (u : U) (L : List U) : (insAt p u L).length = L.length + 1 := by
  simp only [insAt, List.length_append, List.length_take, List.length_cons, List.length_drop]; omega
section
variable {us : List (Int × V)} {os : List ((Int × Int) × V)} {L : List U}
theorem mem_insAt (u v : U) (L : List U) (p : Nat) : v ∈ insAt p u L ↔ v = u ∨ v ∈ L := by
  unfold insAt
  rw [List.mem_append, List.mem_cons]
  conv => rhs; rw [← List.take_append_drop p L, List.mem_append]
  constructor
  · rintro (h | h | h)
    · exact .inr (.inl h)
    · exact .inl h
    · exact .inr (.inr h)
  · rintro (h | h | h)
    · exact .inr (.inl h)
    · exact .inl h
    · exact .inr (.inr h)
theorem nodup_insAt (u : U) (L : List U) (p : Nat) (h : (L.map U.id).Nodup) (hu : ∀ v ∈ L, v.id ≠ u.id) : ((insAt p u L).map U.id).Nodup := by
  unfold insAt
  have hp : (L.take p ++ u :: L.drop p).Perm (u :: L) := by
    have := List.perm_middle (a := u) (l₁ := L.take p) (l₂ := L.drop p)
    rwa [List.take_append_drop] at this
  rw [(hp.map U.id).nodup_iff, List.map_cons, List.nodup_cons]
  refine ⟨fun hm => ?_, h⟩
  obtain ⟨v, hv, he⟩ := List.mem_map.1 hm
  exact hu v hv he
/-- Behind a razing. -/
theorem Rel.take (h : Rel us os L) (i : Nat) (hi : i < L.length) :
    Rel (delI L[i].id us) (cutC L[i].x L[i].y L[i].w.toNat os (L[i].h.toNat * L[i].w.toNat)) (L.take i ++ L.drop (i + 1)) := by
  have hL : L = L.take i ++ L[i] :: L.drop (i + 1) := by rw [← List.drop_eq_getElem_cons hi, List.take_append_drop]
  have hp : L.Perm (L[i] :: (L.take i ++ L.drop (i + 1))) := by
    conv => lhs; rw [hL]
    exact List.perm_middle
  have hnd : (L[i] :: (L.take i ++ L.drop (i + 1))).map U.id |>.Nodup := ((hp.map U.id).nodup_iff).1 h.ids
  rw [List.map_cons, List.nodup_cons] at hnd
  refine h.raze (List.getElem_mem hi) (fun v => ?_) hnd.2 ?_
  · constructor
    · intro hv
      refine ⟨fun hh => ?_, hp.mem_iff.2 (List.mem_cons_of_mem _ hv)⟩
      exact hnd.1 (List.mem_map.2 ⟨v, hv, by rw [hh]⟩)
    · rintro ⟨h1, h2⟩
      rcases List.mem_cons.1 (hp.mem_iff.1 h2) with h3 | h3
      · exact absurd h3 h1
      · exact h3
  · rw [List.length_append, List.length_take, List.length_drop]; omega
/-- By rising numbers. -/
def Srt (L : List U) : Prop := L.Pairwise (fun a b => a.id < b.id)
theorem Srt.insAt {L : List U} (h : Srt L) (u : U) (p : Nat) (hp : p ≤ L.length) (h1 : ∀ j (hj : j < L.length), p ≤ j → u.id < L[j].id) (h2 : ∀ hp : 0 < p, ∀ hq : p - 1 < L.length, ¬ u.id < L[p - 1].id) (hn : ∀ v ∈ L, v.id ≠ u.id) : Srt (insAt p u L) := by
  unfold Srt at h ⊢
  unfold Go.Proofs.Ytgmccnnjpejigaa.insAt
  rw [List.pairwise_append]
  have hL : L = L.take p ++ L.drop p := (List.take_append_drop p L).symm
  rw [hL, List.pairwise_append] at h
  refine ⟨h.1, ?_, fun a ha b hb => ?_⟩
  · rw [List.pairwise_cons]
    refine ⟨fun a ha => ?_, h.2.1⟩
    obtain ⟨j, hj, rfl⟩ := List.getElem_of_mem ha
    rw [List.length_drop] at hj
    rw [List.getElem_drop]
    exact h1 (p + j) (by omega) (by omega)
  · have key : a.id < u.id := by
      obtain ⟨j, hj, rfl⟩ := List.getElem_of_mem ha
      have hj' := hj
      rw [List.length_take] at hj'
      rw [List.getElem_take]
      have hp0 : 0 < p := by omega
      have hq : p - 1 < L.length := by omega
      have e1 := h2 hp0 hq
      have e2 := hn L[p - 1] (List.getElem_mem hq)
      by_cases hjp : j = p - 1
      · subst hjp; omega
      · have hlt : j < p - 1 := by omega
        have hT := h.1
        have := List.pairwise_iff_getElem.1 hT j (p - 1) hj (by rw [List.length_take]; omega) hlt
        rw [List.getElem_take, List.getElem_take] at this
        omega
    rcases List.mem_cons.1 hb with rfl | hb
    · exact key
    · exact h.2.2 a ha b hb
theorem Srt.take {L : List U} (h : Srt L) (i : Nat) : Srt (L.take i ++ L.drop (i + 1)) := by
  unfold Srt at h ⊢
  refine h.sublist ?_
  conv => rhs; rw [← List.take_append_drop i L]
  refine List.Sublist.append (List.Sublist.refl _) ?_
  rw [← List.drop_drop]
  exact List.drop_sublist _ _
theorem Rel.find (h : Rel us os L) (id : Int) : (getI id us = none ∧ placeI id L 0 = -1) ∨ ∃ i, ∃ hi : i < L.length, placeI id L 0 = i ∧ L[i].id = id ∧ getI id us = some (.agg (rc L[i].x L[i].y L[i].w L[i].h)) := by
  rcases placeI_spec id L 0 with ⟨h1, h2⟩ | ⟨i, hi, h1, h2⟩
  · left
    refine ⟨?_, h1⟩
    cases hq : getI id us with
    | none => rfl
    | some v =>
      obtain ⟨p, hp, he, _⟩ := (h.gu _ _).1 hq
      exact absurd he (h2 p hp)
  · right
    rw [Nat.zero_add] at h1
    exact ⟨i, hi, h1, h2, (h.gu _ _).2 ⟨L[i], List.getElem_mem hi, h2, rfl⟩⟩
theorem atI'_pos (id : Int) : ∀ {L : List U}, Srt L → (∀ j (hj : j < L.length), atI' id L ≤ j → ¬ L[j].id < id) ∧ (∀ j (hj : j < L.length), j < atI' id L → L[j].id < id)
  | [], _ => ⟨fun j hj => by simp at hj, fun j hj => by simp at hj⟩
  | u :: L, h => by
    unfold Srt at h
    rw [List.pairwise_cons] at h
    obtain ⟨i1, i2⟩ := atI'_pos id h.2
    unfold atI'
    by_cases hu : u.id < id
    · simp only [hu, if_true]
      refine ⟨fun j hj hp => ?_, fun j hj hp => ?_⟩
      · cases j with
        | zero => omega
        | succ j => simp only [List.getElem_cons_succ]; exact i1 j (by simpa using hj) (by omega)
      · cases j with
        | zero => simpa using hu
        | succ j => simp only [List.getElem_cons_succ]; exact i2 j (by simpa using hj) (by omega)
    · simp only [hu, if_false]
      refine ⟨fun j hj _ => ?_, fun j hj hp => by omega⟩
      cases j with
      | zero => simpa using hu
      | succ j =>
        simp only [List.getElem_cons_succ]
        have := h.1 _ (List.getElem_mem (by simpa using hj : j < L.length))
        omega
theorem insU_eq (u : U) (L : List U) : insU u L = insAt (atI' u.id L) u L := rfl
theorem Srt.insU {L : List U} (h : Srt L) (u : U) (hn : ∀ v ∈ L, v.id ≠ u.id) : Srt (insU u L) := by
  obtain ⟨h1, h2⟩ := atI'_pos u.id h
  refine h.insAt u _ (atI'_le _ _) (fun j hj hp => ?_) (fun hp hq => ?_) hn
  · have := h1 j hj hp
    have := hn L[j] (List.getElem_mem hj)
    omega
  · have := h2 _ hq (by omega)
    omega
theorem Rel.place (h : Rel us os L) (u : U) (hu : valB u = true) (hg : getI u.id us = none) (hno : ¬ ∃ p ∈ L, ∃ a b, inU p a b ∧ inU u a b) :
    Rel (putI u.id (.agg (rc u.x u.y u.w u.h)) us) (fillC (.sc (.int .i64 u.id)) u.x u.y u.w.toNat os (u.h.toNat * u.w.toNat)) (insU u L) := by
  refine h.put hu hg hno (fun v => mem_insAt u v L _) (nodup_insAt u L _ h.ids fun v hv hh => ?_) (insAt_len _ _ _)
  have := (h.gu u.id _).2 ⟨v, hv, hh, rfl⟩
  rw [hg] at this; cases this
theorem Rel.new (h : Rel us os L) {i : Int} (hg : getI i us = none) : ∀ v ∈ L, v.id ≠ i := fun v hv hh => by
  have := (h.gu i _).2 ⟨v, hv, hh, rfl⟩
  rw [hg] at this; cases this
end
/-! ### Chapter 5: an index, put into. -/
section
variable {us : List (Int × V)} {os : List ((Int × Int) × V)} {L : List U}
theorem Rel.int (h : Rel us os L) : ∀ c v, getC c os = some v → ∃ i, v = .sc (.int .i64 i) := fun c v hc => by
  obtain ⟨a, b⟩ := c
  obtain ⟨p, _, _, rfl⟩ := (h.go _ _ _).1 hc
  exact ⟨_, rfl⟩
theorem Rel.rcs (h : Rel us os L) : ∀ i v, getI i us = some v → ∃ u ∈ L, u.id = i ∧ v = .agg (rc u.x u.y u.w u.h) := fun i v hv => (h.gu _ _).1 hv
/-- Whom a rectangle meets. -/
theorem Rel.meets (h : Rel us os L) (sb : Int → Bool) {x y : Int} {W H : Nat} (hm : mayB x y W H = true) (hW : W ≤ 4) (hH : H ≤ 4) : anyB sb os x y W (H * W) = L.any fun p => sb p.id && meetsR x y W H p := by
  obtain ⟨_, _, h3, h4, _⟩ := may_facts hm
  have hv : valB ⟨0, x, y, W, H⟩ = true := by
    simp only [valB, hm, Bool.true_and, Bool.and_eq_true, decide_eq_true_eq]; omega
  rw [Bool.eq_iff_iff, h.hits sb x y W H (by omega), List.any_eq_true]
  constructor
  · rintro ⟨p, hp, hsb, a, b, h1, h2⟩
    refine ⟨p, hp, ?_⟩
    rw [hsb, Bool.true_and]
    exact (meet_in hv (h.val p hp)).2 ⟨a, b, h1, by simpa [inU] using h2⟩
  · rintro ⟨p, hp, hh⟩
    rw [Bool.and_eq_true] at hh
    obtain ⟨a, b, h1, h2⟩ := (meet_in hv (h.val p hp)).1 hh.2
    exact ⟨p, hp, hh.1, a, b, h1, by simpa [inU] using h2⟩
end
/-- What Put tells. -/
def putR (L : List U) (id x y w h : Int) : Int :=
  if mayB x y w h = false ∨ w > 4 ∨ h > 4 then 1 else if placeI id L 0 ≥ 0 then 8 else if 256 ≤ L.length then 2 else if L.any (meetsR x y w h) = true then 6 else 0
section
variable {n m : Nat} {st s : List Ob} {K : V → List Ob → Prop} {ix a b : Nat} {us : List (Int × V)} {os : List ((Int × Int) × V)} {L : List U} {x y w h id : Int}
set_option maxHeartbeats 4000000 in
theorem o_Put (hr : Rel us os L) (hi : Ix st ix a b us os) (hab : a ≠ b) (hm : 4 < m)
    (hK1 : putR L id x y w h ≠ 0 → ∀ s, Grw st s → K (.sc (.int .i64 (putR L id x y w h))) s)
    (hK0 : putR L id x y w h = 0 → valB ⟨id, x, y, w, h⟩ = true → getI id us = none → (¬ ∃ p ∈ L, ∃ a b, inU p a b ∧ inU ⟨id, x, y, w, h⟩ a b) → L.length < 256 → ∀ s, Ix s ix a b (putI id (.agg (rc x y w h)) us) (fillC (.sc (.int .i64 id)) x y w.toNat os (h.toNat * w.toNat)) → Kp a b st s → K (.sc (.int .i64 0)) s) :
    acallF Try.prog pl (n + 6) m 21 [.ref ix 0, .sc (.int .i64 id), .agg (rc x y w h)] st K := by
  refine acallF_inF Try.func21 rfl rfl Try.ntmps21 (by simp) ?_
  have g1 := Grw.push st [Ob.cells (rc x y w h)]
  have c0 : (st ++ [Ob.cells (rc x y w h)])[st.length]? = some (.cells (rc x y w h)) := get_new0 _ _
  have hi1 := hi.grw g1
  have i1 := hi1.ix
  simp only [rc] at c0 g1 i1 hi1
  simp only [rc, evf,↓evp,evq,evr,fxa0,fxa1,fxa2,fxa3,fxa4,fxu,fxn,fxl,↓fxp,lgc,absL,fitL,flatL,ares,ares1,ofVal,unSc,aload,afill,splice,abound,asI,elems,IntKind.bits,sortT,eqNil,closedL,allByte,patch,pendOK,numA,Value.cells,Value.oneCell',ibin,List.replicate,Option.elim,Nat.reduceAdd,Nat.reduceSub,Nat.reduceMul,Nat.reduceLT,Nat.reduceEqDiff,Nat.reduceLeDiff,Nat.reduceBEq,Int.reduceLE,Int.reduceLT,Int.reduceToNat,Int.reduceBNe,Int.reduceBEq,Int.reduceNeg,Int.reduceEq,Int.reduceNe,Nat.reduceBNe,Int.reduceAdd,Int.reduceSub,Int.reduceMul,Int.reducePow,Nat.reducePow,Int.reduceGT,Int.reduceGE,if_true,if_false,ite_true,ite_false,beq_self_eq_true,BEq.rfl,reduceCtorEq,eq_self,ne_eq,Function.comp_def,beq_iff_eq]
  refine o_is1 (n := n + 4) hi1 ?_
  simp only [c0, evf,↓evp,evq,evr,fxa0,fxa1,fxa2,fxa3,fxa4,fxu,fxn,fxl,↓fxp,lgc,absL,fitL,flatL,ares,ares1,ofVal,unSc,aload,afill,splice,abound,asI,elems,IntKind.bits,sortT,eqNil,closedL,allByte,patch,pendOK,numA,Value.cells,Value.oneCell',ibin,List.replicate,Option.elim,Nat.reduceAdd,Nat.reduceSub,Nat.reduceMul,Nat.reduceLT,Nat.reduceEqDiff,Nat.reduceLeDiff,Nat.reduceBEq,Int.reduceLE,Int.reduceLT,Int.reduceToNat,Int.reduceBNe,Int.reduceBEq,Int.reduceNeg,Int.reduceEq,Int.reduceNe,Nat.reduceBNe,Int.reduceAdd,Int.reduceSub,Int.reduceMul,Int.reducePow,Nat.reducePow,Int.reduceGT,Int.reduceGE,if_true,if_false,ite_true,ite_false,beq_self_eq_true,BEq.rfl,reduceCtorEq,eq_self,ne_eq,Function.comp_def,beq_iff_eq]
  refine c_May (n := n + 2) fun s2 g2 => ?_
  have c2 := g2 _ _ c0
  have hi2 := hi1.grw g2
  have i2 := hi2.ix
  have gg2 := g1.trans g2
  unfold putR at hK0 hK1
  cases e1 : mayB x y w h
  case false =>
    rw [if_pos (.inl e1)] at hK1
    simp only [c2, evf,↓evp,evq,evr,fxa0,fxa1,fxa2,fxa3,fxa4,fxu,fxn,fxl,↓fxp,lgc,absL,fitL,flatL,ares,ares1,ofVal,unSc,aload,afill,splice,abound,asI,elems,IntKind.bits,sortT,eqNil,closedL,allByte,patch,pendOK,numA,Value.cells,Value.oneCell',ibin,List.replicate,Option.elim,Nat.reduceAdd,Nat.reduceSub,Nat.reduceMul,Nat.reduceLT,Nat.reduceEqDiff,Nat.reduceLeDiff,Nat.reduceBEq,Int.reduceLE,Int.reduceLT,Int.reduceToNat,Int.reduceBNe,Int.reduceBEq,Int.reduceNeg,Int.reduceEq,Int.reduceNe,Nat.reduceBNe,Int.reduceAdd,Int.reduceSub,Int.reduceMul,Int.reducePow,Nat.reducePow,Int.reduceGT,Int.reduceGE,if_true,if_false,ite_true,ite_false,beq_self_eq_true,BEq.rfl,reduceCtorEq,eq_self,ne_eq,Function.comp_def,beq_iff_eq]
    exact hK1 (by decide) _ gg2
  cases e2 : decide (w > 4)
  case true =>
    rw [if_pos (.inr (.inl (of_decide_eq_true e2)))] at hK1
    simp only [c2, e2, evf,↓evp,evq,evr,fxa0,fxa1,fxa2,fxa3,fxa4,fxu,fxn,fxl,↓fxp,lgc,absL,fitL,flatL,ares,ares1,ofVal,unSc,aload,afill,splice,abound,asI,elems,IntKind.bits,sortT,eqNil,closedL,allByte,patch,pendOK,numA,Value.cells,Value.oneCell',ibin,List.replicate,Option.elim,Nat.reduceAdd,Nat.reduceSub,Nat.reduceMul,Nat.reduceLT,Nat.reduceEqDiff,Nat.reduceLeDiff,Nat.reduceBEq,Int.reduceLE,Int.reduceLT,Int.reduceToNat,Int.reduceBNe,Int.reduceBEq,Int.reduceNeg,Int.reduceEq,Int.reduceNe,Nat.reduceBNe,Int.reduceAdd,Int.reduceSub,Int.reduceMul,Int.reducePow,Nat.reducePow,Int.reduceGT,Int.reduceGE,if_true,if_false,ite_true,ite_false,beq_self_eq_true,BEq.rfl,reduceCtorEq,eq_self,ne_eq,Function.comp_def,beq_iff_eq]
    exact hK1 (by decide) _ gg2
  cases e3 : decide (h > 4)
  case true =>
    rw [if_pos (.inr (.inr (of_decide_eq_true e3)))] at hK1
    simp only [c2, e2, e3, evf,↓evp,evq,evr,fxa0,fxa1,fxa2,fxa3,fxa4,fxu,fxn,fxl,↓fxp,lgc,absL,fitL,flatL,ares,ares1,ofVal,unSc,aload,afill,splice,abound,asI,elems,IntKind.bits,sortT,eqNil,closedL,allByte,patch,pendOK,numA,Value.cells,Value.oneCell',ibin,List.replicate,Option.elim,Nat.reduceAdd,Nat.reduceSub,Nat.reduceMul,Nat.reduceLT,Nat.reduceEqDiff,Nat.reduceLeDiff,Nat.reduceBEq,Int.reduceLE,Int.reduceLT,Int.reduceToNat,Int.reduceBNe,Int.reduceBEq,Int.reduceNeg,Int.reduceEq,Int.reduceNe,Nat.reduceBNe,Int.reduceAdd,Int.reduceSub,Int.reduceMul,Int.reducePow,Nat.reducePow,Int.reduceGT,Int.reduceGE,if_true,if_false,ite_true,ite_false,beq_self_eq_true,BEq.rfl,reduceCtorEq,eq_self,ne_eq,Function.comp_def,beq_iff_eq]
    exact hK1 (by decide) _ gg2
  have w4 := of_decide_eq_false e2
  have h4 := of_decide_eq_false e3
  have hn : ¬ (mayB x y w h = false ∨ w > 4 ∨ h > 4) := by rw [e1]; simp; omega
  rw [if_neg hn] at hK0 hK1
  have l2 := lk_int (e := 34) (z := .agg [.sc (.int .i64 0), .sc (.int .i64 0), .sc (.int .i64 0), .sc (.int .i64 0)]) Try.underlying59 (by kernel_rfl) hi2.us id
  have g3 := fun X => Grw.push s2 X
  have c3 := fun X => g3 X _ _ c2
  have i3 := fun X => (hi2.grw (g3 X)).ix
  have n3 := fun X => mlen_at Try.underlying59 (hi2.grw (g3 X)).us
  simp only [esI, List.length_map] at n3
  rcases hr.find id with ⟨f1, f2⟩ | ⟨i, hil, f1, f2, f3⟩
  case inr =>
    rw [if_pos (by rw [f1]; omega)] at hK1
    simp only [f3, rc] at l2
    simp only [c2, e2, e3, i2, l2, i3, n3, c3, evf,↓evp,evq,evr,fxa0,fxa1,fxa2,fxa3,fxa4,fxu,fxn,fxl,↓fxp,lgc,absL,fitL,flatL,ares,ares1,ofVal,unSc,aload,afill,splice,abound,asI,elems,IntKind.bits,sortT,eqNil,closedL,allByte,patch,pendOK,numA,Value.cells,Value.oneCell',ibin,List.replicate,Option.elim,Nat.reduceAdd,Nat.reduceSub,Nat.reduceMul,Nat.reduceLT,Nat.reduceEqDiff,Nat.reduceLeDiff,Nat.reduceBEq,Int.reduceLE,Int.reduceLT,Int.reduceToNat,Int.reduceBNe,Int.reduceBEq,Int.reduceNeg,Int.reduceEq,Int.reduceNe,Nat.reduceBNe,Int.reduceAdd,Int.reduceSub,Int.reduceMul,Int.reducePow,Nat.reducePow,Int.reduceGT,Int.reduceGE,if_true,if_false,ite_true,ite_false,beq_self_eq_true,BEq.rfl,reduceCtorEq,eq_self,ne_eq,Function.comp_def,beq_iff_eq]
    exact hK1 (by decide) _ (gg2.trans (g3 _))
  rw [if_neg (by rw [f2]; decide)] at hK0 hK1
  simp only [f1] at l2
  rw [← hr.len] at hK0 hK1
  cases e5 : decide ((us.length : Int) ≥ 256)
  case true =>
    have := of_decide_eq_true e5
    rw [if_pos (by omega)] at hK1
    simp only [c2, e2, e3, i2, l2, i3, n3, c3, e5, evf,↓evp,evq,evr,fxa0,fxa1,fxa2,fxa3,fxa4,fxu,fxn,fxl,↓fxp,lgc,absL,fitL,flatL,ares,ares1,ofVal,unSc,aload,afill,splice,abound,asI,elems,IntKind.bits,sortT,eqNil,closedL,allByte,patch,pendOK,numA,Value.cells,Value.oneCell',ibin,List.replicate,Option.elim,Nat.reduceAdd,Nat.reduceSub,Nat.reduceMul,Nat.reduceLT,Nat.reduceEqDiff,Nat.reduceLeDiff,Nat.reduceBEq,Int.reduceLE,Int.reduceLT,Int.reduceToNat,Int.reduceBNe,Int.reduceBEq,Int.reduceNeg,Int.reduceEq,Int.reduceNe,Nat.reduceBNe,Int.reduceAdd,Int.reduceSub,Int.reduceMul,Int.reducePow,Nat.reducePow,Int.reduceGT,Int.reduceGE,if_true,if_false,ite_true,ite_false,beq_self_eq_true,BEq.rfl,reduceCtorEq,eq_self,ne_eq,Function.comp_def,beq_iff_eq]
    exact hK1 (by decide) _ (gg2.trans (g3 _))
  have u5 : ¬ 256 ≤ us.length := by have := of_decide_eq_false e5; omega
  rw [if_neg u5] at hK0 hK1
  simp only [c2, e2, e3, i2, l2, i3, n3, c3, e5, evf,↓evp,evq,evr,fxa0,fxa1,fxa2,fxa3,fxa4,fxu,fxn,fxl,↓fxp,lgc,absL,fitL,flatL,ares,ares1,ofVal,unSc,aload,afill,splice,abound,asI,elems,IntKind.bits,sortT,eqNil,closedL,allByte,patch,pendOK,numA,Value.cells,Value.oneCell',ibin,List.replicate,Option.elim,Nat.reduceAdd,Nat.reduceSub,Nat.reduceMul,Nat.reduceLT,Nat.reduceEqDiff,Nat.reduceLeDiff,Nat.reduceBEq,Int.reduceLE,Int.reduceLT,Int.reduceToNat,Int.reduceBNe,Int.reduceBEq,Int.reduceNeg,Int.reduceEq,Int.reduceNe,Nat.reduceBNe,Int.reduceAdd,Int.reduceSub,Int.reduceMul,Int.reducePow,Nat.reducePow,Int.reduceGT,Int.reduceGE,if_true,if_false,ite_true,ite_false,beq_self_eq_true,BEq.rfl,reduceCtorEq,eq_self,ne_eq,Function.comp_def,beq_iff_eq]
  obtain ⟨_, _, f3, f4, _⟩ := may_facts e1
  obtain ⟨W, rfl⟩ := Int.eq_ofNat_of_zero_le (show 0 ≤ w by omega)
  obtain ⟨H, rfl⟩ := Int.eq_ofNat_of_zero_le (show 0 ≤ h by omega)
  simp only [Int.toNat_natCast] at hK0
  have hWH : W * H ≤ 64 := Nat.le_trans (Nat.mul_le_mul (show W ≤ 4 by omega) (show H ≤ 4 by omega)) (by decide)
  have me := hr.meets (fun _ => true) e1 (show W ≤ 4 by omega) (show H ≤ 4 by omega)
  simp only [Bool.true_and] at me
  refine o_meets (n := n) (sb := fun _ => true) (g := 62) (caps := []) (by rw [fsz]; decide) hr.int (hi2.grw (g3 _)) hWH e1 (by omega) (by omega) ?_ fun s4 g4 => ?_
  · intro i s3 j3 K' hK'
    refine acallF_inF Try.func62 rfl rfl Try.ntmps62 (by simp) ?_
    simp only [evf,↓evp,evq,evr,fxa0,fxa1,fxa2,fxa3,fxa4,fxu,fxn,fxl,↓fxp,lgc,absL,fitL,flatL,ares,ares1,ofVal,unSc,aload,afill,splice,abound,asI,elems,IntKind.bits,sortT,eqNil,closedL,allByte,patch,pendOK,numA,Value.cells,Value.oneCell',ibin,List.replicate,Option.elim,Nat.reduceAdd,Nat.reduceSub,Nat.reduceMul,Nat.reduceLT,Nat.reduceEqDiff,Nat.reduceLeDiff,Nat.reduceBEq,Int.reduceLE,Int.reduceLT,Int.reduceToNat,Int.reduceBNe,Int.reduceBEq,Int.reduceNeg,Int.reduceEq,Int.reduceNe,Nat.reduceBNe,Int.reduceAdd,Int.reduceSub,Int.reduceMul,Int.reducePow,Nat.reducePow,Int.reduceGT,Int.reduceGE,if_true,if_false,ite_true,ite_false,beq_self_eq_true,BEq.rfl,reduceCtorEq,eq_self,ne_eq,Function.comp_def,beq_iff_eq]
    exact hK'
  rw [me]
  cases e6 : L.any (meetsR x y W H)
  case true =>
    rw [e6, if_pos rfl] at hK1
    simp only [evf,↓evp,evq,evr,fxa0,fxa1,fxa2,fxa3,fxa4,fxu,fxn,fxl,↓fxp,lgc,absL,fitL,flatL,ares,ares1,ofVal,unSc,aload,afill,splice,abound,asI,elems,IntKind.bits,sortT,eqNil,closedL,allByte,patch,pendOK,numA,Value.cells,Value.oneCell',ibin,List.replicate,Option.elim,Nat.reduceAdd,Nat.reduceSub,Nat.reduceMul,Nat.reduceLT,Nat.reduceEqDiff,Nat.reduceLeDiff,Nat.reduceBEq,Int.reduceLE,Int.reduceLT,Int.reduceToNat,Int.reduceBNe,Int.reduceBEq,Int.reduceNeg,Int.reduceEq,Int.reduceNe,Nat.reduceBNe,Int.reduceAdd,Int.reduceSub,Int.reduceMul,Int.reducePow,Nat.reducePow,Int.reduceGT,Int.reduceGE,if_true,if_false,ite_true,ite_false,beq_self_eq_true,BEq.rfl,reduceCtorEq,eq_self,ne_eq,Function.comp_def,beq_iff_eq]
    exact hK1 (by decide) _ ((gg2.trans (g3 _)).trans g4)
  have hx : ((L.any fun p => meetsR x y W H p) = true) = False := by rw [e6]; simp
  simp only [hx, if_false] at hK0
  have hv : valB ⟨id, x, y, W, H⟩ = true := by simp only [valB, e1, Bool.true_and, Bool.and_eq_true, decide_eq_true_eq]; omega
  have c4 := g4 _ _ (c3 _)
  simp only [c4, evf,↓evp,evq,evr,fxa0,fxa1,fxa2,fxa3,fxa4,fxu,fxn,fxl,↓fxp,lgc,absL,fitL,flatL,ares,ares1,ofVal,unSc,aload,afill,splice,abound,asI,elems,IntKind.bits,sortT,eqNil,closedL,allByte,patch,pendOK,numA,Value.cells,Value.oneCell',ibin,List.replicate,Option.elim,Nat.reduceAdd,Nat.reduceSub,Nat.reduceMul,Nat.reduceLT,Nat.reduceEqDiff,Nat.reduceLeDiff,Nat.reduceBEq,Int.reduceLE,Int.reduceLT,Int.reduceToNat,Int.reduceBNe,Int.reduceBEq,Int.reduceNeg,Int.reduceEq,Int.reduceNe,Nat.reduceBNe,Int.reduceAdd,Int.reduceSub,Int.reduceMul,Int.reducePow,Nat.reducePow,Int.reduceGT,Int.reduceGE,if_true,if_false,ite_true,ite_false,beq_self_eq_true,BEq.rfl,reduceCtorEq,eq_self,ne_eq,Function.comp_def,beq_iff_eq]
  refine o_set (n := n) ((hi2.grw (g3 _)).grw g4) hab e1 (by omega) (by omega) fun s5 h5 k5 => ?_
  simp only [evf,↓evp,evq,evr,fxa0,fxa1,fxa2,fxa3,fxa4,fxu,fxn,fxl,↓fxp,lgc,absL,fitL,flatL,ares,ares1,ofVal,unSc,aload,afill,splice,abound,asI,elems,IntKind.bits,sortT,eqNil,closedL,allByte,patch,pendOK,numA,Value.cells,Value.oneCell',ibin,List.replicate,Option.elim,Nat.reduceAdd,Nat.reduceSub,Nat.reduceMul,Nat.reduceLT,Nat.reduceEqDiff,Nat.reduceLeDiff,Nat.reduceBEq,Int.reduceLE,Int.reduceLT,Int.reduceToNat,Int.reduceBNe,Int.reduceBEq,Int.reduceNeg,Int.reduceEq,Int.reduceNe,Nat.reduceBNe,Int.reduceAdd,Int.reduceSub,Int.reduceMul,Int.reducePow,Nat.reducePow,Int.reduceGT,Int.reduceGE,if_true,if_false,ite_true,ite_false,beq_self_eq_true,BEq.rfl,reduceCtorEq,eq_self,ne_eq,Function.comp_def,beq_iff_eq]
  refine hK0 trivial hv f1 ?_ (by omega) _ h5 fun j o ja jb h => k5 j o ja jb (g4 _ _ (g3 _ _ _ (gg2 _ _ h)))
  rintro ⟨p, hp, hab'⟩
  have := (meet_in hv (hr.val p hp)).2 hab'
  rw [Bool.eq_false_iff] at e6
  exact e6 (List.any_eq_true.2 ⟨p, hp, this⟩)
end
/-! ### Chapter 5: a unit's cells, taken away. -/
section
variable {n m : Nat} {st s : List Ob} {K : V → List Ob → Prop} {ix a b : Nat} {us : List (Int × V)} {os : List ((Int × Int) × V)} {x y id : Int} {W H : Nat}
set_option maxHeartbeats 2000000 in
/-- A round of 'clear'. -/
theorem clear_yl {ps : Array Tmp} {asg body : Code} (hc : frf (Try.f59.body.getD .skip) = some (ps, asg, body)) {F : Nat → V} {t2 lid : Nat} {p : Option Code} (q2 : F 2 = .ref t2 0)
    (h2 : s[t2]? = some (.cells [.ref ix 0])) (hix : s[ix]? = some (.cells [.map a, .map b])) (hb : s[b]? = some (.map (esC os)))
    (hl : s[lid]? = some (.loop .ready p (pl 59) (ofF 23 F) ps.toList asg body))
    (hK : ∀ s', s'[b]? = some (.map (esC (delC (x, y) os))) → s'[lid]? = some (.loop .ready none (pl 59) (ofF 23 F) ps.toList asg body) → (∀ j o, j ≠ b → j ≠ lid → s[j]? = some o → s'[j]? = some o) → K (.sc (.bool true)) s') :
    acallF Try.prog pl (n + 1) m Try.prog.funcs.size [.yl lid, .agg (cl x y)] s K := by
  simp only [Try.f59, Option.getD_some, frf, Option.some.injEq, Prod.mk.injEq] at hc
  obtain ⟨rfl, rfl, rfl⟩ := hc
  have hbl : b ≠ lid := fun he => by subst he; rw [hb] at hl; cases hl
  refine acallF_yl hl rfl ?_
  rw [show (#[12] : Array Tmp).toList = [12] from rfl, aputs_one (by decide)]
  simp only [cl, evf,↓evp,evq,evr,fxa0,fxa1,fxa2,fxa3,fxa4,fxu,fxn,fxl,↓fxp,lgc,absL,fitL,flatL,ares,ares1,ofVal,unSc,aload,afill,splice,abound,asI,elems,IntKind.bits,sortT,eqNil,closedL,allByte,patch,pendOK,numA,Value.cells,Value.oneCell',ibin,List.replicate,Option.elim,Nat.reduceAdd,Nat.reduceSub,Nat.reduceMul,Nat.reduceLT,Nat.reduceEqDiff,Nat.reduceLeDiff,Nat.reduceBEq,Int.reduceLE,Int.reduceLT,Int.reduceToNat,Int.reduceBNe,Int.reduceBEq,Int.reduceNeg,Int.reduceEq,Int.reduceNe,Nat.reduceBNe,Int.reduceAdd,Int.reduceSub,Int.reduceMul,Int.reducePow,Nat.reducePow,Int.reduceGT,Int.reduceGE,if_true,if_false,ite_true,ite_false,beq_self_eq_true,BEq.rfl,reduceCtorEq,eq_self,ne_eq,Function.comp_def,beq_iff_eq]
  have g0 := Grw.push s [.cells [.sc (.int .i64 x), .sc (.int .i64 y)]]
  have c6 : (s ++ [Ob.cells [V.sc (.int .i64 x), V.sc (.int .i64 y)]])[s.length]? = some (.cells [V.sc (.int .i64 x), V.sc (.int .i64 y)]) := get_new0 _ _
  refine rdMid_ok (g0 _ _ hl) ?_
  generalize hs1 : (s ++ [Ob.cells [V.sc (.int .i64 x), V.sc (.int .i64 y)]]) = s1 at g0 c6
  have nl : s.length ≠ lid := fun he => by subst he; rw [List.getElem?_eq_none (Nat.le_refl _)] at hl; cases hl
  have lt : lid < s1.length := (List.getElem?_eq_some_iff.1 (g0 _ _ hl)).1
  have nc : ∀ (j : Nat) (c : List V), s[j]? = some (.cells c) → j ≠ lid := fun j c hj he => by subst he; rw [hl] at hj; cases hj
  generalize hs2 : s1.set lid _ = s2
  have k : ∀ j o, j ≠ lid → s1[j]? = some o → s2[j]? = some o := fun j o hj ho => by rw [← hs2, List.getElem?_set_ne (Ne.symm hj)]; exact ho
  have d2 := k _ _ (nc _ _ h2) (g0 _ _ h2)
  have di := k _ _ (nc _ _ hix) (g0 _ _ hix)
  have db := k _ _ hbl (g0 _ _ hb)
  have d6 := k _ _ nl c6
  have up := dl_cell (e := 3) Try.underlying60 db x y
  simp only [q2, d2, di, d6, up, evf,↓evp,evq,evr,fxa0,fxa1,fxa2,fxa3,fxa4,fxu,fxn,fxl,↓fxp,lgc,absL,fitL,flatL,ares,ares1,ofVal,unSc,aload,afill,splice,abound,asI,elems,IntKind.bits,sortT,eqNil,closedL,allByte,patch,pendOK,numA,Value.cells,Value.oneCell',ibin,List.replicate,Option.elim,Nat.reduceAdd,Nat.reduceSub,Nat.reduceMul,Nat.reduceLT,Nat.reduceEqDiff,Nat.reduceLeDiff,Nat.reduceBEq,Int.reduceLE,Int.reduceLT,Int.reduceToNat,Int.reduceBNe,Int.reduceBEq,Int.reduceNeg,Int.reduceEq,Int.reduceNe,Nat.reduceBNe,Int.reduceAdd,Int.reduceSub,Int.reduceMul,Int.reducePow,Nat.reducePow,Int.reduceGT,Int.reduceGE,if_true,if_false,ite_true,ite_false,beq_self_eq_true,BEq.rfl,reduceCtorEq,eq_self,ne_eq,Function.comp_def,beq_iff_eq]
  have dl : ∀ o, s1.set lid o = s2 → s2[lid]? = some o := fun o ho => by rw [← ho]; exact List.getElem?_set_self lt
  have dl := dl _ hs2
  have lb : b < s2.length := (List.getElem?_eq_some_iff.1 db).1
  refine rdEnd_normal (by rw [List.getElem?_set_ne hbl]; exact dl) ?_
  refine hK _ ?_ ?_ ?_
  · rw [List.getElem?_set_ne (Ne.symm hbl), List.getElem?_set_self lb]
  · rw [List.getElem?_set_self (by rw [List.length_set, ← hs2, List.length_set]; exact lt)]
  · intro j o hj hjl ho
    rw [List.getElem?_set_ne (Ne.symm hjl), List.getElem?_set_ne (Ne.symm hj)]
    exact k _ _ hjl (g0 _ _ ho)
set_option maxHeartbeats 1000000 in
theorem clear_loop {ps : Array Tmp} {asg body : Code} (hc : frf (Try.f59.body.getD .skip) = some (ps, asg, body)) {F : Nat → V} {t2 lid rb : Nat} (q2 : F 2 = .ref t2 0)
    (hmay : mayB x y W H = true) (hm : W < m) (hm2 : H < m)
    (h2 : s[t2]? = some (.cells [.ref ix 0])) (hix : s[ix]? = some (.cells [.map a, .map b])) (hb : s[b]? = some (.map (esC os))) (hr : s[rb]? = some (.cells (rc x y W H)))
    (hl : s[lid]? = some (.loop .ready none (pl 59) (ofF 23 F) ps.toList asg body))
    (hK : ∀ s', s'[b]? = some (.map (esC (cutC x y W os (H * W)))) → s'[lid]? = some (.loop .ready none (pl 59) (ofF 23 F) ps.toList asg body) → Kp b lid s s' → K (.tup []) s') :
    acallF Try.prog pl (n + 4) m 106 [.yl lid, .ref rb 0] s K := by
  have hbl : b ≠ lid := fun he => by subst he; rw [hb] at hl; cases hl
  have nb : ∀ (j : Nat) (c : List V), s[j]? = some (.cells c) → j ≠ b := fun j c hj he => by subst he; rw [hb] at hj; cases hj
  have nl : ∀ (j : Nat) (c : List V), s[j]? = some (.cells c) → j ≠ lid := fun j c hj he => by subst he; rw [hl] at hj; cases hj
  refine c_Cells1 (x := x) (y := y) (W := W) (H := H) (I := fun k s' => s'[b]? = some (.map (esC (cutC x y W os k))) ∧ s'[lid]? = some (.loop .ready none (pl 59) (ofF 23 F) ps.toList asg body) ∧ Kp b lid s s') (J := fun _ => False)
    hmay hm hm2 (fun k s' h => h.2.2 _ _ (nb _ _ hr) (nl _ _ hr) hr) (fun k s1 s2 h g => ⟨g _ _ h.1, g _ _ h.2.1, fun j o h1 h2 h3 => g _ _ (h.2.2 j o h1 h2 h3)⟩) ⟨hb, hl, fun j o _ _ h => h⟩ ?_ (fun s' h => hK s' h.1 h.2.1 h.2.2) (fun s' h => h.elim)
  intro j i s' K' hj hi ⟨e1, e2, e3⟩ hK1 hK2
  refine clear_yl (n := n + 2) hc q2 (e3 _ _ (nb _ _ h2) (nl _ _ h2) h2) (e3 _ _ (nb _ _ hix) (nl _ _ hix) hix) e1 e2 ?_
  intro s2 k1 k2 k3
  refine hK1 _ ⟨?_, k2, fun j o h1 h2 h3 => k3 j o h1 h2 (e3 j o h1 h2 h3)⟩
  rw [k1]
  simp only [cutC]
  rw [show (j * W + i) % W = i by rw [Nat.mul_comm, Nat.mul_add_mod, Nat.mod_eq_of_lt hi], show (j * W + i) / W = j by rw [Nat.mul_comm, Nat.mul_add_div (by omega), Nat.div_eq_of_lt hi, Nat.add_zero]]
end
section
variable {n m : Nat} {st s : List Ob} {K : V → List Ob → Prop} {ix a b : Nat} {us : List (Int × V)} {os : List ((Int × Int) × V)} {x y id : Int} {W H : Nat}
set_option maxHeartbeats 1000000 in
theorem o_clear (hi : Ix st ix a b us os) (hab : a ≠ b) (hg : getI id us = some (.agg (rc x y W H))) (hmay : mayB x y W H = true) (hm : W < m) (hm2 : H < m)
    (hK : ∀ s, Ix s ix a b (delI id us) (cutC x y W os (H * W)) → Kp a b st s → K (.tup []) s) : acallF Try.prog pl (n + 5) m 59 [.ref ix 0, .sc (.int .i64 id)] st K := by
  refine acallF_inF Try.func59 rfl rfl Try.ntmps59 (by simp) ?_
  obtain ⟨s1, hs1⟩ : ∃ s1, s1 = st ++ [Ob.cells [V.ref ix 0]] := ⟨_, rfl⟩
  have g1 : Grw st s1 := by rw [hs1]; exact .push _ _
  have c1 : s1[st.length]? = some (.cells [V.ref ix 0]) := by rw [hs1]; exact get_new0 _ _
  have l1 : s1.length = st.length + 1 := by rw [hs1]; simp
  have hi1 := hi.grw g1
  have i1 := hi1.ix
  have look := lk_int1 Try.underlying59 hi1.us id hg
  simp only [rc] at look
  simp only [evf,↓evp,evq,evr,fxa0,fxa1,fxa2,fxa3,fxa4,fxu,fxn,fxl,↓fxp,lgc,absL,fitL,flatL,ares,ares1,ofVal,unSc,aload,afill,splice,abound,asI,elems,IntKind.bits,sortT,eqNil,closedL,allByte,patch,pendOK,numA,Value.cells,Value.oneCell',ibin,List.replicate,Option.elim,Nat.reduceAdd,Nat.reduceSub,Nat.reduceMul,Nat.reduceLT,Nat.reduceEqDiff,Nat.reduceLeDiff,Nat.reduceBEq,Int.reduceLE,Int.reduceLT,Int.reduceToNat,Int.reduceBNe,Int.reduceBEq,Int.reduceNeg,Int.reduceEq,Int.reduceNe,Nat.reduceBNe,Int.reduceAdd,Int.reduceSub,Int.reduceMul,Int.reducePow,Nat.reducePow,Int.reduceGT,Int.reduceGE,if_true,if_false,ite_true,ite_false,beq_self_eq_true,BEq.rfl,reduceCtorEq,eq_self,ne_eq,Function.comp_def,beq_iff_eq]
  rw [← hs1]
  simp only [c1, i1, look, evf,↓evp,evq,evr,fxa0,fxa1,fxa2,fxa3,fxa4,fxu,fxn,fxl,↓fxp,lgc,absL,fitL,flatL,ares,ares1,ofVal,unSc,aload,afill,splice,abound,asI,elems,IntKind.bits,sortT,eqNil,closedL,allByte,patch,pendOK,numA,Value.cells,Value.oneCell',ibin,List.replicate,Option.elim,Nat.reduceAdd,Nat.reduceSub,Nat.reduceMul,Nat.reduceLT,Nat.reduceEqDiff,Nat.reduceLeDiff,Nat.reduceBEq,Int.reduceLE,Int.reduceLT,Int.reduceToNat,Int.reduceBNe,Int.reduceBEq,Int.reduceNeg,Int.reduceEq,Int.reduceNe,Nat.reduceBNe,Int.reduceAdd,Int.reduceSub,Int.reduceMul,Int.reducePow,Nat.reducePow,Int.reduceGT,Int.reduceGE,if_true,if_false,ite_true,ite_false,beq_self_eq_true,BEq.rfl,reduceCtorEq,eq_self,ne_eq,Function.comp_def,beq_iff_eq]
  refine c_Cells ?_
  obtain ⟨s2, hs2⟩ : ∃ s2, s2 = s1 ++ [Ob.cells (rc x y W H)] := ⟨_, rfl⟩
  have g2 : Grw s1 s2 := by rw [hs2]; exact .push _ _
  have r2 : s2[s1.length]? = some (.cells (rc x y W H)) := by rw [hs2]; exact get_new0 _ _
  have l2 : s2.length = s1.length + 1 := by rw [hs2]; simp
  have c2 := g2 _ _ c1
  have hi2 := hi1.grw g2
  have i2 := hi2.ix
  simp only [rc] at hs2
  simp only [rc]
  rw [← hs2]
  simp only [evf,↓evp,evq,evr,fxa0,fxa1,fxa2,fxa3,fxa4,fxu,fxn,fxl,↓fxp,lgc,absL,fitL,flatL,ares,ares1,ofVal,unSc,aload,afill,splice,abound,asI,elems,IntKind.bits,sortT,eqNil,closedL,allByte,patch,pendOK,numA,Value.cells,Value.oneCell',ibin,List.replicate,Option.elim,Nat.reduceAdd,Nat.reduceSub,Nat.reduceMul,Nat.reduceLT,Nat.reduceEqDiff,Nat.reduceLeDiff,Nat.reduceBEq,Int.reduceLE,Int.reduceLT,Int.reduceToNat,Int.reduceBNe,Int.reduceBEq,Int.reduceNeg,Int.reduceEq,Int.reduceNe,Nat.reduceBNe,Int.reduceAdd,Int.reduceSub,Int.reduceMul,Int.reducePow,Nat.reducePow,Int.reduceGT,Int.reduceGE,if_true,if_false,ite_true,ite_false,beq_self_eq_true,BEq.rfl,reduceCtorEq,eq_self,ne_eq,Function.comp_def,beq_iff_eq]
  have g5 := fun X => Grw.push s2 X
  have hb : b < st.length := (List.getElem?_eq_some_iff.1 hi.os).1
  have ha : a < st.length := (List.getElem?_eq_some_iff.1 hi.us).1
  have hx : ix < st.length := (List.getElem?_eq_some_iff.1 hi.ix).1
  refine clear_loop (n := n) rfl (t2 := st.length) (ix := ix) (a := a) (b := b) (os := os) (by simp only [evf, ne_eq, Nat.reduceEqDiff, Nat.reduceLT, not_false_eq_true]) hmay hm hm2 (g5 _ _ _ c2) (g5 _ _ _ i2) (g5 _ _ _ hi2.os) (g5 _ _ _ r2) (get_new0 _ _) ?_
  intro s' j1 j2 j3
  refine rfEnd_normal j2 (by decide) ?_
  generalize hs6 : s'.set s2.length _ = s6
  have fin : ∀ j o, j ≠ s2.length → s'[j]? = some o → s6[j]? = some o := fun j o hj ho => by rw [← hs6, List.getElem?_set_ne (Ne.symm hj)]; exact ho
  have c6 := fin _ _ (by omega) (j3 _ _ (by omega) (by omega) (g5 _ _ _ c2))
  have i6 := fin _ _ (by omega) (j3 _ _ hi.nixb (by omega) (g5 _ _ _ i2))
  have u6 := fin _ _ (by omega) (j3 _ _ hab (by omega) (g5 _ _ _ hi2.us))
  have o6 := fin _ _ (by omega) j1
  have dl := dl_int (e := 34) Try.underlying59 u6 id
  simp only [c6, i6, dl, evf,↓evp,evq,evr,fxa0,fxa1,fxa2,fxa3,fxa4,fxu,fxn,fxl,↓fxp,lgc,absL,fitL,flatL,ares,ares1,ofVal,unSc,aload,afill,splice,abound,asI,elems,IntKind.bits,sortT,eqNil,closedL,allByte,patch,pendOK,numA,Value.cells,Value.oneCell',ibin,List.replicate,Option.elim,Nat.reduceAdd,Nat.reduceSub,Nat.reduceMul,Nat.reduceLT,Nat.reduceEqDiff,Nat.reduceLeDiff,Nat.reduceBEq,Int.reduceLE,Int.reduceLT,Int.reduceToNat,Int.reduceBNe,Int.reduceBEq,Int.reduceNeg,Int.reduceEq,Int.reduceNe,Nat.reduceBNe,Int.reduceAdd,Int.reduceSub,Int.reduceMul,Int.reducePow,Nat.reducePow,Int.reduceGT,Int.reduceGE,if_true,if_false,ite_true,ite_false,beq_self_eq_true,BEq.rfl,reduceCtorEq,eq_self,ne_eq,Function.comp_def,beq_iff_eq]
  have l6 : a < s6.length := (List.getElem?_eq_some_iff.1 u6).1
  refine hK _ ⟨?_, ?_, ?_⟩ ?_
  · rw [List.getElem?_set_ne (Ne.symm hi.nixa)]; exact i6
  · rw [List.getElem?_set_self l6]
  · rw [List.getElem?_set_ne hab]; exact o6
  · intro j o ja jb ho
    have lj : j < st.length := (List.getElem?_eq_some_iff.1 ho).1
    rw [List.getElem?_set_ne (Ne.symm ja)]
    exact fin _ _ (by omega) (j3 _ _ jb (by omega) (g5 _ _ _ (g2 _ _ (g1 _ _ ho))))
end
/-! ### Chapter 5: a unit moved, taken. -/
def mvU (u : U) (x y : Int) : U := ⟨u.id, x, y, u.w, u.h⟩
section
variable {us : List (Int × V)} {os : List ((Int × Int) × V)} {L : List U}
theorem Rel.move (h : Rel us os L) (i : Nat) (hi : i < L.length) (x y : Int) (hv : valB (mvU L[i] x y) = true) (hno : ¬ ∃ p ∈ L, p.id ≠ L[i].id ∧ ∃ a b, inU p a b ∧ inU (mvU L[i] x y) a b) :
    Rel (putI L[i].id (.agg (rc x y L[i].w L[i].h)) (delI L[i].id us)) (fillC (.sc (.int .i64 L[i].id)) x y L[i].w.toNat (cutC L[i].x L[i].y L[i].w.toNat os (L[i].h.toNat * L[i].w.toNat)) (L[i].h.toNat * L[i].w.toNat)) (L.set i (mvU L[i] x y)) := by
  have h0 := h.take i hi
  have hL : L = L.take i ++ L[i] :: L.drop (i + 1) := by rw [← List.drop_eq_getElem_cons hi, List.take_append_drop]
  have hp : L.Perm (L[i] :: (L.take i ++ L.drop (i + 1))) := by
    conv => lhs; rw [hL]
    exact List.perm_middle
  have hnd : (L[i] :: (L.take i ++ L.drop (i + 1))).map U.id |>.Nodup := ((hp.map U.id).nodup_iff).1 h.ids
  rw [List.map_cons, List.nodup_cons] at hnd
  have hset : L.set i (mvU L[i] x y) = L.take i ++ mvU L[i] x y :: L.drop (i + 1) := by rw [List.set_eq_take_append_cons_drop, if_pos hi]
  refine h0.put (u := mvU L[i] x y) (L' := L.set i (mvU L[i] x y)) hv (by rw [getI_delI _ _ h.ni]; simp [mvU]) ?_ (fun v => ?_) ?_ ?_
  · rintro ⟨p, hp0, hab⟩
    refine hno ⟨p, hp.mem_iff.2 (List.mem_cons_of_mem _ hp0), fun he => hnd.1 (List.mem_map.2 ⟨p, hp0, he⟩), hab⟩
  · rw [hset]; simp only [List.mem_append, List.mem_cons]
    constructor
    · rintro (h1 | h1 | h1)
      · exact .inr (.inl h1)
      · exact .inl h1
      · exact .inr (.inr h1)
    · rintro (h1 | h1 | h1)
      · exact .inr (.inl h1)
      · exact .inl h1
      · exact .inr (.inr h1)
  · have : (L.set i (mvU L[i] x y)).map U.id = L.map U.id := by
      rw [hset, List.map_append, List.map_cons]
      have := congrArg (List.map U.id) hL
      rw [List.map_append, List.map_cons] at this
      exact this.symm
    rw [this]; exact h.ids
  · rw [List.length_set, List.length_append, List.length_take, List.length_drop]; omega
theorem Srt.move (h : Srt L) (i : Nat) (hi : i < L.length) (x y : Int) : Srt (L.set i (mvU L[i] x y)) := by
  have hL : L = L.take i ++ L[i] :: L.drop (i + 1) := by rw [← List.drop_eq_getElem_cons hi, List.take_append_drop]
  have hset : L.set i (mvU L[i] x y) = L.take i ++ mvU L[i] x y :: L.drop (i + 1) := by rw [List.set_eq_take_append_cons_drop, if_pos hi]
  have e : (L.set i (mvU L[i] x y)).map U.id = L.map U.id := by
    rw [hset, List.map_append, List.map_cons]
    have := congrArg (List.map U.id) hL
    rw [List.map_append, List.map_cons] at this
    exact this.symm
  unfold Srt at h ⊢
  rw [← List.pairwise_map (f := U.id) (R := fun a b : Int => a < b)] at h ⊢
  rw [e]; exact h
end
section
variable {n m : Nat} {st s : List Ob} {K : V → List Ob → Prop} {ix a b : Nat} {us : List (Int × V)} {os : List ((Int × Int) × V)} {L : List U} {x y w h id : Int}
set_option maxHeartbeats 4000000 in
theorem o_Take (hr : Rel us os L) (hi : Ix st ix a b us os) (hab : a ≠ b) (hm : 4 < m)
    (hN : placeI id L 0 = -1 → ∀ s, Grw st s → K (.sc (.int .i64 4)) s)
    (h0 : ∀ i (hi : i < L.length), placeI id L 0 = i → L[i].id = id → ∀ us' os' s, Ix s ix a b us' os' → Rel us' os' (L.take i ++ L.drop (i + 1)) → Kp a b st s → K (.sc (.int .i64 0)) s) :
    acallF Try.prog pl (n + 6) m 20 [.ref ix 0, .sc (.int .i64 id)] st K := by
  refine acallF_inF Try.func20 rfl rfl Try.ntmps20 (by simp) ?_
  simp only [evf,↓evp,evq,evr,fxa0,fxa1,fxa2,fxa3,fxa4,fxu,fxn,fxl,↓fxp,lgc,absL,fitL,flatL,ares,ares1,ofVal,unSc,aload,afill,splice,abound,asI,elems,IntKind.bits,sortT,eqNil,closedL,allByte,patch,pendOK,numA,Value.cells,Value.oneCell',ibin,List.replicate,Option.elim,Nat.reduceAdd,Nat.reduceSub,Nat.reduceMul,Nat.reduceLT,Nat.reduceEqDiff,Nat.reduceLeDiff,Nat.reduceBEq,Int.reduceLE,Int.reduceLT,Int.reduceToNat,Int.reduceBNe,Int.reduceBEq,Int.reduceNeg,Int.reduceEq,Int.reduceNe,Nat.reduceBNe,Int.reduceAdd,Int.reduceSub,Int.reduceMul,Int.reducePow,Nat.reducePow,Int.reduceGT,Int.reduceGE,if_true,if_false,ite_true,ite_false,beq_self_eq_true,BEq.rfl,reduceCtorEq,eq_self,ne_eq,Function.comp_def,beq_iff_eq]
  refine o_is1 (n := n + 4) hi ?_
  have i1 := hi.ix
  have look := lk_int (e := 34) (z := .agg (rc 0 0 0 0)) Try.underlying59 (by kernel_rfl) hi.us id
  simp only [rc] at look
  rcases hr.find id with ⟨f1, f2⟩ | ⟨i, hil, f1, f2, f3⟩
  · simp only [f1] at look
    simp only [i1, look, evf,↓evp,evq,evr,fxa0,fxa1,fxa2,fxa3,fxa4,fxu,fxn,fxl,↓fxp,lgc,absL,fitL,flatL,ares,ares1,ofVal,unSc,aload,afill,splice,abound,asI,elems,IntKind.bits,sortT,eqNil,closedL,allByte,patch,pendOK,numA,Value.cells,Value.oneCell',ibin,List.replicate,Option.elim,Nat.reduceAdd,Nat.reduceSub,Nat.reduceMul,Nat.reduceLT,Nat.reduceEqDiff,Nat.reduceLeDiff,Nat.reduceBEq,Int.reduceLE,Int.reduceLT,Int.reduceToNat,Int.reduceBNe,Int.reduceBEq,Int.reduceNeg,Int.reduceEq,Int.reduceNe,Nat.reduceBNe,Int.reduceAdd,Int.reduceSub,Int.reduceMul,Int.reducePow,Nat.reducePow,Int.reduceGT,Int.reduceGE,if_true,if_false,ite_true,ite_false,beq_self_eq_true,BEq.rfl,reduceCtorEq,eq_self,ne_eq,Function.comp_def,beq_iff_eq]
    exact hN f2 _ (Grw.push _ _)
  · have hv := hr.val _ (List.getElem_mem hil)
    obtain ⟨hmay, v1, v2, v3, v4⟩ := val_facts hv
    have ht := hr.take i hil
    have h0 := h0 i hil f1 f2
    simp only [f3, rc] at look
    simp only [i1, look, evf,↓evp,evq,evr,fxa0,fxa1,fxa2,fxa3,fxa4,fxu,fxn,fxl,↓fxp,lgc,absL,fitL,flatL,ares,ares1,ofVal,unSc,aload,afill,splice,abound,asI,elems,IntKind.bits,sortT,eqNil,closedL,allByte,patch,pendOK,numA,Value.cells,Value.oneCell',ibin,List.replicate,Option.elim,Nat.reduceAdd,Nat.reduceSub,Nat.reduceMul,Nat.reduceLT,Nat.reduceEqDiff,Nat.reduceLeDiff,Nat.reduceBEq,Int.reduceLE,Int.reduceLT,Int.reduceToNat,Int.reduceBNe,Int.reduceBEq,Int.reduceNeg,Int.reduceEq,Int.reduceNe,Nat.reduceBNe,Int.reduceAdd,Int.reduceSub,Int.reduceMul,Int.reducePow,Nat.reducePow,Int.reduceGT,Int.reduceGE,if_true,if_false,ite_true,ite_false,beq_self_eq_true,BEq.rfl,reduceCtorEq,eq_self,ne_eq,Function.comp_def,beq_iff_eq]
    obtain ⟨W, hW⟩ := Int.eq_ofNat_of_zero_le (show 0 ≤ L[i].w by omega)
    obtain ⟨H, hH⟩ := Int.eq_ofNat_of_zero_le (show 0 ≤ L[i].h by omega)
    rw [hW, hH] at hmay f3
    rw [hW, hH, f2] at ht
    simp only [Int.toNat_natCast] at ht
    refine o_clear (n := n) (hi.grw (Grw.push _ _)) hab f3 hmay (by omega) (by omega) fun s5 h5 k5 => ?_
    simp only [evf,↓evp,evq,evr,fxa0,fxa1,fxa2,fxa3,fxa4,fxu,fxn,fxl,↓fxp,lgc,absL,fitL,flatL,ares,ares1,ofVal,unSc,aload,afill,splice,abound,asI,elems,IntKind.bits,sortT,eqNil,closedL,allByte,patch,pendOK,numA,Value.cells,Value.oneCell',ibin,List.replicate,Option.elim,Nat.reduceAdd,Nat.reduceSub,Nat.reduceMul,Nat.reduceLT,Nat.reduceEqDiff,Nat.reduceLeDiff,Nat.reduceBEq,Int.reduceLE,Int.reduceLT,Int.reduceToNat,Int.reduceBNe,Int.reduceBEq,Int.reduceNeg,Int.reduceEq,Int.reduceNe,Nat.reduceBNe,Int.reduceAdd,Int.reduceSub,Int.reduceMul,Int.reducePow,Nat.reducePow,Int.reduceGT,Int.reduceGE,if_true,if_false,ite_true,ite_false,beq_self_eq_true,BEq.rfl,reduceCtorEq,eq_self,ne_eq,Function.comp_def,beq_iff_eq]
    exact h0 _ _ _ h5 ht fun j o ja jb h => k5 j o ja jb (Grw.push _ _ _ _ h)
set_option maxHeartbeats 4000000 in
theorem o_Move (hr : Rel us os L) (hi : Ix st ix a b us os) (hab : a ≠ b) (hm : 4 < m)
    (hN : placeI id L 0 = -1 → ∀ s, Grw st s → K (.sc (.int .i64 4)) s)
    (hA : ∀ i (hi : i < L.length), placeI id L 0 = i → L[i].id = id → mayB x y L[i].w L[i].h = false → ∀ s, Grw st s → K (.sc (.int .i64 1)) s)
    (hB : ∀ i (hi : i < L.length), placeI id L 0 = i → L[i].id = id → mayB x y L[i].w L[i].h = true → (L.any fun p => p.id != id && meetsR x y L[i].w L[i].h p) = true → ∀ s, Grw st s → K (.sc (.int .i64 6)) s)
    (h0 : ∀ i (hi : i < L.length), placeI id L 0 = i → L[i].id = id → mayB x y L[i].w L[i].h = true → (L.any fun p => p.id != id && meetsR x y L[i].w L[i].h p) = false → ∀ us' os' s, Ix s ix a b us' os' → Rel us' os' (L.set i (mvU L[i] x y)) → Kp a b st s → K (.sc (.int .i64 0)) s) :
    acallF Try.prog pl (n + 7) m 19 [.ref ix 0, .sc (.int .i64 id), .agg (cl x y)] st K := by
  refine acallF_inF Try.func19 rfl rfl Try.ntmps19 (by simp) ?_
  obtain ⟨s1, hs1⟩ : ∃ s1, s1 = st ++ [Ob.cells (cl x y)] := ⟨_, rfl⟩
  have g1 : Grw st s1 := by rw [hs1]; exact .push _ _
  have c1 : s1[st.length]? = some (.cells (cl x y)) := by rw [hs1]; exact get_new0 _ _
  have hi1 := hi.grw g1
  have i1 := hi1.ix
  have l1 : s1.length = st.length + 1 := by rw [hs1]; simp
  simp only [cl] at hs1 c1
  simp only [cl, evf,↓evp,evq,evr,fxa0,fxa1,fxa2,fxa3,fxa4,fxu,fxn,fxl,↓fxp,lgc,absL,fitL,flatL,ares,ares1,ofVal,unSc,aload,afill,splice,abound,asI,elems,IntKind.bits,sortT,eqNil,closedL,allByte,patch,pendOK,numA,Value.cells,Value.oneCell',ibin,List.replicate,Option.elim,Nat.reduceAdd,Nat.reduceSub,Nat.reduceMul,Nat.reduceLT,Nat.reduceEqDiff,Nat.reduceLeDiff,Nat.reduceBEq,Int.reduceLE,Int.reduceLT,Int.reduceToNat,Int.reduceBNe,Int.reduceBEq,Int.reduceNeg,Int.reduceEq,Int.reduceNe,Nat.reduceBNe,Int.reduceAdd,Int.reduceSub,Int.reduceMul,Int.reducePow,Nat.reducePow,Int.reduceGT,Int.reduceGE,if_true,if_false,ite_true,ite_false,beq_self_eq_true,BEq.rfl,reduceCtorEq,eq_self,ne_eq,Function.comp_def,beq_iff_eq]
  rw [← hs1]
  refine o_is1 (n := n + 5) hi1 ?_
  have look := lk_int (e := 34) (z := .agg (rc 0 0 0 0)) Try.underlying59 (by kernel_rfl) hi1.us id
  simp only [rc] at look
  rcases hr.find id with ⟨f1, f2⟩ | ⟨i, hil, f1, f2, f3⟩
  · simp only [f1] at look
    simp only [i1, look, evf,↓evp,evq,evr,fxa0,fxa1,fxa2,fxa3,fxa4,fxu,fxn,fxl,↓fxp,lgc,absL,fitL,flatL,ares,ares1,ofVal,unSc,aload,afill,splice,abound,asI,elems,IntKind.bits,sortT,eqNil,closedL,allByte,patch,pendOK,numA,Value.cells,Value.oneCell',ibin,List.replicate,Option.elim,Nat.reduceAdd,Nat.reduceSub,Nat.reduceMul,Nat.reduceLT,Nat.reduceEqDiff,Nat.reduceLeDiff,Nat.reduceBEq,Int.reduceLE,Int.reduceLT,Int.reduceToNat,Int.reduceBNe,Int.reduceBEq,Int.reduceNeg,Int.reduceEq,Int.reduceNe,Nat.reduceBNe,Int.reduceAdd,Int.reduceSub,Int.reduceMul,Int.reducePow,Nat.reducePow,Int.reduceGT,Int.reduceGE,if_true,if_false,ite_true,ite_false,beq_self_eq_true,BEq.rfl,reduceCtorEq,eq_self,ne_eq,Function.comp_def,beq_iff_eq]
    exact hN f2 _ (g1.trans (Grw.push _ _))
  have hA := hA i hil f1 f2
  have hB := hB i hil f1 f2
  have h0 := h0 i hil f1 f2
  have hv := hr.val _ (List.getElem_mem hil)
  obtain ⟨hmay, v1, v2, v3, v4⟩ := val_facts hv
  have hmv := hr.move i hil x y
  rw [f2] at hmv
  simp only [f3, rc] at look
  obtain ⟨W, hW⟩ := Int.eq_ofNat_of_zero_le (show 0 ≤ L[i].w by omega)
  obtain ⟨H, hH⟩ := Int.eq_ofNat_of_zero_le (show 0 ≤ L[i].h by omega)
  simp only [hW, hH, Int.toNat_natCast] at look hA hB h0 hmv v1 v2 v3 v4 f3 hmay
  obtain ⟨s2, hs2⟩ : ∃ s2, s2 = s1 ++ [Ob.cells [.sc (.int .i64 x), .sc (.int .i64 y), .sc (.int .i64 W), .sc (.int .i64 H)]] := ⟨_, rfl⟩
  have g2 : Grw st s2 := by rw [hs2]; exact g1.trans (.push _ _)
  have r2 : s2[s1.length]? = some (.cells [.sc (.int .i64 x), .sc (.int .i64 y), .sc (.int .i64 W), .sc (.int .i64 H)]) := by rw [hs2]; exact get_new0 _ _
  have hi2 := hi.grw g2
  have i2 := hi2.ix
  have c1X := fun X => Grw.push s1 X _ _ c1
  simp only [i1, look, c1X, get_new, get_new0, M.set_new, M.set_new0, evf,↓evp,evq,evr,fxa0,fxa1,fxa2,fxa3,fxa4,fxu,fxn,fxl,↓fxp,lgc,absL,fitL,flatL,ares,ares1,ofVal,unSc,aload,afill,splice,abound,asI,elems,IntKind.bits,sortT,eqNil,closedL,allByte,patch,pendOK,numA,Value.cells,Value.oneCell',ibin,List.replicate,Option.elim,Nat.reduceAdd,Nat.reduceSub,Nat.reduceMul,Nat.reduceLT,Nat.reduceEqDiff,Nat.reduceLeDiff,Nat.reduceBEq,Int.reduceLE,Int.reduceLT,Int.reduceToNat,Int.reduceBNe,Int.reduceBEq,Int.reduceNeg,Int.reduceEq,Int.reduceNe,Nat.reduceBNe,Int.reduceAdd,Int.reduceSub,Int.reduceMul,Int.reducePow,Nat.reducePow,Int.reduceGT,Int.reduceGE,if_true,if_false,ite_true,ite_false,beq_self_eq_true,BEq.rfl,reduceCtorEq,eq_self,ne_eq,Function.comp_def,beq_iff_eq]
  rw [← hs2]
  refine c_May (n := n + 3) fun s3 g3 => ?_
  have r3 := g3 _ _ r2
  have hi3 := hi2.grw g3
  cases e1 : mayB x y W H
  case false =>
    simp only [r3, evf,↓evp,evq,evr,fxa0,fxa1,fxa2,fxa3,fxa4,fxu,fxn,fxl,↓fxp,lgc,absL,fitL,flatL,ares,ares1,ofVal,unSc,aload,afill,splice,abound,asI,elems,IntKind.bits,sortT,eqNil,closedL,allByte,patch,pendOK,numA,Value.cells,Value.oneCell',ibin,List.replicate,Option.elim,Nat.reduceAdd,Nat.reduceSub,Nat.reduceMul,Nat.reduceLT,Nat.reduceEqDiff,Nat.reduceLeDiff,Nat.reduceBEq,Int.reduceLE,Int.reduceLT,Int.reduceToNat,Int.reduceBNe,Int.reduceBEq,Int.reduceNeg,Int.reduceEq,Int.reduceNe,Nat.reduceBNe,Int.reduceAdd,Int.reduceSub,Int.reduceMul,Int.reducePow,Nat.reducePow,Int.reduceGT,Int.reduceGE,if_true,if_false,ite_true,ite_false,beq_self_eq_true,BEq.rfl,reduceCtorEq,eq_self,ne_eq,Function.comp_def,beq_iff_eq]
    exact hA e1 _ (g2.trans g3)
  have hB := hB e1
  have h0 := h0 e1
  have hWH : W * H ≤ 64 := Nat.le_trans (Nat.mul_le_mul (show W ≤ 4 by omega) (show H ≤ 4 by omega)) (by decide)
  have me := hr.meets (fun i => i != id) e1 (show W ≤ 4 by omega) (show H ≤ 4 by omega)
  simp only [r3, evf,↓evp,evq,evr,fxa0,fxa1,fxa2,fxa3,fxa4,fxu,fxn,fxl,↓fxp,lgc,absL,fitL,flatL,ares,ares1,ofVal,unSc,aload,afill,splice,abound,asI,elems,IntKind.bits,sortT,eqNil,closedL,allByte,patch,pendOK,numA,Value.cells,Value.oneCell',ibin,List.replicate,Option.elim,Nat.reduceAdd,Nat.reduceSub,Nat.reduceMul,Nat.reduceLT,Nat.reduceEqDiff,Nat.reduceLeDiff,Nat.reduceBEq,Int.reduceLE,Int.reduceLT,Int.reduceToNat,Int.reduceBNe,Int.reduceBEq,Int.reduceNeg,Int.reduceEq,Int.reduceNe,Nat.reduceBNe,Int.reduceAdd,Int.reduceSub,Int.reduceMul,Int.reducePow,Nat.reducePow,Int.reduceGT,Int.reduceGE,if_true,if_false,ite_true,ite_false,beq_self_eq_true,BEq.rfl,reduceCtorEq,eq_self,ne_eq,Function.comp_def,beq_iff_eq]
  refine o_Free1 (n := n) hr.int hi3 hWH (by omega) (by omega) fun s4 g4 => ?_
  have r4 := g4 _ _ r3
  have hi4 := hi3.grw g4
  rw [me, e1]
  cases e2 : L.any fun p => p.id != id && meetsR x y W H p
  case true =>
    simp only [Bool.not_true, Bool.and_false, evf,↓evp,evq,evr,fxa0,fxa1,fxa2,fxa3,fxa4,fxu,fxn,fxl,↓fxp,lgc,absL,fitL,flatL,ares,ares1,ofVal,unSc,aload,afill,splice,abound,asI,elems,IntKind.bits,sortT,eqNil,closedL,allByte,patch,pendOK,numA,Value.cells,Value.oneCell',ibin,List.replicate,Option.elim,Nat.reduceAdd,Nat.reduceSub,Nat.reduceMul,Nat.reduceLT,Nat.reduceEqDiff,Nat.reduceLeDiff,Nat.reduceBEq,Int.reduceLE,Int.reduceLT,Int.reduceToNat,Int.reduceBNe,Int.reduceBEq,Int.reduceNeg,Int.reduceEq,Int.reduceNe,Nat.reduceBNe,Int.reduceAdd,Int.reduceSub,Int.reduceMul,Int.reducePow,Nat.reducePow,Int.reduceGT,Int.reduceGE,if_true,if_false,ite_true,ite_false,beq_self_eq_true,BEq.rfl,reduceCtorEq,eq_self,ne_eq,Function.comp_def,beq_iff_eq]
    exact hB e2 _ ((g2.trans g3).trans g4)
  have h0 := h0 e2
  simp only [Bool.not_false, Bool.and_self, evf,↓evp,evq,evr,fxa0,fxa1,fxa2,fxa3,fxa4,fxu,fxn,fxl,↓fxp,lgc,absL,fitL,flatL,ares,ares1,ofVal,unSc,aload,afill,splice,abound,asI,elems,IntKind.bits,sortT,eqNil,closedL,allByte,patch,pendOK,numA,Value.cells,Value.oneCell',ibin,List.replicate,Option.elim,Nat.reduceAdd,Nat.reduceSub,Nat.reduceMul,Nat.reduceLT,Nat.reduceEqDiff,Nat.reduceLeDiff,Nat.reduceBEq,Int.reduceLE,Int.reduceLT,Int.reduceToNat,Int.reduceBNe,Int.reduceBEq,Int.reduceNeg,Int.reduceEq,Int.reduceNe,Nat.reduceBNe,Int.reduceAdd,Int.reduceSub,Int.reduceMul,Int.reducePow,Nat.reducePow,Int.reduceGT,Int.reduceGE,if_true,if_false,ite_true,ite_false,beq_self_eq_true,BEq.rfl,reduceCtorEq,eq_self,ne_eq,Function.comp_def,beq_iff_eq]
  refine o_clear (n := n + 1) hi4 hab f3 hmay (by omega) (by omega) fun s5 h5 k5 => ?_
  have r5 := k5 _ _ (fun hh => by have := hi4.us; rw [← hh, r4] at this; cases this) (fun hh => by have := hi4.os; rw [← hh, r4] at this; cases this) r4
  simp only [r5, evf,↓evp,evq,evr,fxa0,fxa1,fxa2,fxa3,fxa4,fxu,fxn,fxl,↓fxp,lgc,absL,fitL,flatL,ares,ares1,ofVal,unSc,aload,afill,splice,abound,asI,elems,IntKind.bits,sortT,eqNil,closedL,allByte,patch,pendOK,numA,Value.cells,Value.oneCell',ibin,List.replicate,Option.elim,Nat.reduceAdd,Nat.reduceSub,Nat.reduceMul,Nat.reduceLT,Nat.reduceEqDiff,Nat.reduceLeDiff,Nat.reduceBEq,Int.reduceLE,Int.reduceLT,Int.reduceToNat,Int.reduceBNe,Int.reduceBEq,Int.reduceNeg,Int.reduceEq,Int.reduceNe,Nat.reduceBNe,Int.reduceAdd,Int.reduceSub,Int.reduceMul,Int.reducePow,Nat.reducePow,Int.reduceGT,Int.reduceGE,if_true,if_false,ite_true,ite_false,beq_self_eq_true,BEq.rfl,reduceCtorEq,eq_self,ne_eq,Function.comp_def,beq_iff_eq]
  refine o_set (n := n + 1) h5 hab e1 (by omega) (by omega) fun s6 h6 k6 => ?_
  simp only [evf,↓evp,evq,evr,fxa0,fxa1,fxa2,fxa3,fxa4,fxu,fxn,fxl,↓fxp,lgc,absL,fitL,flatL,ares,ares1,ofVal,unSc,aload,afill,splice,abound,asI,elems,IntKind.bits,sortT,eqNil,closedL,allByte,patch,pendOK,numA,Value.cells,Value.oneCell',ibin,List.replicate,Option.elim,Nat.reduceAdd,Nat.reduceSub,Nat.reduceMul,Nat.reduceLT,Nat.reduceEqDiff,Nat.reduceLeDiff,Nat.reduceBEq,Int.reduceLE,Int.reduceLT,Int.reduceToNat,Int.reduceBNe,Int.reduceBEq,Int.reduceNeg,Int.reduceEq,Int.reduceNe,Nat.reduceBNe,Int.reduceAdd,Int.reduceSub,Int.reduceMul,Int.reducePow,Nat.reducePow,Int.reduceGT,Int.reduceGE,if_true,if_false,ite_true,ite_false,beq_self_eq_true,BEq.rfl,reduceCtorEq,eq_self,ne_eq,Function.comp_def,beq_iff_eq]
  have hv2 : valB (mvU L[i] x y) = true := by
    simp only [valB, mvU, hW, hH, e1, Bool.true_and, Bool.and_eq_true, decide_eq_true_eq]; omega
  refine h0 _ _ _ h6 (hmv hv2 ?_) fun j o ja jb ho => k6 _ _ ja jb (k5 _ _ ja jb (g4 _ _ (g3 _ _ (g2 _ _ ho))))
  rintro ⟨p, hp, hne, hab'⟩
  have hm2 := (meet_in hv2 (hr.val p hp)).2 hab'
  rw [Bool.eq_false_iff] at e2
  refine e2 (List.any_eq_true.2 ⟨p, hp, ?_⟩)
  simp only [mvU, hW, hH] at hm2
  simp only [meetsR, hm2, Bool.and_true]
  simpa using hne
end
end Go.Proofs.Ytgmccnnjpejigaa
