/- Chapter 5, the plain law: what the index's maps hold, and the document's list. -/
import Derived.Test.YtgmccnnjpejigaaB21
set_option linter.unusedVariables false
set_option linter.unusedSimpArgs false
set_option maxRecDepth 10000
namespace Go.Proofs.Ytgmccnnjpejigaa
open Go Go.M Go.RowKit
attribute [local congr] acallF_cong aloop_cong bcase_cong resK_cong valK_cong wantK_cong callK_cong xputK_cong qputK_cong resM_cong rfK_cong
attribute [local irreducible] seqK blockK loopK nextK bcase resK valK wantK funK putK dputK xputK qputK callK aops aop acode adraw aloop acallF acall invK resM rfK rfEnd rdEnd rdMid around
theorem placeI_spec (id : Int) : ∀ (L : List U) (j : Nat), (placeI id L j = -1 ∧ ∀ u ∈ L, u.id ≠ id) ∨ ∃ i, ∃ h : i < L.length, placeI id L j = ((j + i : Nat) : Int) ∧ L[i].id = id
  | [], j => .inl ⟨rfl, by simp⟩
  | u :: L, j => by
    simp only [placeI]
    by_cases h : u.id = id
    · refine .inr ⟨0, by simp, ?_, ?_⟩
      · simp [h]
      · simpa using h
    · have h' : (u.id == id) = false := by simpa using h
      rw [h']
      simp only [Bool.false_eq_true, if_false]
      rcases placeI_spec id L (j + 1) with ⟨h1, h2⟩ | ⟨i, hi, h1, h2⟩
      · refine .inl ⟨h1, fun v hv => ?_⟩
        rcases List.mem_cons.1 hv with rfl | hv
        · exact h
        · exact h2 v hv
      · exact .inr ⟨i + 1, by simpa using hi, by rw [h1]; omega, by simpa using h2⟩
def inU (u : U) (a b : Int) : Prop := u.x ≤ a ∧ a ≤ u.x + u.w - 1 ∧ u.y ≤ b ∧ b ≤ u.y + u.h - 1
theorem cellq (x y a b : Int) (W H : Nat) (hW : 0 < W) : (∃ q, q < H * W ∧ a = x + (q % W : Nat) ∧ b = y + (q / W : Nat)) ↔ (x ≤ a ∧ a ≤ x + W - 1 ∧ y ≤ b ∧ b ≤ y + H - 1) := by
  constructor
  · rintro ⟨q, hq, rfl, rfl⟩
    have h1 := Nat.mod_lt q hW
    have h2 : q / W < H := Nat.div_lt_of_lt_mul (by rw [Nat.mul_comm]; exact hq)
    generalize q / W = d at h2 ⊢
    generalize q % W = e at h1 ⊢
    clear hq
    omega
  · rintro ⟨h1, h2, h3, h4⟩
    obtain ⟨i, hi⟩ := Int.eq_ofNat_of_zero_le (show 0 ≤ a - x by omega)
    obtain ⟨j, hj⟩ := Int.eq_ofNat_of_zero_le (show 0 ≤ b - y by omega)
    have hiW : i < W := by omega
    have hjH : j < H := by omega
    refine ⟨j * W + i, ?_, ?_, ?_⟩
    · have := Nat.mul_le_mul_right W (show j + 1 ≤ H from hjH)
      rw [Nat.add_mul, Nat.one_mul] at this
      omega
    · rw [show (j * W + i) % W = i by rw [Nat.mul_comm, Nat.mul_add_mod, Nat.mod_eq_of_lt hiW]]; omega
    · rw [show (j * W + i) / W = j by rw [Nat.mul_comm, Nat.mul_add_div hW, Nat.div_eq_of_lt hiW, Nat.add_zero]]; omega
section
variable {os : List ((Int × Int) × V)} {x y a b : Int} {W : Nat} {v : V}
theorem fill_in : ∀ k, (∃ q, q < k ∧ a = x + (q % W : Nat) ∧ b = y + (q / W : Nat)) → getC (a, b) (fillC v x y W os k) = some v
  | 0, ⟨q, h, _⟩ => by omega
  | k + 1, ⟨q, hq, ha, hb⟩ => by
    simp only [fillC]
    rw [getC_putC]
    split
    · rfl
    · rename_i h
      refine fill_in k ⟨q, ?_, ha, hb⟩
      rcases Nat.lt_or_ge q k with h1 | h1
      · exact h1
      · obtain rfl : q = k := by omega
        exact absurd (by simp [ha, hb]) h
theorem fill_out : ∀ k, (¬ ∃ q, q < k ∧ a = x + (q % W : Nat) ∧ b = y + (q / W : Nat)) → getC (a, b) (fillC v x y W os k) = getC (a, b) os
  | 0, _ => rfl
  | k + 1, h => by
    simp only [fillC]
    rw [getC_putC, if_neg, fill_out k (fun ⟨q, h1, h2⟩ => h ⟨q, by omega, h2⟩)]
    intro hh
    simp only [Bool.and_eq_true, beq_iff_eq] at hh
    exact h ⟨k, by omega, hh.1, hh.2⟩
theorem nd_fill : ∀ k, ndC os → ndC (fillC v x y W os k)
  | 0, h => h
  | k + 1, h => by simp only [fillC]; exact ndC_putC _ _ (nd_fill k h)
theorem nd_cut : ∀ k, ndC os → ndC (cutC x y W os k)
  | 0, h => h
  | k + 1, h => by simp only [cutC]; exact ndC_delC _ (nd_cut k h)
theorem cut_in (hn : ndC os) : ∀ k, (∃ q, q < k ∧ a = x + (q % W : Nat) ∧ b = y + (q / W : Nat)) → getC (a, b) (cutC x y W os k) = none
  | 0, ⟨q, h, _⟩ => by omega
  | k + 1, ⟨q, hq, ha, hb⟩ => by
    simp only [cutC]
    rw [getC_delC _ _ (nd_cut k hn)]
    split
    · rfl
    · rename_i h
      refine cut_in hn k ⟨q, ?_, ha, hb⟩
      rcases Nat.lt_or_ge q k with h1 | h1
      · exact h1
      · obtain rfl : q = k := by omega
        exact absurd (by simp [ha, hb]) h
theorem cut_out (hn : ndC os) : ∀ k, (¬ ∃ q, q < k ∧ a = x + (q % W : Nat) ∧ b = y + (q / W : Nat)) → getC (a, b) (cutC x y W os k) = getC (a, b) os
  | 0, _ => rfl
  | k + 1, h => by
    simp only [cutC]
    rw [getC_delC _ _ (nd_cut k hn), if_neg, cut_out hn k (fun ⟨q, h1, h2⟩ => h ⟨q, by omega, h2⟩)]
    intro hh
    simp only [Bool.and_eq_true, beq_iff_eq] at hh
    exact h ⟨k, by omega, hh.1, hh.2⟩
end
def valB (u : U) : Bool := mayB u.x u.y u.w u.h && decide (u.w ≤ 4) && decide (u.h ≤ 4)
theorem val_facts {u : U} (h : valB u = true) : mayB u.x u.y u.w u.h = true ∧ 1 ≤ u.w ∧ 1 ≤ u.h ∧ u.w ≤ 4 ∧ u.h ≤ 4 := by
  simp only [valB, Bool.and_eq_true, decide_eq_true_eq] at h
  obtain ⟨_, _, h5, h6, _⟩ := may_facts h.1.1
  exact ⟨h.1.1, h5.1, h6.1, h.1.2, h.2⟩
/-- The program's maps hold just these buildings. -/
structure Rel (us : List (Int × V)) (os : List ((Int × Int) × V)) (L : List U) : Prop where
  ni : ndI us
  nc : ndC os
  val : ∀ u ∈ L, valB u = true
  ids : (L.map U.id).Nodup
  gu : ∀ i v, getI i us = some v ↔ ∃ u ∈ L, u.id = i ∧ v = .agg (rc u.x u.y u.w u.h)
  go : ∀ a b v, getC (a, b) os = some v ↔ ∃ u ∈ L, inU u a b ∧ v = .sc (.int .i64 u.id)
  len : us.length = L.length
theorem Rel.nil : Rel [] [] [] := ⟨by simp [ndI], by simp [ndC], by simp, by simp, by simp [getI_nil], by simp [getC_nil], rfl⟩
section
variable {us : List (Int × V)} {os : List ((Int × Int) × V)} {L : List U}
theorem isSome_of {α : Type} {o : Option α} : o.isSome = true ↔ ∃ v, o = some v := Option.isSome_iff_exists
theorem Rel.hits (h : Rel us os L) (sb : Int → Bool) (x y : Int) (W H : Nat) (hW : 0 < W) : anyB sb os x y W (H * W) = true ↔ ∃ p ∈ L, sb p.id = true ∧ ∃ a b, inU p a b ∧ (x ≤ a ∧ a ≤ x + W - 1 ∧ y ≤ b ∧ b ≤ y + H - 1) := by
  simp only [anyB, List.any_eq_true, List.mem_range]
  constructor
  · rintro ⟨q, hq, hs⟩
    unfold hitB at hs
    cases hg : getC (x + ((q % W : Nat) : Int), y + ((q / W : Nat) : Int)) os with
    | none => rw [hg] at hs; cases hs
    | some v =>
      obtain ⟨p, hp, hin, rfl⟩ := (h.go _ _ _).1 hg
      rw [hg] at hs
      exact ⟨p, hp, hs, _, _, hin, (cellq x y _ _ W H hW).1 ⟨q, hq, rfl, rfl⟩⟩
  · rintro ⟨p, hp, hsb, a, b, h3, h4⟩
    obtain ⟨q, hq, ha, hb⟩ := (cellq x y a b W H hW).2 h4
    refine ⟨q, hq, ?_⟩
    have := (h.go a b _).2 ⟨p, hp, h3, rfl⟩
    rw [ha, hb] at this
    unfold hitB
    rw [this]
    exact hsb
theorem meet_in {u p : U} (hu : valB u = true) (hp : valB p = true) : meetB p.x p.y p.w p.h u.x u.y u.w u.h = true ↔ ∃ a b, inU p a b ∧ inU u a b := by
  obtain ⟨m1, h1, h2, _⟩ := val_facts hu
  obtain ⟨m2, h3, h4, _⟩ := val_facts hp
  simp only [meetB, m1, m2, Bool.true_and, lapB, Bool.not_eq_true', Bool.or_eq_false_iff, decide_eq_false_iff_not, mn, mx]
  constructor
  · rintro ⟨h5, h6⟩
    have key : ∀ a b c d : Int, a ≤ b → c ≤ d → ¬ ((if d < b then d else b) < (if c > a then c else a)) → (∃ z, a ≤ z ∧ z ≤ b ∧ c ≤ z ∧ z ≤ d) := fun a b c d h1 h2 hh => by
      refine ⟨if c > a then c else a, ?_⟩
      split at hh <;> split at hh <;> (try rw [if_pos (by assumption)]) <;> (try rw [if_neg (by assumption)]) <;> omega
    obtain ⟨a, ha1, ha2, ha3, ha4⟩ := key p.x (p.x + p.w - 1) u.x (u.x + u.w - 1) (by omega) (by omega) (of_decide_eq_false h5)
    obtain ⟨b, hb1, hb2, hb3, hb4⟩ := key p.y (p.y + p.h - 1) u.y (u.y + u.h - 1) (by omega) (by omega) (of_decide_eq_false h6)
    exact ⟨a, b, ⟨ha1, ha2, hb1, hb2⟩, ⟨ha3, ha4, hb3, hb4⟩⟩
  · rintro ⟨a, b, h5, h6⟩
    simp only [inU] at h5 h6
    constructor <;> refine decide_eq_false ?_ <;> split <;> split <;> omega
theorem plc_some (id : Int) (L : List U) : placeI id L 0 ≥ 0 ↔ ∃ u ∈ L, u.id = id := by
  rcases placeI_spec id L 0 with ⟨h1, h2⟩ | ⟨i, hi, h1, h2⟩
  · rw [h1]
    constructor
    · intro h; omega
    · rintro ⟨u, hu, he⟩; exact absurd he (h2 u hu)
  · rw [h1]
    constructor
    · intro _; exact ⟨L[i], List.getElem_mem hi, h2⟩
    · intro _; omega
theorem nodup_in {α β : Type} {f : α → β} : ∀ {l : List α}, (l.map f).Nodup → ∀ {a b : α}, a ∈ l → b ∈ l → f a = f b → a = b
  | [], _, a, b, ha, _, _ => by simp at ha
  | c :: l, h, a, b, ha, hb, e => by
    rw [List.map_cons, List.nodup_cons] at h
    rcases List.mem_cons.1 ha with rfl | ha' <;> rcases List.mem_cons.1 hb with rfl | hb'
    · rfl
    · exact absurd (List.mem_map.2 ⟨b, hb', e.symm⟩) h.1
    · exact absurd (List.mem_map.2 ⟨a, ha', e⟩) h.1
    · exact nodup_in h.2 ha' hb' e
theorem Rel.put (h : Rel us os L) {u : U} {L' : List U} (hu : valB u = true) (hg : getI u.id us = none) (hno : ¬ ∃ p ∈ L, ∃ a b, inU p a b ∧ inU u a b) (hm : ∀ v, v ∈ L' ↔ v = u ∨ v ∈ L) (hn : (L'.map U.id).Nodup) (hl : L'.length = L.length + 1) :
    Rel (putI u.id (.agg (rc u.x u.y u.w u.h)) us) (fillC (.sc (.int .i64 u.id)) u.x u.y u.w.toNat os (u.h.toNat * u.w.toNat)) L' := by
  obtain ⟨_, h1, h2, _⟩ := val_facts hu
  refine ⟨ndI_putI _ _ h.ni, nd_fill _ h.nc, fun v hv => ?_, hn, fun i v => ?_, fun a b v => ?_, ?_⟩
  · rcases (hm v).1 hv with rfl | hv
    · exact hu
    · exact h.val v hv
  · rw [getI_putI]
    by_cases hi : i = u.id
    · subst hi
      simp only [beq_self_eq_true, if_true, Option.some.injEq]
      constructor
      · rintro rfl; exact ⟨u, (hm u).2 (.inl rfl), rfl, rfl⟩
      · rintro ⟨p, hp, he, rfl⟩
        rcases (hm p).1 hp with rfl | hp
        · rfl
        · have := (h.gu u.id _).2 ⟨p, hp, he, rfl⟩
          rw [hg] at this; cases this
    · rw [if_neg (by simpa using hi), h.gu]
      constructor
      · rintro ⟨p, hp, h3⟩; exact ⟨p, (hm p).2 (.inr hp), h3⟩
      · rintro ⟨p, hp, h3, h4⟩
        rcases (hm p).1 hp with rfl | hp
        · exact absurd h3.symm hi
        · exact ⟨p, hp, h3, h4⟩
  · obtain ⟨W, hW⟩ := Int.eq_ofNat_of_zero_le (show 0 ≤ u.w by omega)
    obtain ⟨H, hH⟩ := Int.eq_ofNat_of_zero_le (show 0 ≤ u.h by omega)
    have hin : (∃ q, q < H * W ∧ a = u.x + (q % W : Nat) ∧ b = u.y + (q / W : Nat)) ↔ inU u a b := by
      rw [cellq u.x u.y a b W H (by omega)]
      simp only [inU, hW, hH]
    simp only [hW, hH, Int.toNat_natCast]
    by_cases hc : inU u a b
    · rw [fill_in _ (hin.2 hc)]
      simp only [Option.some.injEq]
      constructor
      · rintro rfl; exact ⟨u, (hm u).2 (.inl rfl), hc, rfl⟩
      · rintro ⟨p, hp, h3, rfl⟩
        rcases (hm p).1 hp with rfl | hp
        · rfl
        · exact absurd ⟨p, hp, a, b, h3, hc⟩ hno
    · rw [fill_out _ (fun hh => hc (hin.1 hh)), h.go]
      constructor
      · rintro ⟨p, hp, h3⟩; exact ⟨p, (hm p).2 (.inr hp), h3⟩
      · rintro ⟨p, hp, h3, h4⟩
        rcases (hm p).1 hp with rfl | hp
        · exact absurd h3 hc
        · exact ⟨p, hp, h3, h4⟩
  · rw [putI_len, hg, hl, h.len]; rfl
theorem Rel.raze (h : Rel us os L) {u : U} {L' : List U} (hu : u ∈ L) (hm : ∀ v, v ∈ L' ↔ v ≠ u ∧ v ∈ L) (hn : (L'.map U.id).Nodup) (hl : L'.length + 1 = L.length) :
    Rel (delI u.id us) (cutC u.x u.y u.w.toNat os (u.h.toNat * u.w.toNat)) L' := by
  have hv := h.val u hu
  obtain ⟨_, h1, h2, _⟩ := val_facts hv
  have huniq : ∀ p ∈ L, p.id = u.id → p = u := fun p hp he => nodup_in h.ids hp hu he
  refine ⟨ndI_delI _ h.ni, nd_cut _ h.nc, fun v hv => h.val v ((hm v).1 hv).2, hn, fun i v => ?_, fun a b v => ?_, ?_⟩
  · rw [getI_delI _ _ h.ni]
    by_cases hi : i = u.id
    · subst hi
      simp only [beq_self_eq_true, if_true]
      constructor
      · intro hh; cases hh
      · rintro ⟨p, hp, he, _⟩
        obtain ⟨q1, q2⟩ := (hm p).1 hp
        exact absurd (huniq p q2 he) q1
    · rw [if_neg (by simpa using hi), h.gu]
      constructor
      · rintro ⟨p, hp, h3, h4⟩
        exact ⟨p, (hm p).2 ⟨fun hh => hi (by rw [← h3, hh]), hp⟩, h3, h4⟩
      · rintro ⟨p, hp, h3⟩; exact ⟨p, ((hm p).1 hp).2, h3⟩
  · obtain ⟨W, hW⟩ := Int.eq_ofNat_of_zero_le (show 0 ≤ u.w by omega)
    obtain ⟨H, hH⟩ := Int.eq_ofNat_of_zero_le (show 0 ≤ u.h by omega)
    have hin : (∃ q, q < H * W ∧ a = u.x + (q % W : Nat) ∧ b = u.y + (q / W : Nat)) ↔ inU u a b := by
      rw [cellq u.x u.y a b W H (by omega)]
      simp only [inU, hW, hH]
    simp only [hW, hH, Int.toNat_natCast]
    by_cases hc : inU u a b
    · rw [cut_in h.nc _ (hin.2 hc)]
      constructor
      · intro hh; cases hh
      · rintro ⟨p, hp, h3, rfl⟩
        obtain ⟨q1, q2⟩ := (hm p).1 hp
        have e1 := (h.go a b _).2 ⟨p, q2, h3, rfl⟩
        have e2 := (h.go a b _).2 ⟨u, hu, hc, rfl⟩
        rw [e1] at e2
        simp only [Option.some.injEq, V.sc.injEq, Value.int.injEq, true_and] at e2
        exact absurd (huniq p q2 e2) q1
    · rw [cut_out h.nc _ (fun hh => hc (hin.1 hh)), h.go]
      constructor
      · rintro ⟨p, hp, h3, h4⟩
        exact ⟨p, (hm p).2 ⟨fun hh => hc (by rw [← hh]; exact h3), hp⟩, h3, h4⟩
      · rintro ⟨p, hp, h3⟩; exact ⟨p, ((hm p).1 hp).2, h3⟩
  · have := delI_len u.id (l := us) (isSome_of.2 ⟨_, (h.gu _ _).2 ⟨u, hu, rfl, rfl⟩⟩)
    rw [h.len] at this
    omega
end
end Go.Proofs.Ytgmccnnjpejigaa
