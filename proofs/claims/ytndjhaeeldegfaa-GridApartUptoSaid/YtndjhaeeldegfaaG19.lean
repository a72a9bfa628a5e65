/- Chapter 4, the plain law: what the program's maps hold, and the document's list. -/
import Derived.Test.YtndjhaeeldegfaaG18
set_option linter.unusedVariables false
set_option linter.unusedSimpArgs false
set_option maxRecDepth 10000
namespace Go.Proofs.Ytndjhaeeldegfaa
open Go Go.M Go.RowKit
attribute [local congr] acallF_cong aloop_cong bcase_cong resK_cong valK_cong wantK_cong callK_cong xputK_cong qputK_cong resM_cong rfK_cong
attribute [local irreducible] seqK blockK loopK nextK bcase resK valK wantK funK putK dputK xputK qputK callK aops aop acode adraw aloop acallF acall invK resM rfK rfEnd rdEnd rdMid around
def inU (u : B4) (a b : Int) : Prop := u.x ≤ a ∧ a ≤ u.x + u.w - 1 ∧ u.y ≤ b ∧ b ≤ u.y + u.h - 1
theorem cellq (x y a b : Int) (W H : Nat) (hW : 0 < W) : (∃ q, q < H * W ∧ a = x + (q % W : Nat) ∧ b = y + (q / W : Nat)) ↔ (x ≤ a ∧ a ≤ x + W - 1 ∧ y ≤ b ∧ b ≤ y + H - 1) := by
  constructor
  · rintro ⟨q, hq, rfl, rfl⟩
    have h1 := Nat.mod_lt q hW
    have h2 : q / W < H := Nat.div_lt_of_lt_mul (by rw [Nat.mul_comm]; exact hq)
    generalize q / W = d at h2 ⊢
    generalize q % W = e at h1 ⊢
    clear hq
    omega
  · rintro ⟨h1, h2, h3, h4⟩
    obtain ⟨i, hi⟩ := Int.eq_ofNat_of_zero_le (show 0 ≤ a - x by omega)
    obtain ⟨j, hj⟩ := Int.eq_ofNat_of_zero_le (show 0 ≤ b - y by omega)
    have hiW : i < W := by omega
    have hjH : j < H := by omega
    refine ⟨j * W + i, ?_, ?_, ?_⟩
    · have := Nat.mul_le_mul_right W (show j + 1 ≤ H from hjH)
      rw [Nat.add_mul, Nat.one_mul] at this
      omega
    · rw [show (j * W + i) % W = i by rw [Nat.mul_comm, Nat.mul_add_mod, Nat.mod_eq_of_lt hiW]]; omega
    · rw [show (j * W + i) / W = j by rw [Nat.mul_comm, Nat.mul_add_div hW, Nat.div_eq_of_lt hiW, Nat.add_zero]]; omega
section
variable {os : List ((Int × Int) × V)} {x y a b : Int} {W : Nat} {v : V}
theorem fill_in : ∀ k, (∃ q, q < k ∧ a = x + (q % W : Nat) ∧ b = y + (q / W : Nat)) → getC (a, b) (fillC v x y W os k) = some v
  | 0, ⟨q, h, _⟩ => by omega
  | k + 1, ⟨q, hq, ha, hb⟩ => by
    simp only [fillC]
    rw [getC_putC]
    split
    · rfl
    · rename_i h
      refine fill_in k ⟨q, ?_, ha, hb⟩
      rcases Nat.lt_or_ge q k with h1 | h1
      · exact h1
      · obtain rfl : q = k := by omega
        exact absurd (by simp [ha, hb]) h
theorem fill_out : ∀ k, (¬ ∃ q, q < k ∧ a = x + (q % W : Nat) ∧ b = y + (q / W : Nat)) → getC (a, b) (fillC v x y W os k) = getC (a, b) os
  | 0, _ => rfl
  | k + 1, h => by
    simp only [fillC]
    rw [getC_putC, if_neg, fill_out k (fun ⟨q, h1, h2⟩ => h ⟨q, by omega, h2⟩)]
    intro hh
    simp only [Bool.and_eq_true, beq_iff_eq] at hh
    exact h ⟨k, by omega, hh.1, hh.2⟩
theorem nd_fill : ∀ k, ndC os → ndC (fillC v x y W os k)
  | 0, h => h
  | k + 1, h => by simp only [fillC]; exact ndC_putC _ _ (nd_fill k h)
theorem nd_cut : ∀ k, ndC os → ndC (cutC x y W os k)
  | 0, h => h
  | k + 1, h => by simp only [cutC]; exact ndC_delC _ (nd_cut k h)
theorem cut_in (hn : ndC os) : ∀ k, (∃ q, q < k ∧ a = x + (q % W : Nat) ∧ b = y + (q / W : Nat)) → getC (a, b) (cutC x y W os k) = none
  | 0, ⟨q, h, _⟩ => by omega
  | k + 1, ⟨q, hq, ha, hb⟩ => by
    simp only [cutC]
    rw [getC_delC _ _ (nd_cut k hn)]
    split
    · rfl
    · rename_i h
      refine cut_in hn k ⟨q, ?_, ha, hb⟩
      rcases Nat.lt_or_ge q k with h1 | h1
      · exact h1
      · obtain rfl : q = k := by omega
        exact absurd (by simp [ha, hb]) h
theorem cut_out (hn : ndC os) : ∀ k, (¬ ∃ q, q < k ∧ a = x + (q % W : Nat) ∧ b = y + (q / W : Nat)) → getC (a, b) (cutC x y W os k) = getC (a, b) os
  | 0, _ => rfl
  | k + 1, h => by
    simp only [cutC]
    rw [getC_delC _ _ (nd_cut k hn), if_neg, cut_out hn k (fun ⟨q, h1, h2⟩ => h ⟨q, by omega, h2⟩)]
    intro hh
    simp only [Bool.and_eq_true, beq_iff_eq] at hh
    exact h ⟨k, by omega, hh.1, hh.2⟩
end
def valB (WW HH : Int) (u : B4) : Bool := bmayB u.id u.x u.y u.w u.h WW HH
theorem val_facts {WW HH : Int} {u : B4} (h : valB WW HH u = true) : mayB u.x u.y u.w u.h = true ∧ 1 ≤ u.w ∧ 1 ≤ u.h ∧ u.w ≤ 8 ∧ u.h ≤ 8 ∧ 1 ≤ u.id := by
  obtain ⟨h1, h2, h3, h4, _⟩ := bmay_may h
  obtain ⟨_, _, h5, h6, _⟩ := may_facts h1
  exact ⟨h1, h5.1, h6.1, h2, h3, h4⟩
theorem has_in {WW HH : Int} {u : B4} (h : valB WW HH u = true) (a b : Int) : hasU a b u = true ↔ inU u a b := by
  obtain ⟨h1, _⟩ := val_facts h
  simp only [hasU, hasB, h1, Bool.true_and, inB, inU, Bool.and_eq_true, decide_eq_true_eq]
  omega
/-- The program's maps hold just these buildings. -/
structure Rel (WW HH : Int) (us : List (Int × V)) (os : List ((Int × Int) × V)) (L : List B4) : Prop where
  ni : ndI us
  nc : ndC os
  val : ∀ u ∈ L, valB WW HH u = true
  ids : (L.map B4.id).Nodup
  gu : ∀ i v, getI i us = some v ↔ ∃ u ∈ L, u.id = i ∧ v = .agg (rc u.x u.y u.w u.h)
  go : ∀ a b v, getC (a, b) os = some v ↔ ∃ u ∈ L, inU u a b ∧ v = .sc (.int .i64 u.id)
  len : us.length = L.length
theorem Rel.nil (WW HH : Int) : Rel WW HH [] [] [] := ⟨by simp [ndI], by simp [ndC], by simp, by simp, by simp [getI_nil], by simp [getC_nil], rfl⟩
section
variable {WW HH : Int} {us : List (Int × V)} {os : List ((Int × Int) × V)} {L : List B4}
theorem isSome_of {α : Type} {o : Option α} : o.isSome = true ↔ ∃ v, o = some v := Option.isSome_iff_exists
theorem Rel.hits (h : Rel WW HH us os L) (u : B4) (hu : valB WW HH u = true) : hitsB os u.x u.y u.w.toNat (u.h.toNat * u.w.toNat) = true ↔ ∃ p ∈ L, ∃ a b, inU p a b ∧ inU u a b := by
  obtain ⟨_, h1, h2, _⟩ := val_facts hu
  obtain ⟨W, hW⟩ := Int.eq_ofNat_of_zero_le (show 0 ≤ u.w by omega)
  obtain ⟨H, hH⟩ := Int.eq_ofNat_of_zero_le (show 0 ≤ u.h by omega)
  simp only [hW, hH, Int.toNat_natCast]
  simp only [hitsB, List.any_eq_true, List.mem_range]
  constructor
  · rintro ⟨q, hq, hs⟩
    obtain ⟨v, hv⟩ := isSome_of.1 hs
    obtain ⟨p, hp, hin, _⟩ := (h.go _ _ _).1 hv
    refine ⟨p, hp, _, _, hin, ?_⟩
    have := (cellq u.x u.y _ _ W H (by omega)).1 ⟨q, hq, rfl, rfl⟩
    simp only [inU, hW, hH]
    omega
  · rintro ⟨p, hp, a, b, h3, h4⟩
    simp only [inU, hW, hH] at h4
    obtain ⟨q, hq, ha, hb⟩ := (cellq u.x u.y a b W H (by omega)).2 (by omega)
    refine ⟨q, hq, isSome_of.2 ⟨_, (h.go _ _ _).2 ⟨p, hp, ?_, rfl⟩⟩⟩
    rw [← ha, ← hb]; exact h3
theorem meet_in {u p : B4} (hu : valB WW HH u = true) (hp : valB WW HH p = true) : meetB p.x p.y p.w p.h u.x u.y u.w u.h = true ↔ ∃ a b, inU p a b ∧ inU u a b := by
  obtain ⟨m1, h1, h2, _⟩ := val_facts hu
  obtain ⟨m2, h3, h4, _⟩ := val_facts hp
  simp only [meetB, m1, m2, Bool.true_and, lapB, Bool.not_eq_true', Bool.or_eq_false_iff, decide_eq_false_iff_not, mn, mx]
  constructor
  · rintro ⟨h5, h6⟩
    have key : ∀ a b c d : Int, a ≤ b → c ≤ d → ¬ ((if d < b then d else b) < (if c > a then c else a)) → (∃ z, a ≤ z ∧ z ≤ b ∧ c ≤ z ∧ z ≤ d) := fun a b c d h1 h2 hh => by
      refine ⟨if c > a then c else a, ?_⟩
      split at hh <;> split at hh <;> (try rw [if_pos (by assumption)]) <;> (try rw [if_neg (by assumption)]) <;> omega
    obtain ⟨a, ha1, ha2, ha3, ha4⟩ := key p.x (p.x + p.w - 1) u.x (u.x + u.w - 1) (by omega) (by omega) (of_decide_eq_false h5)
    obtain ⟨b, hb1, hb2, hb3, hb4⟩ := key p.y (p.y + p.h - 1) u.y (u.y + u.h - 1) (by omega) (by omega) (of_decide_eq_false h6)
    exact ⟨a, b, ⟨ha1, ha2, hb1, hb2⟩, ⟨ha3, ha4, hb3, hb4⟩⟩
  · rintro ⟨a, b, h5, h6⟩
    simp only [inU] at h5 h6
    constructor <;> refine decide_eq_false ?_ <;> split <;> split <;> omega
theorem plc_some (id : Int) (L : List B4) : plcI id L 0 ≥ 0 ↔ ∃ u ∈ L, u.id = id := by
  rcases plcI_spec id L 0 with ⟨h1, h2⟩ | ⟨i, hi, h1, h2⟩
  · rw [h1]
    constructor
    · intro h; omega
    · rintro ⟨u, hu, he⟩; exact absurd he (h2 u hu)
  · rw [h1]
    constructor
    · intro _; exact ⟨L[i], List.getElem_mem hi, h2⟩
    · intro _; omega
theorem Rel.may (h : Rel WW HH us os L) (u : B4) : mayE us os WW HH u.id u.x u.y u.w u.h = mayR L WW HH u.id u.x u.y u.w u.h := by
  unfold mayE mayR
  by_cases e1 : bmayB u.id u.x u.y u.w u.h WW HH = false
  · rw [if_pos e1, if_pos e1]
  rw [if_neg e1, if_neg e1]
  have hu : valB WW HH u = true := by simpa [valB] using e1
  have e2 : (getI u.id us).isSome = true ↔ plcI u.id L 0 ≥ 0 := by
    rw [plc_some, isSome_of]
    constructor
    · rintro ⟨v, hv⟩
      obtain ⟨p, hp, he, _⟩ := (h.gu _ _).1 hv
      exact ⟨p, hp, he⟩
    · rintro ⟨p, hp, he⟩
      exact ⟨_, (h.gu _ _).2 ⟨p, hp, he, rfl⟩⟩
  by_cases q2 : plcI u.id L 0 ≥ 0
  · rw [if_pos (e2.2 q2), if_pos q2]
  rw [if_neg (fun hh => q2 (e2.1 hh)), if_neg q2, h.len]
  by_cases q3 : 256 ≤ L.length
  · rw [if_pos q3, if_pos q3]
  rw [if_neg q3, if_neg q3]
  have e4 : hitsB os u.x u.y u.w.toNat (u.h.toNat * u.w.toNat) = true ↔ L.any (shareB u.x u.y u.w u.h) = true := by
    rw [h.hits u hu, List.any_eq_true]
    constructor
    · rintro ⟨p, hp, a, b, h1, h2⟩
      exact ⟨p, hp, (meet_in hu (h.val p hp)).2 ⟨a, b, h1, h2⟩⟩
    · rintro ⟨p, hp, hm⟩
      obtain ⟨a, b, h1, h2⟩ := (meet_in hu (h.val p hp)).1 hm
      exact ⟨p, hp, a, b, h1, h2⟩
  by_cases q4 : L.any (shareB u.x u.y u.w u.h) = true
  · rw [if_pos (e4.2 q4), if_pos q4]
  · rw [if_neg (fun hh => q4 (e4.1 hh)), if_neg q4]
theorem nodup_in {α β : Type} {f : α → β} : ∀ {l : List α}, (l.map f).Nodup → ∀ {a b : α}, a ∈ l → b ∈ l → f a = f b → a = b
  | [], _, a, b, ha, _, _ => by simp at ha
  | c :: l, h, a, b, ha, hb, e => by
    rw [List.map_cons, List.nodup_cons] at h
    rcases List.mem_cons.1 ha with rfl | ha' <;> rcases List.mem_cons.1 hb with rfl | hb'
    · rfl
    · exact absurd (List.mem_map.2 ⟨b, hb', e.symm⟩) h.1
    · exact absurd (List.mem_map.2 ⟨a, ha', e⟩) h.1
    · exact nodup_in h.2 ha' hb' e
theorem Rel.put (h : Rel WW HH us os L) {u : B4} {L' : List B4} (he : mayE us os WW HH u.id u.x u.y u.w u.h = 0) (hm : ∀ v, v ∈ L' ↔ v = u ∨ v ∈ L) (hn : (L'.map B4.id).Nodup) (hl : L'.length = L.length + 1) :
    Rel WW HH (putI u.id (.agg (rc u.x u.y u.w u.h)) us) (fillC (.sc (.int .i64 u.id)) u.x u.y u.w.toNat os (u.h.toNat * u.w.toNat)) L' := by
  obtain ⟨hu, hg, _, hh⟩ := mayE_zero he
  have hu : valB WW HH u = true := hu
  have hno : ¬ ∃ p ∈ L, ∃ a b, inU p a b ∧ inU u a b := fun hx => by rw [(h.hits u hu).2 hx] at hh; cases hh
  obtain ⟨_, h1, h2, _⟩ := val_facts hu
  refine ⟨ndI_putI _ _ h.ni, nd_fill _ h.nc, fun v hv => ?_, hn, fun i v => ?_, fun a b v => ?_, ?_⟩
  · rcases (hm v).1 hv with rfl | hv
    · exact hu
    · exact h.val v hv
  · rw [getI_putI]
    by_cases hi : i = u.id
    · subst hi
      simp only [beq_self_eq_true, if_true, Option.some.injEq]
      constructor
      · rintro rfl; exact ⟨u, (hm u).2 (.inl rfl), rfl, rfl⟩
      · rintro ⟨p, hp, he, rfl⟩
        rcases (hm p).1 hp with rfl | hp
        · rfl
        · have := (h.gu u.id _).2 ⟨p, hp, he, rfl⟩
          rw [hg] at this; cases this
    · rw [if_neg (by simpa using hi), h.gu]
      constructor
      · rintro ⟨p, hp, h3⟩; exact ⟨p, (hm p).2 (.inr hp), h3⟩
      · rintro ⟨p, hp, h3, h4⟩
        rcases (hm p).1 hp with rfl | hp
        · exact absurd h3.symm hi
        · exact ⟨p, hp, h3, h4⟩
  · obtain ⟨W, hW⟩ := Int.eq_ofNat_of_zero_le (show 0 ≤ u.w by omega)
    obtain ⟨H, hH⟩ := Int.eq_ofNat_of_zero_le (show 0 ≤ u.h by omega)
    have hin : (∃ q, q < H * W ∧ a = u.x + (q % W : Nat) ∧ b = u.y + (q / W : Nat)) ↔ inU u a b := by
      rw [cellq u.x u.y a b W H (by omega)]
      simp only [inU, hW, hH]
    simp only [hW, hH, Int.toNat_natCast]
    by_cases hc : inU u a b
    · rw [fill_in _ (hin.2 hc)]
      simp only [Option.some.injEq]
      constructor
      · rintro rfl; exact ⟨u, (hm u).2 (.inl rfl), hc, rfl⟩
      · rintro ⟨p, hp, h3, rfl⟩
        rcases (hm p).1 hp with rfl | hp
        · rfl
        · exact absurd ⟨p, hp, a, b, h3, hc⟩ hno
    · rw [fill_out _ (fun hh => hc (hin.1 hh)), h.go]
      constructor
      · rintro ⟨p, hp, h3⟩; exact ⟨p, (hm p).2 (.inr hp), h3⟩
      · rintro ⟨p, hp, h3, h4⟩
        rcases (hm p).1 hp with rfl | hp
        · exact absurd h3 hc
        · exact ⟨p, hp, h3, h4⟩
  · rw [putI_len, hg, hl, h.len]; rfl
theorem Rel.raze (h : Rel WW HH us os L) {u : B4} {L' : List B4} (hu : u ∈ L) (hm : ∀ v, v ∈ L' ↔ v ≠ u ∧ v ∈ L) (hn : (L'.map B4.id).Nodup) (hl : L'.length + 1 = L.length) :
    Rel WW HH (delI u.id us) (cutC u.x u.y u.w.toNat os (u.h.toNat * u.w.toNat)) L' := by
  have hv := h.val u hu
  obtain ⟨_, h1, h2, _⟩ := val_facts hv
  have huniq : ∀ p ∈ L, p.id = u.id → p = u := fun p hp he => nodup_in h.ids hp hu he
  refine ⟨ndI_delI _ h.ni, nd_cut _ h.nc, fun v hv => h.val v ((hm v).1 hv).2, hn, fun i v => ?_, fun a b v => ?_, ?_⟩
  · rw [getI_delI _ _ h.ni]
    by_cases hi : i = u.id
    · subst hi
      simp only [beq_self_eq_true, if_true]
      constructor
      · intro hh; cases hh
      · rintro ⟨p, hp, he, _⟩
        obtain ⟨q1, q2⟩ := (hm p).1 hp
        exact absurd (huniq p q2 he) q1
    · rw [if_neg (by simpa using hi), h.gu]
      constructor
      · rintro ⟨p, hp, h3, h4⟩
        exact ⟨p, (hm p).2 ⟨fun hh => hi (by rw [← h3, hh]), hp⟩, h3, h4⟩
      · rintro ⟨p, hp, h3⟩; exact ⟨p, ((hm p).1 hp).2, h3⟩
  · obtain ⟨W, hW⟩ := Int.eq_ofNat_of_zero_le (show 0 ≤ u.w by omega)
    obtain ⟨H, hH⟩ := Int.eq_ofNat_of_zero_le (show 0 ≤ u.h by omega)
    have hin : (∃ q, q < H * W ∧ a = u.x + (q % W : Nat) ∧ b = u.y + (q / W : Nat)) ↔ inU u a b := by
      rw [cellq u.x u.y a b W H (by omega)]
      simp only [inU, hW, hH]
    simp only [hW, hH, Int.toNat_natCast]
    by_cases hc : inU u a b
    · rw [cut_in h.nc _ (hin.2 hc)]
      constructor
      · intro hh; cases hh
      · rintro ⟨p, hp, h3, rfl⟩
        obtain ⟨q1, q2⟩ := (hm p).1 hp
        have e1 := (h.go a b _).2 ⟨p, q2, h3, rfl⟩
        have e2 := (h.go a b _).2 ⟨u, hu, hc, rfl⟩
        rw [e1] at e2
        simp only [Option.some.injEq, V.sc.injEq, Value.int.injEq, true_and] at e2
        exact absurd (huniq p q2 e2) q1
    · rw [cut_out h.nc _ (fun hh => hc (hin.1 hh)), h.go]
      constructor
      · rintro ⟨p, hp, h3, h4⟩
        exact ⟨p, (hm p).2 ⟨fun hh => hc (by rw [← hh]; exact h3), hp⟩, h3, h4⟩
      · rintro ⟨p, hp, h3⟩; exact ⟨p, ((hm p).1 hp).2, h3⟩
  · have := delI_len u.id (l := us) (isSome_of.2 ⟨_, (h.gu _ _).2 ⟨u, hu, rfl, rfl⟩⟩)
    rw [h.len] at this
    omega
end
end Go.Proofs.Ytndjhaeeldegfaa
