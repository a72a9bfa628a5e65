/- Chapter 5, the plain law: lists by rising numbers. -/
import Derived.Test.YtgmccnnjpejigaaB22
set_option linter.unusedVariables false
set_option linter.unusedSimpArgs false
set_option maxRecDepth 10000
namespace Go.Proofs.Ytgmccnnjpejigaa
open Go Go.M Go.RowKit
attribute [local congr] acallF_cong aloop_cong bcase_cong resK_cong valK_cong wantK_cong callK_cong xputK_cong qputK_cong resM_cong rfK_cong
attribute [local irreducible] seqK blockK loopK nextK bcase resK valK wantK funK putK dputK xputK qputK callK aops aop acode adraw aloop acallF acall invK resM rfK rfEnd rdEnd rdMid around
def insAt (p : Nat) (u : U) (L : List U) : List U := L.take p ++ u :: L.drop p
theorem insAt_len (p : Nat) (u : U) (L : List U) : (insAt p u L).length = L.length + 1 := by
  simp only [insAt, List.length_append, List.length_take, List.length_cons, List.length_drop]; omega
section
variable {us : List (Int × V)} {os : List ((Int × Int) × V)} {L : List U}
theorem mem_insAt (u v : U) (L : List U) (p : Nat) : v ∈ insAt p u L ↔ v = u ∨ v ∈ L := by
  unfold insAt
  rw [List.mem_append, List.mem_cons]
  conv => rhs; rw [← List.take_append_drop p L, List.mem_append]
  constructor
  · rintro (h | h | h)
    · exact .inr (.inl h)
    · exact .inl h
    · exact .inr (.inr h)
  · rintro (h | h | h)
    · exact .inr (.inl h)
    · exact .inl h
    · exact .inr (.inr h)
theorem nodup_insAt (u : U) (L : List U) (p : Nat) (h : (L.map U.id).Nodup) (hu : ∀ v ∈ L, v.id ≠ u.id) : ((insAt p u L).map U.id).Nodup := by
  unfold insAt
  have hp : (L.take p ++ u :: L.drop p).Perm (u :: L) := by
    have := List.perm_middle (a := u) (l₁ := L.take p) (l₂ := L.drop p)
    rwa [List.take_append_drop] at this
  rw [(hp.map U.id).nodup_iff, List.map_cons, List.nodup_cons]
  refine ⟨fun hm => ?_, h⟩
  obtain ⟨v, hv, he⟩ := List.mem_map.1 hm
  exact hu v hv he
/-- Behind a razing. -/
theorem Rel.take (h : Rel us os L) (i : Nat) (hi : i < L.length) :
    Rel (delI L[i].id us) (cutC L[i].x L[i].y L[i].w.toNat os (L[i].h.toNat * L[i].w.toNat)) (L.take i ++ L.drop (i + 1)) := by
  have hL : L = L.take i ++ L[i] :: L.drop (i + 1) := by rw [← List.drop_eq_getElem_cons hi, List.take_append_drop]
  have hp : L.Perm (L[i] :: (L.take i ++ L.drop (i + 1))) := by
    conv => lhs; rw [hL]
    exact List.perm_middle
  have hnd : (L[i] :: (L.take i ++ L.drop (i + 1))).map U.id |>.Nodup := ((hp.map U.id).nodup_iff).1 h.ids
  rw [List.map_cons, List.nodup_cons] at hnd
  refine h.raze (List.getElem_mem hi) (fun v => ?_) hnd.2 ?_
  · constructor
    · intro hv
      refine ⟨fun hh => ?_, hp.mem_iff.2 (List.mem_cons_of_mem _ hv)⟩
      exact hnd.1 (List.mem_map.2 ⟨v, hv, by rw [hh]⟩)
    · rintro ⟨h1, h2⟩
      rcases List.mem_cons.1 (hp.mem_iff.1 h2) with h3 | h3
      · exact absurd h3 h1
      · exact h3
  · rw [List.length_append, List.length_take, List.length_drop]; omega
/-- By rising numbers. -/
def Srt (L : List U) : Prop := L.Pairwise (fun a b => a.id < b.id)
theorem Srt.insAt {L : List U} (h : Srt L) (u : U) (p : Nat) (hp : p ≤ L.length) (h1 : ∀ j (hj : j < L.length), p ≤ j → u.id < L[j].id) (h2 : ∀ hp : 0 < p, ∀ hq : p - 1 < L.length, ¬ u.id < L[p - 1].id) (hn : ∀ v ∈ L, v.id ≠ u.id) : Srt (insAt p u L) := by
  unfold Srt at h ⊢
  unfold Go.Proofs.Ytgmccnnjpejigaa.insAt
  rw [List.pairwise_append]
  have hL : L = L.take p ++ L.drop p := (List.take_append_drop p L).symm
  rw [hL, List.pairwise_append] at h
  refine ⟨h.1, ?_, fun a ha b hb => ?_⟩
  · rw [List.pairwise_cons]
    refine ⟨fun a ha => ?_, h.2.1⟩
    obtain ⟨j, hj, rfl⟩ := List.getElem_of_mem ha
    rw [List.length_drop] at hj
    rw [List.getElem_drop]
    exact h1 (p + j) (by omega) (by omega)
  · have key : a.id < u.id := by
      obtain ⟨j, hj, rfl⟩ := List.getElem_of_mem ha
      have hj' := hj
      rw [List.length_take] at hj'
      rw [List.getElem_take]
      have hp0 : 0 < p := by omega
      have hq : p - 1 < L.length := by omega
      have e1 := h2 hp0 hq
      have e2 := hn L[p - 1] (List.getElem_mem hq)
      by_cases hjp : j = p - 1
      · subst hjp; omega
      · have hlt : j < p - 1 := by omega
        have hT := h.1
        have := List.pairwise_iff_getElem.1 hT j (p - 1) hj (by rw [List.length_take]; omega) hlt
        rw [List.getElem_take, List.getElem_take] at this
        omega
    rcases List.mem_cons.1 hb with rfl | hb
    · exact key
    · exact h.2.2 a ha b hb
theorem Srt.take {L : List U} (h : Srt L) (i : Nat) : Srt (L.take i ++ L.drop (i + 1)) := by
  unfold Srt at h ⊢
  refine h.sublist ?_
  conv => rhs; rw [← List.take_append_drop i L]
  refine List.Sublist.append (List.Sublist.refl _) ?_
  rw [← List.drop_drop]
  exact List.drop_sublist _ _
theorem Rel.find (h : Rel us os L) (id : Int) : (getI id us = none ∧ placeI id L 0 = -1) ∨ ∃ i, ∃ hi : i < L.length, placeI id L 0 = i ∧ L[i].id = id ∧ getI id us = some (.agg (rc L[i].x L[i].y L[i].w L[i].h)) := by
  rcases placeI_spec id L 0 with ⟨h1, h2⟩ | ⟨i, hi, h1, h2⟩
  · left
    refine ⟨?_, h1⟩
    cases hq : getI id us with
    | none => rfl
    | some v =>
      obtain ⟨p, hp, he, _⟩ := (h.gu _ _).1 hq
      exact absurd he (h2 p hp)
  · right
    rw [Nat.zero_add] at h1
    exact ⟨i, hi, h1, h2, (h.gu _ _).2 ⟨L[i], List.getElem_mem hi, h2, rfl⟩⟩
theorem atI'_pos (id : Int) : ∀ {L : List U}, Srt L → (∀ j (hj : j < L.length), atI' id L ≤ j → ¬ L[j].id < id) ∧ (∀ j (hj : j < L.length), j < atI' id L → L[j].id < id)
  | [], _ => ⟨fun j hj => by simp at hj, fun j hj => by simp at hj⟩
  | u :: L, h => by
    unfold Srt at h
    rw [List.pairwise_cons] at h
    obtain ⟨i1, i2⟩ := atI'_pos id h.2
    unfold atI'
    by_cases hu : u.id < id
    · simp only [hu, if_true]
      refine ⟨fun j hj hp => ?_, fun j hj hp => ?_⟩
      · cases j with
        | zero => omega
        | succ j => simp only [List.getElem_cons_succ]; exact i1 j (by simpa using hj) (by omega)
      · cases j with
        | zero => simpa using hu
        | succ j => simp only [List.getElem_cons_succ]; exact i2 j (by simpa using hj) (by omega)
    · simp only [hu, if_false]
      refine ⟨fun j hj _ => ?_, fun j hj hp => by omega⟩
      cases j with
      | zero => simpa using hu
      | succ j =>
        simp only [List.getElem_cons_succ]
        have := h.1 _ (List.getElem_mem (by simpa using hj : j < L.length))
        omega
theorem insU_eq (u : U) (L : List U) : insU u L = insAt (atI' u.id L) u L := rfl
theorem Srt.insU {L : List U} (h : Srt L) (u : U) (hn : ∀ v ∈ L, v.id ≠ u.id) : Srt (insU u L) := by
  obtain ⟨h1, h2⟩ := atI'_pos u.id h
  refine h.insAt u _ (atI'_le _ _) (fun j hj hp => ?_) (fun hp hq => ?_) hn
  · have := h1 j hj hp
    have := hn L[j] (List.getElem_mem hj)
    omega
  · have := h2 _ hq (by omega)
    omega
theorem Rel.place (h : Rel us os L) (u : U) (hu : valB u = true) (hg : getI u.id us = none) (hno : ¬ ∃ p ∈ L, ∃ a b, inU p a b ∧ inU u a b) :
    Rel (putI u.id (.agg (rc u.x u.y u.w u.h)) us) (fillC (.sc (.int .i64 u.id)) u.x u.y u.w.toNat os (u.h.toNat * u.w.toNat)) (insU u L) := by
  refine h.put hu hg hno (fun v => mem_insAt u v L _) (nodup_insAt u L _ h.ids fun v hv hh => ?_) (insAt_len _ _ _)
  have := (h.gu u.id _).2 ⟨v, hv, hh, rfl⟩
  rw [hg] at this; cases this
theorem Rel.new (h : Rel us os L) {i : Int} (hg : getI i us = none) : ∀ v ∈ L, v.id ≠ i := fun v hv hh => by
  have := (h.gu i _).2 ⟨v, hv, hh, rfl⟩
  rw [hg] at this; cases this
end
end Go.Proofs.Ytgmccnnjpejigaa
