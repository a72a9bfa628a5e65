/- Chapter 4, the plain law: which maps may be. -/
import Derived.Test.YtndjhaeeldegfaaG19
set_option linter.unusedVariables false
set_option linter.unusedSimpArgs false
set_option maxRecDepth 10000
namespace Go.Proofs.Ytndjhaeeldegfaa
open Go Go.M Go.RowKit
attribute [local congr] acallF_cong aloop_cong bcase_cong resK_cong valK_cong wantK_cong callK_cong xputK_cong qputK_cong resM_cong rfK_cong
attribute [local irreducible] seqK blockK loopK nextK bcase resK valK wantK funK putK dputK xputK qputK callK aops aop acode adraw aloop acallF acall invK resM rfK rfEnd rdEnd rdMid around
section
variable {WW HH : Int}
theorem mayR_zero {L : List B4} {id x y w h : Int} : mayR L WW HH id x y w h = 0 ↔ bmayB id x y w h WW HH = true ∧ ¬ plcI id L 0 ≥ 0 ∧ ¬ 256 ≤ L.length ∧ L.any (shareB x y w h) = false := by
  unfold mayR
  constructor
  · intro e
    split at e
    · cases e
    rename_i h1
    split at e
    · cases e
    rename_i h2
    split at e
    · cases e
    rename_i h3
    split at e
    · cases e
    rename_i h4
    exact ⟨by simpa using h1, h2, h3, by simpa using h4⟩
  · rintro ⟨h1, h2, h3, h4⟩
    rw [if_neg (by rw [h1]; decide), if_neg h2, if_neg h3, if_neg (by rw [h4]; decide)]
theorem go_chk : ∀ (L pre : List B4) (last : Int) (us : List (Int × V)) (os : List ((Int × Int) × V)), Rel WW HH us os pre → (pre = [] ∧ last = 0 ∨ (∃ p ∈ pre, p.id = last) ∧ ∀ p ∈ pre, p.id ≤ last) → pre.length ≤ 256 →
    (goAll WW HH last us os L).isSome = (chk WW HH pre L && decide (pre.length + L.length ≤ 256)) ∧ ∀ us' os', goAll WW HH last us os L = some (us', os') → Rel WW HH us' os' (pre ++ L)
  | [], pre, last, us, os, hr, hl, hp => by
    simp only [goAll, chk, Bool.true_and, List.length_nil, Nat.add_zero, List.append_nil]
    refine ⟨by simp [hp], fun us' os' h => ?_⟩
    simp only [Option.some.injEq, Prod.mk.injEq] at h
    obtain ⟨rfl, rfl⟩ := h
    exact hr
  | u :: L, pre, last, us, os, hr, hl, hp => by
    simp only [goAll, chk, List.length_cons]
    by_cases h1 : u.id ≤ last
    · rw [if_pos h1]
      refine ⟨?_, fun us' os' h => by cases h⟩
      have : (bmayB u.id u.x u.y u.w u.h WW HH && pre.all (pairB u)) = false := by
        cases hb : bmayB u.id u.x u.y u.w u.h WW HH
        · rfl
        · have := (bmay_may hb).2.2.2.1
          rw [Bool.true_and]
          rcases hl with ⟨rfl, rfl⟩ | ⟨⟨p, hp1, hp2⟩, _⟩
          · omega
          · rw [Bool.eq_false_iff]
            intro hh
            have := List.all_eq_true.1 hh p hp1
            simp only [pairB, Bool.and_eq_true, decide_eq_true_eq] at this
            omega
      rw [this, Bool.false_and, Bool.false_and]
      rfl
    rw [if_neg h1]
    have hlt : ∀ p ∈ pre, p.id < u.id := fun p hp1 => by
      rcases hl with ⟨rfl, _⟩ | ⟨_, h⟩
      · cases hp1
      · have := h p hp1; omega
    have hme := hr.may u
    by_cases h2 : mayE us os WW HH u.id u.x u.y u.w u.h = 0
    · rw [if_pos h2]
      obtain ⟨r1, r2, r3, r4⟩ := mayR_zero.1 (hme ▸ h2)
      have hall : pre.all (pairB u) = true := List.all_eq_true.2 fun p hp1 => by
        have h3 := hlt p hp1
        have h4 : shareB u.x u.y u.w u.h p = false := by
          rw [Bool.eq_false_iff]
          intro hh
          have := List.any_eq_true.2 ⟨p, hp1, hh⟩
          rw [r4] at this; cases this
        simp only [shareB] at h4
        simp only [pairB, h4, Bool.not_false, Bool.and_true, decide_eq_true_eq]
        exact h3
      rw [r1, hall, Bool.true_and, Bool.true_and]
      have hr' := hr.put (L' := pre ++ [u]) h2 (fun v => by rw [List.mem_append, List.mem_singleton]; exact Or.comm) (by
        rw [List.map_append, List.nodup_append]
        refine ⟨hr.ids, by simp, fun a ha b hb => ?_⟩
        obtain ⟨p, hp1, rfl⟩ := List.mem_map.1 ha
        simp only [List.map_cons, List.map_nil, List.mem_singleton] at hb
        subst hb
        have := hlt p hp1
        omega) (by simp)
      obtain ⟨i1, i2⟩ := go_chk L (pre ++ [u]) u.id _ _ hr' (.inr ⟨⟨u, by simp, rfl⟩, fun p hp1 => by
        rcases List.mem_append.1 hp1 with h | h
        · have := hlt p h; omega
        · simp only [List.mem_singleton] at h; subst h; exact Int.le_refl _⟩) (by simp; omega)
      refine ⟨?_, fun us' os' h => ?_⟩
      · rw [i1]
        congr 2
        simp only [List.length_append, List.length_cons, List.length_nil, eq_iff_iff]
        omega
      · have := i2 us' os' h
        rwa [List.append_assoc] at this
    · rw [if_neg h2]
      refine ⟨?_, fun us' os' h => by cases h⟩
      rw [hme] at h2
      have h3 := fun hh => h2 (mayR_zero.2 hh)
      cases hb : bmayB u.id u.x u.y u.w u.h WW HH
      · rw [Bool.false_and, Bool.false_and, Bool.false_and]; rfl
      cases ha : pre.all (pairB u)
      · rw [Bool.true_and, Bool.false_and, Bool.false_and]; rfl
      rcases Nat.lt_or_ge pre.length 256 with h4 | h4
      · refine absurd ⟨hb, ?_, by omega, ?_⟩ h3
        · rw [plc_some]
          rintro ⟨p, hp1, hp2⟩
          have := hlt p hp1
          omega
        · rw [Bool.eq_false_iff]
          intro hh
          obtain ⟨p, hp1, hp2⟩ := List.any_eq_true.1 hh
          have := List.all_eq_true.1 ha p hp1
          simp only [pairB, Bool.and_eq_true, Bool.not_eq_true'] at this
          simp only [shareB] at hp2
          rw [this.2] at hp2; cases hp2
      · rw [show decide (pre.length + (L.length + 1) ≤ 256) = false from decide_eq_false (by omega), Bool.and_false]; rfl
theorem newOK_ref (T : List Int) (L : List B4) : newOK WW HH T L = refOK WW HH T L := by
  unfold newOK refOK
  rw [(go_chk L [] 0 [] [] (Rel.nil WW HH) (.inl ⟨rfl, rfl⟩) (by simp)).1]
  simp only [List.length_nil, Nat.zero_add]
  cases decide (1 ≤ WW) <;> cases decide (WW ≤ 128) <;> cases decide (1 ≤ HH) <;> cases decide (HH ≤ 128) <;> cases decide ((T.length : Int) = WW * HH) <;> cases decide (L.length ≤ 256) <;> cases T.all (fun t => decide (t < 4)) <;> cases chk WW HH [] L <;> rfl
theorem new_rel {L : List B4} {us : List (Int × V)} {os : List ((Int × Int) × V)} (h : goAll WW HH 0 [] [] L = some (us, os)) : Rel WW HH us os L :=
  (go_chk L [] 0 [] [] (Rel.nil WW HH) (.inl ⟨rfl, rfl⟩) (by simp)).2 us os h
theorem refOK_facts {T : List Int} {L : List B4} (h : refOK WW HH T L = true) : (1 ≤ WW ∧ WW ≤ 128) ∧ (1 ≤ HH ∧ HH ≤ 128) ∧ (T.length : Int) = WW * HH ∧ L.length ≤ 256 := by
  simp only [refOK, Bool.and_eq_true, decide_eq_true_eq] at h
  exact ⟨⟨h.1.1.1.1.1.1.1, h.1.1.1.1.1.1.2⟩, ⟨h.1.1.1.1.1.2, h.1.1.1.1.2⟩, h.1.1.1.2, h.1.1.2⟩
end
section
variable {WW HH : Int} {us : List (Int × V)} {os : List ((Int × Int) × V)} {L : List B4}
theorem mem_insAt (u v : B4) (L : List B4) (p : Nat) : v ∈ insAt p u L ↔ v = u ∨ v ∈ L := by
  unfold insAt
  rw [List.mem_append, List.mem_cons]
  conv => rhs; rw [← List.take_append_drop p L, List.mem_append]
  constructor
  · rintro (h | h | h)
    · exact .inr (.inl h)
    · exact .inl h
    · exact .inr (.inr h)
  · rintro (h | h | h)
    · exact .inr (.inl h)
    · exact .inl h
    · exact .inr (.inr h)
theorem nodup_insAt (u : B4) (L : List B4) (p : Nat) (h : (L.map B4.id).Nodup) (hu : ∀ v ∈ L, v.id ≠ u.id) : ((insAt p u L).map B4.id).Nodup := by
  unfold insAt
  have hp : (L.take p ++ u :: L.drop p).Perm (u :: L) := by
    have := List.perm_middle (a := u) (l₁ := L.take p) (l₂ := L.drop p)
    rwa [List.take_append_drop] at this
  rw [(hp.map B4.id).nodup_iff, List.map_cons, List.nodup_cons]
  refine ⟨fun hm => ?_, h⟩
  obtain ⟨v, hv, he⟩ := List.mem_map.1 hm
  exact hu v hv he
/-- Behind a placing. -/
theorem Rel.place (h : Rel WW HH us os L) (u : B4) (p : Nat) (he : mayE us os WW HH u.id u.x u.y u.w u.h = 0) :
    Rel WW HH (putI u.id (.agg (rc u.x u.y u.w u.h)) us) (fillC (.sc (.int .i64 u.id)) u.x u.y u.w.toNat os (u.h.toNat * u.w.toNat)) (insAt p u L) := by
  refine h.put he (fun v => mem_insAt u v L p) (nodup_insAt u L p h.ids fun v hv hh => ?_) (insAt_len _ _ _)
  have := (mayR_zero.1 (h.may u ▸ he)).2.1
  exact this ((plc_some _ _).2 ⟨v, hv, hh⟩)
theorem Rel.new (h : Rel WW HH us os L) (u : B4) (he : mayE us os WW HH u.id u.x u.y u.w u.h = 0) : ∀ v ∈ L, v.id ≠ u.id := fun v hv hh => by
  have := (mayR_zero.1 (h.may u ▸ he)).2.1
  exact this ((plc_some _ _).2 ⟨v, hv, hh⟩)
/-- Behind a razing. -/
theorem Rel.take (h : Rel WW HH us os L) (i : Nat) (hi : i < L.length) :
    Rel WW HH (delI L[i].id us) (cutC L[i].x L[i].y L[i].w.toNat os (L[i].h.toNat * L[i].w.toNat)) (L.take i ++ L.drop (i + 1)) := by
  have hL : L = L.take i ++ L[i] :: L.drop (i + 1) := by rw [← List.drop_eq_getElem_cons hi, List.take_append_drop]
  have hp : L.Perm (L[i] :: (L.take i ++ L.drop (i + 1))) := by
    conv => lhs; rw [hL]
    exact List.perm_middle
  have hnd : (L[i] :: (L.take i ++ L.drop (i + 1))).map B4.id |>.Nodup := ((hp.map B4.id).nodup_iff).1 h.ids
  rw [List.map_cons, List.nodup_cons] at hnd
  refine h.raze (List.getElem_mem hi) (fun v => ?_) hnd.2 ?_
  · constructor
    · intro hv
      refine ⟨fun hh => ?_, hp.mem_iff.2 (List.mem_cons_of_mem _ hv)⟩
      exact hnd.1 (List.mem_map.2 ⟨v, hv, by rw [hh]⟩)
    · rintro ⟨h1, h2⟩
      rcases List.mem_cons.1 (hp.mem_iff.1 h2) with h3 | h3
      · exact absurd h3 h1
      · exact h3
  · rw [List.length_append, List.length_take, List.length_drop]; omega
/-- By rising numbers. -/
def Srt (L : List B4) : Prop := L.Pairwise (fun a b => a.id < b.id)
theorem Srt.insAt {L : List B4} (h : Srt L) (u : B4) (p : Nat) (hp : p ≤ L.length) (h1 : ∀ j (hj : j < L.length), p ≤ j → u.id < L[j].id) (h2 : ∀ hp : 0 < p, ∀ hq : p - 1 < L.length, ¬ u.id < L[p - 1].id) (hn : ∀ v ∈ L, v.id ≠ u.id) : Srt (insAt p u L) := by
  unfold Srt at h ⊢
  unfold Go.Proofs.Ytndjhaeeldegfaa.insAt
  rw [List.pairwise_append]
  have hL : L = L.take p ++ L.drop p := (List.take_append_drop p L).symm
  rw [hL, List.pairwise_append] at h
  refine ⟨h.1, ?_, fun a ha b hb => ?_⟩
  · rw [List.pairwise_cons]
    refine ⟨fun a ha => ?_, h.2.1⟩
    obtain ⟨j, hj, rfl⟩ := List.getElem_of_mem ha
    rw [List.length_drop] at hj
    rw [List.getElem_drop]
    exact h1 (p + j) (by omega) (by omega)
  · have key : a.id < u.id := by
      obtain ⟨j, hj, rfl⟩ := List.getElem_of_mem ha
      have hj' := hj
      rw [List.length_take] at hj'
      rw [List.getElem_take]
      have hp0 : 0 < p := by omega
      have hq : p - 1 < L.length := by omega
      have e1 := h2 hp0 hq
      have e2 := hn L[p - 1] (List.getElem_mem hq)
      by_cases hjp : j = p - 1
      · subst hjp; omega
      · have hlt : j < p - 1 := by omega
        have hT := h.1
        have := List.pairwise_iff_getElem.1 hT j (p - 1) hj (by rw [List.length_take]; omega) hlt
        rw [List.getElem_take, List.getElem_take] at this
        omega
    rcases List.mem_cons.1 hb with rfl | hb
    · exact key
    · exact h.2.2 a ha b hb
theorem Srt.take {L : List B4} (h : Srt L) (i : Nat) : Srt (L.take i ++ L.drop (i + 1)) := by
  unfold Srt at h ⊢
  refine h.sublist ?_
  conv => rhs; rw [← List.take_append_drop i L]
  refine List.Sublist.append (List.Sublist.refl _) ?_
  rw [← List.drop_drop]
  exact List.drop_sublist _ _
theorem chk_srt {WW HH : Int} : ∀ (L pre : List B4), chk WW HH pre L = true → Srt pre → Srt (pre ++ L)
  | [], pre, _, h => by rwa [List.append_nil]
  | u :: L, pre, hc, h => by
    simp only [chk, Bool.and_eq_true] at hc
    have : pre ++ u :: L = (pre ++ [u]) ++ L := by simp
    rw [this]
    refine chk_srt L (pre ++ [u]) hc.2 ?_
    unfold Srt at h ⊢
    rw [List.pairwise_append]
    refine ⟨h, by simp, fun a ha b hb => ?_⟩
    simp only [List.mem_singleton] at hb
    subst hb
    have := List.all_eq_true.1 hc.1.2 a ha
    simp only [pairB, Bool.and_eq_true, decide_eq_true_eq] at this
    exact this.1
theorem refOK_srt {WW HH : Int} {T : List Int} {L : List B4} (h : refOK WW HH T L = true) : Srt L := by
  simp only [refOK, Bool.and_eq_true] at h
  have := chk_srt L [] h.2 List.Pairwise.nil
  rwa [List.nil_append] at this
theorem Rel.find (h : Rel WW HH us os L) (id : Int) : (getI id us = none ∧ plcI id L 0 = -1) ∨ ∃ i, ∃ hi : i < L.length, plcI id L 0 = i ∧ L[i].id = id ∧ getI id us = some (.agg (rc L[i].x L[i].y L[i].w L[i].h)) := by
  rcases plcI_spec id L 0 with ⟨h1, h2⟩ | ⟨i, hi, h1, h2⟩
  · left
    refine ⟨?_, h1⟩
    cases hq : getI id us with
    | none => rfl
    | some v =>
      obtain ⟨p, hp, he, _⟩ := (h.gu _ _).1 hq
      exact absurd he (h2 p hp)
  · right
    rw [Nat.zero_add] at h1
    exact ⟨i, hi, h1, h2, (h.gu _ _).2 ⟨L[i], List.getElem_mem hi, h2, rfl⟩⟩
theorem Rel.at_ (h : Rel WW HH us os L) (a b : Int) : (match getC (a, b) os with | some v => V.tup [v, .sc (.bool true)] | none => .tup [.sc (.int .i64 0), .sc (.bool false)]) = match L.find? (hasU a b) with | some u => V.tup [.sc (.int .i64 u.id), .sc (.bool true)] | none => .tup [.sc (.int .i64 0), .sc (.bool false)] := by
  cases hf : L.find? (hasU a b) with
  | none =>
    have : getC (a, b) os = none := by
      cases hq : getC (a, b) os with
      | none => rfl
      | some v =>
        obtain ⟨p, hp, hin, _⟩ := (h.go _ _ _).1 hq
        have := List.find?_eq_none.1 hf p hp
        exact absurd ((has_in (h.val p hp) a b).2 hin) this
    rw [this]
  | some u =>
    have hu := List.mem_of_find?_eq_some hf
    have hh := List.find?_some hf
    have : getC (a, b) os = some (.sc (.int .i64 u.id)) := (h.go _ _ _).2 ⟨u, hu, (has_in (h.val u hu) a b).1 hh, rfl⟩
    rw [this]
theorem Rel.rcs (h : Rel WW HH us os L) : ∀ i v, getI i us = some v → ∃ x y w h, v = .agg (rc x y w h) ∧ mayB x y w h = true ∧ w ≤ 8 ∧ h ≤ 8 := fun i v hv => by
  obtain ⟨p, hp, _, rfl⟩ := (h.gu _ _).1 hv
  obtain ⟨h1, _, _, h2, h3, _⟩ := val_facts (h.val p hp)
  exact ⟨_, _, _, _, rfl, h1, h2, h3⟩
end
end Go.Proofs.Ytndjhaeeldegfaa
