/- A region that draws its order: whatever order is drawn, it comes to what the text's order comes to. -/
import Derived.Test.YtfndpnmdjblokaaM12c
set_option linter.unusedVariables false
set_option linter.unusedSimpArgs false
namespace Go.M
open Go Go.RowKit

def Closed (ops : Array Oper) (listed : Array Bool) : Prop := ∀ (j : Nat), listed.getD j false = true → ∀ e ∈ directs ops j, listed.getD e false = true

structure PlanP (ops : Array Oper) (plan : List PI) (R : List (List Nat)) : Prop where
  len : plan.length = ops.size
  nosel : Region.noSelect ops = true
  back : ∀ (i : Nat), i < ops.size → ∀ e ∈ directs ops i, e < i
  table : ∀ (i : Nat), i < ops.size → ∀ j ∈ R.getD i [], ∃ e ∈ directs ops i, e = j ∨ j ∈ R.getD e []
  pair : ∀ (i j : Nat) (x y : Oper), i < j → ops[i]? = some x → ops[j]? = some y → i ∈ directs ops j ∨ x.apart ops y = true
  needs : ∀ (i : Nat) (p : PI), plan[i]? = some p → ∀ a ∈ p.needs, ∃ j, (idxs isA ops)[a]? = some j ∧ j ∈ R.getD i []
  lo : ∀ (i : Nat) (p : PI), plan[i]? = some p → p.lo = 0 ∨ ∃ j, (idxs isE ops)[p.lo - 1]? = some j ∧ j ∈ R.getD i []
  chain : ∀ (i : Nat), isAt isE ops i = true → ∀ j ∈ idxs isE ops, i ≤ j ∨ j ∈ R.getD i []
  stab : ∀ (i : Nat) (p : PI), plan[i]? = some p → isAt isE ops i = true → ∀ (q : Nat) (oq : Oper), q < i → ops[q]? = some oq → quietOp oq.op = true → memOp oq.op = true → q ∈ R.getD i [] ∨ (q ∈ p.stab ∧ stabOK ops i q oq = true)

theorem planOK_spec {ops : Array Oper} {plan : List PI} (h : planOK ops plan = true) : PlanP ops plan (closures ops ops.toList []) := by
  simp only [planOK, Bool.and_eq_true, beq_iff_eq] at h
  obtain ⟨⟨⟨⟨h1, h2⟩, h3⟩, h4⟩, h5⟩ := h
  simp only [tableOK, List.all_eq_true, List.mem_range, Bool.and_eq_true, decide_eq_true_eq, List.any_eq_true, Bool.or_eq_true, beq_iff_eq, List.contains_iff_mem] at h3
  have item : ∀ (i : Nat) (p : PI), plan[i]? = some p → ∃ o, ops[i]? = some o ∧ itemOK ops plan (closures ops ops.toList []) i = true := fun i p hp => by
    have hlt : i < ops.size := by have := (List.getElem?_eq_some_iff.1 hp).1; omega
    exact ⟨_, Array.getElem?_eq_getElem hlt, (List.all_eq_true.1 h5) i (List.mem_range.2 hlt)⟩
  refine ⟨h1, h2, fun i hi e he => (h3 i hi).1 e he, fun i hi j hj => by obtain ⟨e, h6, h7⟩ := (h3 i hi).2 j hj; exact ⟨e, h6, h7⟩, fun i j x y hij hx hy => ?_, fun i p hp a ha => ?_, fun i p hp => ?_, fun i hi j hj => ?_, fun i p hp hi q oq hq hoq hqu hm => ?_⟩
  · have hi := (Array.getElem?_eq_some_iff.1 hx).1
    have hj := (Array.getElem?_eq_some_iff.1 hy).1
    have := (List.all_eq_true.1 ((List.all_eq_true.1 h4) i (List.mem_range.2 hi))) j (List.mem_range.2 hj)
    simp only [hx, hy, Bool.or_eq_true, Bool.not_eq_true', decide_eq_false_iff_not, List.contains_iff_mem] at this
    rcases this with (h | h) | h
    · exact absurd hij h
    · exact .inl h
    · exact .inr h
  · obtain ⟨o, ho, hit⟩ := item i p hp
    simp only [itemOK, ho, hp, Bool.and_eq_true, List.all_eq_true] at hit
    have := hit.1.1 a ha
    split at this
    · rename_i j hj
      exact ⟨j, hj, by simpa using this⟩
    · cases this
  · obtain ⟨o, ho, hit⟩ := item i p hp
    simp only [itemOK, ho, hp, Bool.and_eq_true, Bool.or_eq_true, beq_iff_eq] at hit
    rcases hit.1.2 with h | h
    · exact .inl h
    · split at h
      · rename_i j hj
        exact .inr ⟨j, hj, by simpa using h⟩
      · cases h
  · have hlt := isAt_lt hi
    obtain ⟨p, hp⟩ : ∃ p, plan[i]? = some p := ⟨_, List.getElem?_eq_getElem (by omega)⟩
    obtain ⟨o, ho, hit⟩ := item i p hp
    have hE : isE o.op = true := by simpa [isAt, ho] using hi
    simp only [itemOK, ho, hp, hE, Bool.and_eq_true, Bool.or_eq_true, Bool.not_true, Bool.false_eq_true, false_or, List.all_eq_true, decide_eq_true_eq, List.contains_iff_mem] at hit
    exact hit.2.1 j hj
  · obtain ⟨o, ho, hit⟩ := item i p hp
    have hE : isE o.op = true := by simpa [isAt, ho] using hi
    simp only [itemOK, ho, hp, hE, Bool.and_eq_true, Bool.or_eq_true, Bool.not_true, Bool.false_eq_true, false_or, List.all_eq_true, decide_eq_true_eq, List.contains_iff_mem] at hit
    have := hit.2.2 q (List.mem_range.2 hq)
    simp only [hoq, hqu, hm, Bool.and_self, Bool.not_true, Bool.false_eq_true, false_or, Bool.or_eq_true, Bool.and_eq_true, List.contains_iff_mem] at this
    exact this

theorem filter_less {p p' : Nat → Bool} {i : Nat} (hp : p i = true) (hp' : p' i = false) (h : ∀ j, j ≠ i → p' j = p j) : ∀ {l : List Nat}, l.Nodup → i ∈ l → (l.filter p').length + 1 ≤ (l.filter p).length
  | x :: l, hnd, hi => by
    have hx := List.nodup_cons.1 hnd
    have same : ∀ {l : List Nat}, i ∉ l → l.filter p' = l.filter p := fun {l} hl => List.filter_congr fun j hj => h j (fun e => hl (e ▸ hj))
    by_cases hxi : x = i
    · subst hxi
      rw [List.filter_cons_of_neg (by simp [hp']), List.filter_cons_of_pos hp, same hx.1]
      simp
    · have hi' : i ∈ l := by simpa [Ne.symm hxi] using hi
      have ih := filter_less hp hp' h hx.2 hi'
      by_cases hpx : p x = true
      · rw [List.filter_cons_of_pos (by rw [h x hxi]; exact hpx), List.filter_cons_of_pos hpx]
        simp only [List.length_cons]
        omega
      · rw [List.filter_cons_of_neg (by rw [h x hxi]; exact hpx), List.filter_cons_of_neg hpx]
        exact ih

section
variable {P : Program} {C : CallK} {ops : Array Oper} {plan : List PI} {R : List (List Nat)} {base : Nat} {t0 : List V} {vs : Nat → V} {ss : Nat → List Ob} {xs : List (Option Ob)}

theorem PlanP.lt (h : PlanP ops plan R) : ∀ (i : Nat), i < ops.size → ∀ j ∈ R.getD i [], j < i := by
  intro i
  induction i using Nat.strongRecOn with
  | _ i ih =>
    intro hi j hj
    obtain ⟨e, he, hej⟩ := h.table i hi j hj
    have := h.back i hi e he
    rcases hej with rfl | hej
    · exact this
    · have := ih e this (by omega) j hej
      omega
theorem PlanP.reach (h : PlanP ops plan R) {listed : Array Bool} (hc : Closed ops listed) : ∀ (i : Nat), i < ops.size → (∀ e ∈ directs ops i, listed.getD e false = true) → ∀ j ∈ R.getD i [], listed.getD j false = true := by
  intro i
  induction i using Nat.strongRecOn with
  | _ i ih =>
    intro hi hd j hj
    obtain ⟨e, he, hej⟩ := h.table i hi j hj
    have hlt := h.back i hi e he
    have hl := hd e he
    rcases hej with rfl | hej
    · exact hl
    · exact ih e hlt (by omega) (hc e hl) j hej
theorem PlanP.needs_lt (h : PlanP ops plan R) (i : Nat) (p : PI) (hp : plan[i]? = some p) : ∀ a ∈ p.needs, a < cnt isA ops i := fun a ha => by
  have hi : i < ops.size := by have := (List.getElem?_eq_some_iff.1 hp).1; have := h.len; omega
  obtain ⟨j, hj, hR⟩ := h.needs i p hp a ha
  obtain ⟨h1, h2⟩ := idxs_spec hj
  rw [← h2]
  exact cnt_lt h1 (h.lt i hi j hR)

/-- All facts of a region's run. -/
structure Run (P : Program) (C : CallK) (ops : Array Oper) (plan : List PI) (base : Nat) (t0 : List V) (vs : Nat → V) (ss : Nat → List Ob) (xs : List (Option Ob)) : Prop where
  fact : ∀ (i : Nat) (o : Oper) (p : PI), ops[i]? = some o → plan[i]? = some p → Fact P C ops plan base t0 vs ss xs i o p
  ng : NoGone xs
  lenx : xs.length = cnt isA ops ops.size
  gone0 : ∀ a, a < cnt isA ops ops.size → (ss 0)[base + a]? = some .gone

variable (hp : PlanP ops plan R) (hr : Run P C ops plan base t0 vs ss xs)
include hp hr

theorem Run.item {i : Nat} (hi : i < ops.size) : ∃ o p, ops[i]? = some o ∧ plan[i]? = some p ∧ Fact P C ops plan base t0 vs ss xs i o p := by
  have h1 : ops[i]? = some ops[i] := Array.getElem?_eq_getElem hi
  have h2 : plan[i]? = some (plan[i]'(by have := hp.len; omega)) := List.getElem?_eq_getElem _
  exact ⟨_, _, h1, h2, hr.fact i _ _ h1 h2⟩

theorem Run.len (k : Nat) : k ≤ cnt isE ops ops.size → (ss 0).length ≤ (ss k).length := by
  induction k with
  | zero => intro _; exact Nat.le_refl _
  | succ k ih =>
    intro hk
    have ih := ih (by omega)
    obtain ⟨j, hj, hjk⟩ := cnt_at (f := isE) (ops := ops) (k := k) (by omega)
    obtain ⟨o, p, ho, hpl, hf⟩ := Run.item hp hr (isAt_lt hj)
    have hE : isE o.op = true := by simpa [isAt, ho] using hj
    have hA : isA o.op = false := by simp only [isE, Bool.and_eq_true, Bool.not_eq_true'] at hE; exact hE.2
    have hQ : quietOp o.op = false := by simp only [isE, Bool.and_eq_true, Bool.not_eq_true'] at hE; exact hE.1
    rcases hf with ⟨_, _, h3, _⟩ | ⟨_, h | h | h⟩
    · rw [hjk] at h3; rw [h3 hE]; exact ih
    · rw [hA] at h; exact absurd h.1 (by simp)
    · rw [hQ] at h; exact absurd h.2.1 (by simp)
    · obtain ⟨_, _, _, h4, _⟩ := h
      rw [hjk] at h4
      omega

/-- A kept place is free until one that needs it has come. -/
theorem Run.free {a : Nat} (ha : a < cnt isA ops ops.size) (k : Nat) : k ≤ cnt isE ops ops.size → (∀ (j : Nat) (p : PI), isAt isE ops j = true → cnt isE ops j < k → plan[j]? = some p → a ∉ p.needs) → (ss k)[base + a]? = some .gone := by
  induction k with
  | zero => intro _ _; exact hr.gone0 a ha
  | succ k ih =>
    intro hk hn
    have ih := ih (by omega) fun j p h1 h2 h3 => hn j p h1 (by omega) h3
    obtain ⟨j, hj, hjk⟩ := cnt_at (f := isE) (ops := ops) (k := k) (by omega)
    obtain ⟨o, p, ho, hpl, hf⟩ := Run.item hp hr (isAt_lt hj)
    have hE : isE o.op = true := by simpa [isAt, ho] using hj
    have hA : isA o.op = false := by simp only [isE, Bool.and_eq_true, Bool.not_eq_true'] at hE; exact hE.2
    have hQ : quietOp o.op = false := by simp only [isE, Bool.and_eq_true, Bool.not_eq_true'] at hE; exact hE.1
    rcases hf with ⟨_, _, h3, _⟩ | ⟨_, h | h | h⟩
    · rw [hjk] at h3; rw [h3 hE]; exact ih
    · rw [hA] at h; exact absurd h.1 (by simp)
    · rw [hQ] at h; exact absurd h.2.1 (by simp)
    · obtain ⟨_, _, h3, _⟩ := h
      rw [hjk] at h3
      refine h3 _ ?_
      rw [over_at, ih]
      have : ovOf base xs p.needs (base + a) = none := by
        unfold ovOf
        rw [if_neg]
        rintro ⟨_, hm⟩
        rw [Nat.add_sub_cancel_left] at hm
        exact hn j p hj (by omega) hpl hm
      simp [this]

omit hp hr in
theorem ovOf_same {needs needs' : List Nat} {i : Nat} {X Y : Ob} (h1 : ovOf base xs needs i = some X) (h2 : ovOf base xs needs' i = some Y) : X = Y := by
  unfold ovOf at h1 h2
  split at h1
  · split at h2
    · rw [h1] at h2; cases h2; rfl
    · cases h2
  · cases h1

/-- A quiet operation yields its value wherever it may come. -/
theorem Run.quiet {i : Nat} {o : Oper} {p : PI} (ho : ops[i]? = some o) (hpl : plan[i]? = some p) (hQ : quietOp o.op = true)
    (hw : awanted ops (TL ops vs (fun _ => true) t0 i) o = some true)
    (h0 : ∀ k, p.lo ≤ k → k ≤ cnt isE ops i → qop P o (TL ops vs (fun _ => true) t0 i) (over (ovOf base xs p.needs) (ss k)) = some (vs i)) :
    ∀ (d k : Nat), k = cnt isE ops i + d → p.lo ≤ cnt isE ops i → k ≤ cnt isE ops ops.size → (∀ j, isAt isE ops j = true → cnt isE ops j < k → i ∉ R.getD j []) → qop P o (TL ops vs (fun _ => true) t0 i) (over (ovOf base xs p.needs) (ss k)) = some (vs i) := by
  intro d
  induction d with
  | zero => intro k hk hlo _ _; exact h0 k (by omega) (by omega)
  | succ d ih =>
    intro k' hk' hlo hkn hno
    obtain ⟨k, rfl⟩ : ∃ k, k' = k + 1 := ⟨cnt isE ops i + d, by omega⟩
    have ih := ih k (by omega) hlo (by omega) fun j h1 h2 => hno j h1 (by omega)
    obtain ⟨j, hj, hjk⟩ := cnt_at (f := isE) (ops := ops) (k := k) (by omega)
    obtain ⟨oj, pj, hoj, hplj, hf⟩ := Run.item hp hr (isAt_lt hj)
    have hE : isE oj.op = true := by simpa [isAt, hoj] using hj
    have hAj : isA oj.op = false := by simp only [isE, Bool.and_eq_true, Bool.not_eq_true'] at hE; exact hE.2
    have hQj : quietOp oj.op = false := by simp only [isE, Bool.and_eq_true, Bool.not_eq_true'] at hE; exact hE.1
    by_cases hm : memOp o.op = true
    · have hij : i < j := by
        rcases Nat.lt_trichotomy i j with h | h | h
        · exact h
        · subst h; rw [ho] at hoj; cases hoj; rw [hQ] at hQj; cases hQj
        · have := cnt_lt hj h; omega
      rcases hf with ⟨_, _, h3, _⟩ | ⟨_, h | h | h⟩
      · rw [hjk] at h3; rw [h3 hE]; exact ih
      · rw [hAj] at h; exact absurd h.1 (by simp)
      · rw [hQj] at h; exact absurd h.2.1 (by simp)
      · obtain ⟨_, _, h3, _, _, h6⟩ := h
        rw [hjk] at h6
        rcases h6 with h6 | h6
        · refine qop_le (fun x y hy hny => ?_) hQ ih
          rw [over_at] at hy ⊢
          cases hs : (ss k)[x]? with
          | none => rw [hs] at hy; cases hy
          | some z =>
            rw [hs] at hy
            by_cases hz : z = .gone
            · subst hz
              simp only [Option.some.injEq] at hy
              have hov : ovOf base xs p.needs x = some y := by
                cases hh : ovOf base xs p.needs x with
                | none => rw [hh] at hy; simp only [Option.getD_none] at hy; exact absurd hy.symm hny
                | some q => rw [hh] at hy; simp only [Option.getD_some] at hy; rw [hy]
              cases hj2 : ovOf base xs pj.needs x with
              | none =>
                have := h6 x .gone (by rw [over_at, hs]; simp [hj2])
                rw [this]
                simp [hov]
              | some Y =>
                have e := ovOf_same hov hj2
                subst e
                have := h6 x y (by rw [over_at, hs]; simp [hj2])
                rw [this]
                cases y <;> first | rfl | exact absurd rfl hny
            · have hzy : z = y := by cases z <;> first | exact absurd rfl hz | (simpa using hy)
              subst hzy
              have := h6 x z (by rw [over_at, hs]; cases z <;> first | rfl | exact absurd rfl hz)
              rw [this]
              cases z <;> first | rfl | exact absurd rfl hz
        · rcases hp.stab j pj hplj hj i o hij ho hQ hm with h | ⟨hst, hsok⟩
          · exact absurd h (hno j hj (by omega))
          · obtain ⟨_, h7⟩ := h6 i hst o p ho hpl hij (hp.needs_lt i p hpl)
            simp only [stabOK, Bool.and_eq_true, List.all_eq_true, List.mem_range, Bool.or_eq_true, decide_eq_true_eq] at hsok
            obtain ⟨hds, hall⟩ := hsok
            have hbetween : ∀ (m : Nat) (d : Tmp), i ≤ m → m < j → dstOf ops m = some d → d ∉ o.looksAt ops ∧ (m = i ∨ o.dst ≠ some d) := fun m d h1 h2 h3 => by
              have := hall m h2
              rcases this with h | h
              · omega
              · cases hom : ops[m]? with
                | none => rw [dstOf, hom] at h3; cases h3
                | some om =>
                  rw [dstOf, hom] at h3
                  simp only [Option.bind_some] at h3
                  simp only [hom, h3, Bool.and_eq_true, Bool.not_eq_true', Bool.or_eq_true, beq_iff_eq, bne_iff_ne, ne_eq] at h
                  exact ⟨by have := h.1; simpa using this, h.2⟩
            have hag : Agree ops o (TL ops vs (fun _ => true) t0 j) (TL ops vs (fun _ => true) t0 i) := fun d hd => by
              have e1 : TL ops vs (fun _ => true) t0 i = TL ops vs (fun m => decide (m < i)) t0 j := by
                rw [TL_stop (m := i) j (by omega) fun m h1 _ => by simp; omega]
                exact TL_congr i fun m hm => by simp [hm]
              rw [e1]
              refine TL_agree j fun m hm hdm => ?_
              by_cases hmi : m < i
              · simp [hmi]
              · exact absurd hd (hbetween m d (by omega) hm hdm).1
            have hw' : awanted ops (TL ops vs (fun _ => true) t0 j) o = some true := by rw [hag.wanted]; exact hw
            have h8 := h7 hw'
            cases hdo : o.dst with
            | none => simp [hdo] at hds
            | some d =>
              simp only [hdo] at h8
              obtain ⟨hdl, h8⟩ := h8
              rw [qop_congr hag] at h8
              rw [h8]
              congr 1
              have e2 : (TL ops vs (fun _ => true) t0 j).getD d .dead = (TL ops vs (fun m => decide (m < i + 1)) t0 j).getD d .dead := by
                refine TL_agree j fun m hm hdm => ?_
                by_cases hmi : m < i + 1
                · simp [hmi]
                · rcases (hbetween m d (by omega) hm hdm).2 with h | h
                  · omega
                  · exact absurd hdo h
              rw [e2, TL_stop (m := i + 1) j (by omega) fun m h1 _ => by simp; omega]
              simp only [TL, Nat.lt_succ_self, decide_true, if_true]
              rw [aput_getD, TL_len]
              rw [TL_len] at hdl
              simp [dstOf, ho, hdo, hdl]
    · exact qop_any hQ (by simpa using hm) ih
end
end Go.M
