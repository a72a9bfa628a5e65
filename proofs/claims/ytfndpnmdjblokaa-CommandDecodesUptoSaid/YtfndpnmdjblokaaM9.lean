/- Cuts; all operations that are no calls. -/
import Derived.Test.YtfndpnmdjblokaaM8
set_option linter.unusedVariables false
set_option linter.unusedSimpArgs false
namespace Go.M
open Go Go.RowKit
section
variable {P : Program} {σ σ' : Sg} {w w' w1 : World} {L L' : Nat → Lb}
variable {ρ : Operand → V} {ρ' : Operand → Value} {st' : List Ob} {v : V} {dst : Option Tmp} {ty : TypeId} {pos : String} {after : Array Edge} {gd : Option (Nat × Bool)}

theorem y_slice (g : Good P σ w) (hρ : ∀ x, RV P σ w (ρ x) (ρ' x)) {t : TypeId} {x : Operand} {lo hi mx : Option Operand} (h : aval P ρ σ.st ⟨dst, .slice t x lo hi mx, ty, pos, after, gd⟩ = some (v, st')) : YieldS P σ ρ' w ⟨dst, .slice t x lo hi mx, ty, pos, after, gd⟩ v st' := by
  have hx := hρ x
  simp only [aval] at h
  split at h
  · cases h
  rename_i hmx0
  have hmx : mx ≠ none → hi ≠ none := by
    intro h1 h2
    apply hmx0
    cases mx with
    | none => exact absurd rfl h1
    | some _ => exact ⟨rfl, by rw [h2]; rfl⟩
  obtain ⟨v0, hv, hh⟩ := Option.map_eq_some_iff.1 h
  cases hh
  unfold aslice at hv
  split at hv
  · -- a string
    rename_i b hxx
    rw [hxx] at hx
    simp only [RV] at hx
    split at hv
    · rename_i hu hm
      split at hv
      · rename_i hq h1
        split at hv
        · rename_i l h2
          cases hv
          have hmn : mx = none := by cases mx <;> simp at hm ⊢
          subst hmn
          obtain ⟨hb, _, _⟩ := bounds_run (P := P) (mx := none) (m := hq) (b := false) (cap := b.size) hρ (Nat.le_refl _) h1 h2 rfl rfl (by simp)
          refine Yield.same (u := .string (b.extract l hq)) g ?_ (by simp only [RV])
          simp only [execOp]
          refine run_v (α := Unit) ?_
          rw [hx]
          simp only [Option.map_none] at hb
          simp [Instr.sliceAt, Sem.run_bind, run_underlying hu, Instr.slice, hb]
        · cases hv
      · cases hv
    · cases hv
  · -- what is only read
    rename_i xs n nil full hxx
    rw [hxx] at hx
    simp only [RV, RC] at hx
    obtain ⟨A, c, us, hA, h2, h3, h4, h5, h6, h7, h8⟩ := hx
    split at hv
    · rename_i e hu
      split at hv
      · rename_i s hs
        split at hv
        · rename_i hq h1
          split at hv
          · rename_i l m hl hm
            split at hv
            · rename_i hmh
              cases hv
              obtain ⟨hb, hb1, hb2⟩ := bounds_run (P := P) (w := w) (b := true) (cap := c) hρ h2 h1 hl hm hmh hmx
              have hrun : (Instr.sliceAt t (ρ' x) (lo.map ρ') (hi.map ρ') (mx.map ρ')).run P w = .ok (.slice (if (if mx.isSome then hq else c) = l then A else A.map (·.add (l * s))) (hq - l) ((if mx.isSome then hq else c) - l)) w := by
                rw [hA]
                simp [Instr.sliceAt, Sem.run_bind, run_underlying hu, Instr.slice, hb, szOf_run hs]
              refine Yield.same g (by simp only [execOp]; exact run_v (α := Unit) hrun) ?_
              have hml : (mx.map ρ).isSome = mx.isSome := by cases mx <;> rfl
              rw [hml]
              have hcm : (if mx.isSome then hq else c) ≤ maxLen := by split <;> omega
              have hqc : hq ≤ (if mx.isSome then hq else c) := by split <;> omega
              have hful : (mx.isSome || (full && hq == n)) = true → (if mx.isSome then hq else c) = hq := by
                intro hf
                cases hs2 : mx.isSome with
                | true => simp
                | false =>
                  rw [hs2] at hf
                  simp only [Bool.false_or, Bool.and_eq_true, beq_iff_eq] at hf
                  simp only [Bool.false_eq_true, if_false]
                  have := h4 hf.1
                  omega
              by_cases hl0 : hq = l
              · rw [if_pos hl0]
                subst hl0
                simp only [RV, RC]
                refine ⟨_, _, [], by rw [Nat.sub_self], by omega, by omega, fun hf => ?_, fun hn => ?_, fun hn => ?_, by simp [RCl], fun a _ => ⟨fun j u hj => by simp at hj, fun h => absurd rfl h⟩⟩
                · simp only [Bool.or_eq_true] at hf
                  rcases hf with (hf | hf) | hf
                  · obtain ⟨k1, k2, k3⟩ := h5 hf
                    split <;> omega
                  · have := hful (by simp [hf])
                    omega
                  · have := hful (by simp only [Bool.or_eq_true]; exact .inr hf)
                    omega
                · obtain ⟨k1, k2, k3⟩ := h5 hn
                  subst k1
                  refine ⟨by simp, ?_, by simp⟩
                  split <;> omega
                · have := h6 hn
                  cases A with
                  | none => exact absurd rfl this
                  | some a =>
                    by_cases hc : (if mx.isSome = true then hq else c) = hq
                    · rw [if_pos hc]; exact Option.some_ne_none _
                    · rw [if_neg hc]; exact Option.some_ne_none _
              · rw [if_neg hl0]
                simp only [RV, RC]
                have hne : (if mx.isSome then hq else c) ≠ l := by omega
                rw [if_neg hne]
                refine ⟨_, _, (us.drop (l * s)).take ((hq - l) * s), rfl, by omega, by omega, fun hf => by have := hful hf; omega, fun hn => ?_, fun hn => ?_, RCl.take (RCl.drop h7), fun a ha => ?_⟩
                · obtain ⟨k1, k2, k3⟩ := h5 hn
                  exfalso
                  omega
                · have := h6 hn
                  cases A with
                  | none => exact absurd rfl this
                  | some a => simp
                · cases A with
                  | none => cases ha
                  | some a0 =>
                    simp only [Option.map_some, Option.some.injEq] at ha
                    subst ha
                    obtain ⟨k1, k2⟩ := h8 a0 rfl
                    refine ⟨fun j u hj => ?_, fun hn => ?_⟩
                    · rw [List.getElem?_take] at hj
                      split at hj
                      · exact CA.drop k1 j u hj
                      · cases hj
                    · rw [add_block]
                      exact k2 (by rintro rfl; simp at hn)
            · cases hv
          · cases hv
        · cases hv
      · cases hv
    · cases hv
  · -- an own row
    rename_i id off n full hxx
    rw [hxx] at hx
    simp only [RV, RSl] at hx
    obtain ⟨e2, xs2, n2, lo2, fz2, s2, k1, k2, k3, ⟨a5, c5, k5, k6, k7, k8⟩, k4⟩ := hx
    split at hv
    · rename_i e hu
      split at hv
      · rename_i e' xs3 n3 lo3 fz3 s hst hs
        rw [hst] at k1; cases k1
        split at hv
        · rename_i he
          subst he
          rw [hs] at k2
          have hs2 := Option.some.inj k2
          subst hs2
          split at hv
          · rename_i hq h1
            split at hv
            · rename_i l m hl hm
              split at hv
              · rename_i hmh
                obtain ⟨hb, hb1, hb2⟩ := bounds_run (P := P) (w := w) (b := true) (cap := c5) hρ k6 h1 hl hm hmh hmx
                have hrun : (Instr.sliceAt t (ρ' x) (lo.map ρ') (hi.map ρ') (mx.map ρ')).run P w = .ok (.slice (if (if mx.isSome then hq else c5) = l then some a5 else some (a5.add (l * s))) (hq - l) ((if mx.isSome then hq else c5) - l)) w := by
                  rw [k5]
                  simp [Instr.sliceAt, Sem.run_bind, run_underlying hu, Instr.slice, hb, szOf_run hs]
                have hml : (mx.map ρ).isSome = mx.isSome := by cases mx <;> rfl
                rw [hml] at hv
                have hcm : (if mx.isSome then hq else c5) ≤ c5 := by split <;> omega
                have hqc : hq ≤ (if mx.isSome then hq else c5) := by split <;> omega
                have hful : (mx.isSome || (full && hq == n)) = true → (if mx.isSome then hq else c5) = hq := by
                  intro hf
                  cases hs2 : mx.isSome with
                  | true => simp
                  | false =>
                    rw [hs2] at hf
                    simp only [Bool.false_or, Bool.and_eq_true, beq_iff_eq] at hf
                    simp only [Bool.false_eq_true, if_false]
                    have := k8 hf.1
                    omega
                by_cases hl0 : hq = l
                · rw [if_pos hl0] at hv
                  subst hl0
                  cases hv
                  refine Yield.same g (by simp only [execOp]; exact run_v (α := Unit) hrun) ?_
                  simp only [RV, RC]
                  refine ⟨_, _, [], by rw [Nat.sub_self], by omega, by omega, fun hf => by have := hful hf; omega, fun hn => by simp at hn, fun hn => (by
                    by_cases hc : (if mx.isSome = true then hq else c5) = hq
                    · rw [if_pos hc]; exact Option.some_ne_none _
                    · rw [if_neg hc]; exact Option.some_ne_none _), by simp [RCl], fun a _ => ⟨fun j u hj => by simp at hj, fun h => absurd rfl h⟩⟩
                · rw [if_neg hl0] at hv
                  split at hv
                  · cases hv
                  · rename_i hff
                    cases hv
                    have hne : (if mx.isSome then hq else c5) ≠ l := by omega
                    rw [if_neg hne] at hrun
                    refine Yield.same g (by simp only [execOp]; exact run_v (α := Unit) hrun) ?_
                    simp only [RV, RSl]
                    refine ⟨_, _, _, _, _, s, hst, hs, by omega, ⟨_, _, rfl, by omega, by omega, fun hf => by have := hful hf; omega⟩, fun hlo => ?_⟩
                    obtain ⟨b, c, C, q1, q2, q3, q4⟩ := k4 (by omega)
                    rw [k5] at q1
                    cases q1
                    refine ⟨b, (if mx.isSome then hq else c5) - l, C, by rw [add_at, Nat.add_mul], ?_, by omega, fun hf => ?_⟩
                    · obtain ⟨e3, xs4, n4, lo4, fz4, s3, us, fr, p1, p2, p3, p4, p5, p5', p6, p7, p8, p9, p10⟩ := q2
                      rw [hst] at p1; cases p1
                      rw [hs] at p2
                      have hs3 := Option.some.inj p2
                      subst hs3
                      have hks : (off + l + (hq - l)) * s ≤ (off + n) * s := Nat.mul_le_mul_right _ (by omega)
                      refine ⟨_, _, _, _, _, s, us, fr, hst, hs, p3, by omega, by omega, p5', p6, p7, ?_, by omega, fun hk => p10 (by omega)⟩
                      have := RCl.take (k := (off + l + (hq - l)) * s) p8
                      rw [List.take_take, List.take_take, Nat.min_eq_left hks] at this
                      exact this
                    · simp only [Bool.or_eq_false_iff] at hf
                      rw [hf.1]
                      simp only [Bool.false_eq_true, if_false]
                      have hf2 : full = false := by
                        cases full with
                        | false => rfl
                        | true =>
                          simp only [Bool.true_and, beq_eq_false_iff_ne] at hf
                          exact absurd ⟨rfl, hf.1, hf.2⟩ hff
                      have := q4 hf2
                      omega
              · cases hv
            · cases hv
          · cases hv
        · cases hv
      · cases hv
    · cases hv
  · cases hv
end
end Go.M
