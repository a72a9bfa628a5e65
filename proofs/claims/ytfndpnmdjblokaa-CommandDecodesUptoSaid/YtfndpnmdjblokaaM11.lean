/- The built-ins, as the machine tells them. -/
import Derived.Test.YtfndpnmdjblokaaM10
set_option linter.unusedVariables false
set_option linter.unusedSimpArgs false
namespace Go.M
open Go Go.RowKit
section
variable {P : Program} {σ σ' : Sg} {w w' w1 : World} {L L' : Nat → Lb}

/-- What a built-in yields. -/
def YB (P : Program) (σ : Sg) (w : World) (s : Sem Value) (v : V) (st' : List Ob) : Prop :=
  ∃ u w' σ', s.run P w = .ok u w' ∧ σ'.st = st' ∧ Good P σ' w' ∧ Stp P σ σ' w w' ∧ RV P σ' w' v u

set_option maxHeartbeats 1600000 in
theorem y_append (g : Good P σ w) {t t' ty : TypeId} {d : TypeDesc} (ht' : P.underlying t' = some d) (hd : (∃ e', d = .slice e') ∨ d = .string) {s x v : V} {us ux : Value} {st' : List Ob} (hs : RV P σ w s us) (hx : RV P σ w x ux) (h : aappend P σ.st t s x = some (v, st')) :
    YB P σ w (Builtin.append_ #[t, t'] ty #[us, ux]) v st' := by
  unfold aappend at h
  split at h
  · rename_i e ht
    split at h
    · rename_i sz by_ z ys m hsz hby hz hel
      split at h
      · rename_i hc
        obtain ⟨h0, hzs, hcl, hyl⟩ := hc
        obtain ⟨i, hi, hsz'⟩ := Option.map_eq_some_iff.1 hsz
        subst hsz'
        have hby' : i.bytes = by_ := by unfold bytesOf at hby; rw [hi] at hby; simpa using hby
        subst hby'
        have hiz : i.zero = some z := by unfold zeroOf at hz; rw [hi] at hz; simpa using hz
        obtain ⟨vs, hv, hL, hF, hF'⟩ := source_sound (P := P) hx hel hyl
        have hvl := RCl.length hv
        -- a new row
        have fresh : ∀ (A : Option Addr) (n c : Nat) (xs : List V) (os : List Value), n ≤ c → c = n → m ≠ 0 → us = .slice A n c → RCl σ.L w xs os → xs.length = n * i.size → (∀ a, A = some a → CA w a os) → (A = none → xs = [] ∧ n = 0) →
            (n + m) * i.bytes ≤ 140737488355328 → n + m ≤ 9223372036854775807 → YB P σ w (Builtin.append_ #[t, t'] ty #[us, ux]) (.sl σ.st.length 0 (n + m) false) (σ.st ++ [.row e (xs ++ ys) (n + m) 0 false]) := by
          intro A n c xs os hnc hcn hm0 hus hr hxl hca hnone hb h63
          have hol := RCl.length hr
          have hO : (Builtin.firstCells i.size n (.slice A n c)).run P w.drew = .ok os.toArray w.drew := by
            cases A with
            | none =>
              obtain ⟨rfl, rfl⟩ := hnone rfl
              simp at hol
              subst hol
              exact run_firstCells_none w.drew i.size 0 0 c
            | some a => exact run_firstCells_some w.drew i.size n a n c os (by omega) (fun j u hj => hca a rfl j u hj)
          have hrun := append_grow (P := P) (w := w) (ty := ty) ht ht' hd hi hiz hL hF' hO (by omega) h63 hb
          have hge := grownCap_ge w (n + m) c e
          have hle := grownCap_le_maxLen w (n + m) c e (by simp only [maxLen]; omega)
          have hnm : (n + m) * i.size = n * i.size + m * i.size := Nat.add_mul ..
          have hmul : (n + m) * i.size ≤ grownCap w (n + m) c e * i.size := Nat.mul_le_mul_right _ hge
          obtain ⟨g1, g2, g3⟩ := new_row (P := P) (w1 := w.drew.alloc (.cells (os ++ vs ++ (Builtin.zeroCells z.cells (grownCap w (n + m) c e - (n + m))).toList).toArray e)) (xs := xs ++ ys) (us := os ++ vs) (rest := (Builtin.zeroCells z.cells (grownCap w (n + m) c e - (n + m))).toList)
            (n := n + m) (C := grownCap w (n + m) c e) g rfl rfl rfl rfl hsz h0 (RCl.app hr hv) (by rw [List.length_append, hxl, hyl, hnm]) (by
              simp only [List.length_append, Array.length_toList, size_zeroCells, hzs, hol, hvl, hxl, hyl, Nat.sub_mul]; omega) hge hle
          rw [hus]
          exact ⟨_, _, _, hrun, rfl, g1, g2, g3⟩
        split at h
        · -- what is only read, and full
          rename_i xs n nil full
          simp only [RV, RC] at hs
          obtain ⟨A, c, os, hA, h2, h3, h4, h5, h6, h7, h8⟩ := hs
          split at h
          · rename_i hc2
            obtain ⟨hfull, hxl, hb, h63⟩ := hc2
            have hcn := h4 hfull
            split at h
            · rename_i hm0
              subst hm0
              cases h
              have hv0 : vs = [] := List.eq_nil_of_length_eq_zero (by rw [hvl, hyl]; simp)
              subst hv0
              have hrun := append_none (P := P) (w := w) (ty := ty) (A := A) (n := n) (c := c) ht ht' hd hi hL hF h2
              rw [hA]
              exact ⟨_, w, σ, hrun, rfl, g, .refl, by simp only [RV, RC]; exact ⟨A, c, os, rfl, h2, h3, h4, h5, h6, h7, h8⟩⟩
            · rename_i hm0
              cases h
              refine fresh A n c xs os h2 hcn hm0 hA h7 hxl (fun a ha => (h8 a ha).1) (fun ha => ?_) hb h63
              cases nil with
              | true => obtain ⟨_, k1, k2⟩ := h5 (by simp); exact ⟨k2, by omega⟩
              | false => exact absurd ha (h6 (by simp))
          · cases h
        · -- an own row
          rename_i id off len full
          split at h
          · rename_i e' xs n lo fz hst
            split at h
            · rename_i hc2
              obtain ⟨rfl, hb, h63, hlo⟩ := hc2
              have hs0 := hs
              simp only [RV, RSl] at hs
              obtain ⟨e2, xs2, n2, lo2, fz2, s2, k1, k2, k3, ⟨a5, c5, k5, k6, k7, k8⟩, k4⟩ := hs
              rw [hst] at k1; cases k1
              rw [hsz] at k2
              have hs2 := Option.some.inj k2
              subst hs2
              obtain ⟨b, c, C, q1, q2, q3, q4⟩ := k4 hlo
              rw [k5] at q1; cases q1
              have q2' := q2
              obtain ⟨e3, xs3, n3, lo3, fz3, s3, uu, fr, p1, p2, p3, p4, p5, p5', p6, p7, p8, p9, p10⟩ := q2
              rw [hst] at p1; cases p1
              rw [hsz] at p2
              have hs3 := Option.some.inj p2
              subst hs3
              have hro := g.1 id _ hst
              simp only [RO] at hro
              obtain ⟨us0, s0, C0, r1, r2, r3, r4, r5, r6, r7, r8, r9, r10, r11⟩ := hro
              rw [hsz] at r1
              have hs4 := Option.some.inj r1
              subst hs4
              split at h
              · rename_i hfull
                have hcn := k8 hfull
                split at h
                · rename_i hm0
                  subst hm0
                  cases h
                  have hv0 : vs = [] := List.eq_nil_of_length_eq_zero (by rw [hvl, hyl]; simp)
                  subst hv0
                  have hrun := append_none (P := P) (w := w) (ty := ty) (A := some ⟨b, off * i.size, none⟩) (n := len) (c := c5) ht ht' hd hi hL hF k6
                  rw [k5]
                  exact ⟨_, w, σ, hrun, rfl, g, .refl, by rw [← k5]; exact hs0⟩
                · rename_i hm0
                  cases h
                  have hd2 := RCl.drop (k := off * i.size) p8
                  have hm2 : (off + len) * i.size = off * i.size + len * i.size := Nat.add_mul ..
                  have hle2 : (off + len) * i.size ≤ n * i.size := Nat.mul_le_mul_right _ k3
                  rw [List.drop_take, List.drop_take, hm2, Nat.add_sub_cancel_left] at hd2
                  refine fresh _ len c5 _ _ k6 hcn hm0 k5 hd2 ?_ (fun a ha j u hj => ?_) (fun ha => by cases ha) hb h63
                  · rw [List.length_take, List.length_drop, r7]; omega
                  · cases ha
                    rw [add_at]
                    simp only [World.cell?, p6]
                    rw [List.getElem?_take] at hj
                    split at hj
                    · rw [List.getElem?_drop] at hj
                      simpa using hj
                    · cases hj
              · split at h
                · rename_i hnf hc3
                  obtain ⟨rfl, rfl, rfl⟩ := hc3
                  cases h
                  have hfl : full = false := by cases full <;> simp_all
                  have hcC := q4 hfl
                  obtain ⟨hbφ, hsz2⟩ := p10 (by omega)
                  subst hbφ
                  rw [r3] at p6; cases p6
                  have hCC : C0 = C := Nat.eq_of_mul_eq_mul_right h0 (by rw [← r4, hsz2])
                  subst hCC
                  have hc0 : c5 = C0 := by omega
                  subst hc0
                  have hnm : (len + m) * i.size = len * i.size + m * i.size := Nat.add_mul ..
                  by_cases hroom : len + m ≤ c5
                  · have hfit : (len + m) * i.size ≤ c5 * i.size := Nat.mul_le_mul_right _ hroom
                    have hrun := append_room (P := P) (w := w) (ty := ty) (g := σ.φ id) (n := len) (c := c5) ht ht' hd hi hL hF r3 hroom (by rw [hvl, hyl, hsz2]; omega) (RCl.one hv)
                    obtain ⟨g1, g2, g3⟩ := row_room (P := P) g hst r3 hsz hsz2 hroom (Chg.setRow r3) (vs := vs) (us' := (uu.toList.take (len * i.size) ++ vs ++ uu.toList.drop (len * i.size + vs.length)).toArray) (by simp) hv hyl
                    rw [k5, Nat.zero_mul]
                    exact ⟨_, _, _, hrun, rfl, g1, g2, g3⟩
                  · have hO : (Builtin.firstCells i.size len (.slice (some ⟨σ.φ id, 0, none⟩) len c5)).run P w.drew = .ok (uu.toList.take (len * i.size)).toArray w.drew := by
                      have hle3 : len * i.size ≤ c5 * i.size := Nat.mul_le_mul_right _ r5
                      refine run_firstCells_some w.drew i.size len _ len c5 _ (by rw [List.length_take, Array.length_toList, hsz2]; omega) (fun j u hj => ?_)
                      rw [add_at, Nat.zero_add]
                      show w.cell? _ = _
                      simp only [World.cell?, r3]
                      rw [List.getElem?_take] at hj
                      split at hj
                      · simpa using hj
                      · cases hj
                    have hrun := append_grow (P := P) (w := w) (ty := ty) ht ht' hd hi hiz hL hF' hO (by omega) h63 hb
                    have hge := grownCap_ge w (len + m) c5 e'
                    have hle := grownCap_le_maxLen w (len + m) c5 e' (by simp only [maxLen]; omega)
                    have hmul : (len + m) * i.size ≤ grownCap w (len + m) c5 e' * i.size := Nat.mul_le_mul_right _ hge
                    have hle3 : len * i.size ≤ c5 * i.size := Nat.mul_le_mul_right _ r5
                    obtain ⟨σ1, g0, g1, g2, g3⟩ := row_grow (P := P) (w1 := w.drew.alloc (.cells (uu.toList.take (len * i.size) ++ vs ++ (Builtin.zeroCells z.cells (grownCap w (len + m) c5 e' - (len + m))).toList).toArray e')) (m := m) (C := grownCap w (len + m) c5 e') g hst r3 hsz (by omega) rfl rfl rfl rfl hv hyl (by
                      simp only [List.length_append, List.length_take, Array.length_toList, size_zeroCells, hzs, hvl, hyl, hsz2, Nat.sub_mul]; omega) hge hle
                    rw [k5, Nat.zero_mul]
                    exact ⟨_, _, σ1, hrun, g0, g1, g2, g3⟩
                · cases h
            · cases h
          · cases h
        · cases h
      · cases h
    · cases h
  · cases h

theorem y_builtin (g : Good P σ w) {b : Builtin} {ts : Array TypeId} {ty : TypeId} {cs : Array Bool} {args : List V} {us : List Value} {v : V} {st' : List Ob} (hr : RVl P σ w args us) (h : abuiltin P σ.st b ts args = some (v, st')) :
    ∃ u w' σ', (builtin b ts ty cs us.toArray).run P w = .ok (.value u) w' ∧ σ'.st = st' ∧ Good P σ' w' ∧ Stp P σ σ' w w' ∧ RV P σ' w' v u := by
  unfold abuiltin at h
  split at h
  · rename_i t t' s x hts
    have hts' : ts = #[t, t'] := by rw [← Array.toArray_toList (xs := ts), hts]
    subst hts'
    simp only [RVl] at hr
    obtain ⟨us1, _, rfl, hs, us2, _, rfl, hx, rfl⟩ := hr
    have key : ∀ d, P.underlying t' = some d → ((∃ e', d = .slice e') ∨ d = .string) → aappend P σ.st t s x = some (v, st') → ∃ u w' σ', (builtin .append #[t, t'] ty cs [us1, us2].toArray).run P w = .ok (.value u) w' ∧ σ'.st = st' ∧ Good P σ' w' ∧ Stp P σ σ' w w' ∧ RV P σ' w' v u := by
      intro d h1 h2 h3
      obtain ⟨u, w', σ', k1, k2⟩ := y_append (P := P) (ty := ty) g h1 h2 hs hx h3
      exact ⟨u, w', σ', by simp only [builtin]; exact run_v (α := Unit) k1, k2⟩
    split at h
    · rename_i e' hu
      exact key _ hu (.inl ⟨e', rfl⟩) h
    · rename_i hu
      exact key _ hu (.inr rfl) h
    · cases h
  · rename_i t x hts
    have hts' : ts = #[t] := by rw [← Array.toArray_toList (xs := ts), hts]
    subst hts'
    simp only [RVl] at hr
    obtain ⟨u1, _, rfl, hx, rfl⟩ := hr
    have key : ∀ n : Nat, (Builtin.len_ #[t] ty #[u1]).run P w = .ok (goInt n) w → (∃ u w' σ', (builtin .len #[t] ty cs [u1].toArray).run P w = .ok (.value u) w' ∧ σ'.st = σ.st ∧ Good P σ' w' ∧ Stp P σ σ' w w' ∧ RV P σ' w' (.sc (.int .i64 n)) u) := by
      intro n hn
      exact ⟨goInt n, w, σ, by simp only [builtin]; exact run_v (α := Unit) hn, rfl, g, .refl, by simp only [RV, goInt]⟩
    split at h
    · rename_i e id off n full hu
      cases h
      simp only [RV, RSl] at hx
      obtain ⟨_, _, _, _, _, _, _, _, _, ⟨a, c, rfl, _⟩, _⟩ := hx
      exact key n (by simp [Builtin.len_, Sem.run_bind, run_underlying hu])
    · rename_i e xs n nil full hu
      cases h
      simp only [RV, RC] at hx
      obtain ⟨A, c, _, rfl, _⟩ := hx
      exact key n (by simp [Builtin.len_, Sem.run_bind, run_underlying hu])
    · rename_i b hu
      cases h
      simp only [RV] at hx
      subst hx
      exact key b.size (by simp [Builtin.len_, Sem.run_bind, run_underlying hu])
    · cases h
  · split at h
    · rename_i vs hm
      obtain ⟨u, hu, hh⟩ := Option.map_eq_some_iff.1 h
      cases hh
      have := mapM_unSc hm hr
      subst this
      have hp := pureRun_sound hu w
      exact ⟨u, w, σ, by simp only [builtin]; exact run_v (α := Unit) hp, rfl, g, .refl, by simp only [RV]⟩
    · cases h
  · split at h
    · rename_i vs hm
      obtain ⟨u, hu, hh⟩ := Option.map_eq_some_iff.1 h
      cases hh
      have := mapM_unSc hm hr
      subst this
      have hp := pureRun_sound hu w
      exact ⟨u, w, σ, by simp only [builtin]; exact run_v (α := Unit) hp, rfl, g, .refl, by simp only [RV]⟩
    · cases h
  · cases h
theorem y_builtin_quiet (g : Good P σ w) {b : Builtin} {ts : Array TypeId} {ty : TypeId} {cs : Array Bool} {args : List V} {us : List Value} {v : V} {st' : List Ob} (hb : b ≠ .append) (hr : RVl P σ w args us) (h : abuiltin P σ.st b ts args = some (v, st')) :
    st' = σ.st ∧ ∃ u, (builtin b ts ty cs us.toArray).run P w = .ok (.value u) w ∧ RV P σ w v u := by
  unfold abuiltin at h
  split at h
  · exact absurd rfl hb
  · rename_i t x hts
    have hts' : ts = #[t] := by rw [← Array.toArray_toList (xs := ts), hts]
    subst hts'
    simp only [RVl] at hr
    obtain ⟨u1, _, rfl, hx, rfl⟩ := hr
    have key : ∀ n : Nat, (Builtin.len_ #[t] ty #[u1]).run P w = .ok (goInt n) w → (σ.st = σ.st ∧ ∃ u, (builtin .len #[t] ty cs [u1].toArray).run P w = .ok (.value u) w ∧ RV P σ w (.sc (.int .i64 n)) u) := by
      intro n hn
      exact ⟨rfl, goInt n, by simp only [builtin]; exact run_v (α := Unit) hn, by simp only [RV, goInt]⟩
    split at h
    · rename_i e id off n full hu
      cases h
      simp only [RV, RSl] at hx
      obtain ⟨_, _, _, _, _, _, _, _, _, ⟨a, c, rfl, _⟩, _⟩ := hx
      exact key n (by simp [Builtin.len_, Sem.run_bind, run_underlying hu])
    · rename_i e xs n nil full hu
      cases h
      simp only [RV, RC] at hx
      obtain ⟨A, c, _, rfl, _⟩ := hx
      exact key n (by simp [Builtin.len_, Sem.run_bind, run_underlying hu])
    · rename_i b hu
      cases h
      simp only [RV] at hx
      subst hx
      exact key b.size (by simp [Builtin.len_, Sem.run_bind, run_underlying hu])
    · cases h
  · split at h
    · rename_i vs hm
      obtain ⟨u, hu, hh⟩ := Option.map_eq_some_iff.1 h
      cases hh
      have := mapM_unSc hm hr
      subst this
      have hp := pureRun_sound hu w
      exact ⟨rfl, u, by simp only [builtin]; exact run_v (α := Unit) hp, by simp only [RV]⟩
    · cases h
  · split at h
    · rename_i vs hm
      obtain ⟨u, hu, hh⟩ := Option.map_eq_some_iff.1 h
      cases hh
      have := mapM_unSc hm hr
      subst this
      have hp := pureRun_sound hu w
      exact ⟨rfl, u, by simp only [builtin]; exact run_v (α := Unit) hp, by simp only [RV]⟩
    · cases h
  · cases h
end
end Go.M
