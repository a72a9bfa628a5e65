/- The built-ins, as the machine tells them. -/
import Derived.Test.YtpdhoicpaonggaaGreatME
set_option linter.unusedVariables false
set_option linter.unusedSimpArgs false
namespace Go.M
open Go Go.RowKit
section
variable {P : Program} {σ σ' : Sg} {w w' w1 : World} {L L' : Nat → Lb}

def YB (P : Program) (σ : Sg) (w : World) (s : Sem Value) (v : V) (st' : List Ob) : Prop :=
  ∃ u w' σ', s.run P w = .ok u w' ∧ σ'.st = st' ∧ Good P σ' w' ∧ Stp P σ σ' w w' ∧ RV P σ' w' v u

set_option maxHeartbeats 1600000 in
theorem y_append (g : Good P σ w) {t t' ty : TypeId} {d : TypeDesc} (ht' : P.underlying t' = some d) (hd : (∃ e', d = .slice e') ∨ d = .string) {s x v : V} {us ux : Value} {st' : List Ob} (hs : RV P σ w s us) (hx : RV P σ w x ux) (h : aappend P σ.st t s x = some (v, st')) :
    YB P σ w (Builtin.append_ #[t, t'] ty #[us, ux]) v st' := by
  unfold aappend at h
  split at h
  · rename_i e ht
    split at h
    · rename_i sz by_ z ys m hsz hby hz hel
      split at h
      · rename_i hc
        obtain ⟨h0, hzs, hcl, hyl⟩ := hc
        obtain ⟨i, hi, hsz'⟩ := Option.map_eq_some_iff.1 hsz
        subst hsz'
        have hby' : i.bytes = by_ := by unfold bytesOf at hby; rw [hi] at hby; simpa using hby
        subst hby'
        have hiz : i.zero = some z := by unfold zeroOf at hz; rw [hi] at hz; simpa using hz
        obtain ⟨vs, hv, hL, hF, hF'⟩ := source_sound (P := P) hx hel hyl
        have hvl := RCl.length hv
        -- a new row
        have fresh : ∀ (A : Option Addr) (n c : Nat) (xs : List V) (os : List Value), n ≤ c → c = n → m ≠ 0 → us = .slice A n c → RCl σ.L w xs os → xs.length = n * i.size → (∀ a, A = some a → CA w a os) → (A = none → xs = [] ∧ n = 0) →
            (n + m) * i.bytes ≤ 140737488355328 → n + m ≤ 9223372036854775807 → YB P σ w (Builtin.append_ #[t, t'] ty #[us, ux]) (.sl σ.st.length 0 (n + m) false (n + m)) (σ.st ++ [.row e (xs ++ ys) (n + m) 0 false]) := by
          intro A n c xs os hnc hcn hm0 hus hr hxl hca hnone hb h63
          have hol := RCl.length hr
          have hO : (Builtin.firstCells i.size n (.slice A n c)).run P w.drew = .ok os.toArray w.drew := by
            cases A with
            | none =>
              obtain ⟨rfl, rfl⟩ := hnone rfl
              simp at hol
              subst hol
              exact run_firstCells_none w.drew i.size 0 0 c
            | some a => exact run_firstCells_some w.drew i.size n a n c os (by omega) (fun j u hj => hca a rfl j u hj)
          have hrun := append_grow (P := P) (w := w) (ty := ty) ht ht' hd hi hiz hL hF' hO (by omega) h63 hb
          have hge := grownCap_ge w (n + m) c e
          have hle := grownCap_le_maxLen w (n + m) c e (by simp only [maxLen]; omega)
          have hnm : (n + m) * i.size = n * i.size + m * i.size := Nat.add_mul ..
          have hmul : (n + m) * i.size ≤ grownCap w (n + m) c e * i.size := Nat.mul_le_mul_right _ hge
          obtain ⟨g1, g2, g3⟩ := new_row (P := P) (w1 := w.drew.alloc (.cells (os ++ vs ++ (Builtin.zeroCells z.cells (grownCap w (n + m) c e - (n + m))).toList).toArray e)) (xs := xs ++ ys) (us := os ++ vs) (rest := (Builtin.zeroCells z.cells (grownCap w (n + m) c e - (n + m))).toList)
            (n := n + m) (C := grownCap w (n + m) c e) g rfl rfl rfl rfl hsz h0 (RCl.app hr hv) (by rw [List.length_append, hxl, hyl, hnm]) (by
              simp only [List.length_append, Array.length_toList, size_zeroCells, hzs, hol, hvl, hxl, hyl, Nat.sub_mul]; omega) hge hle
          rw [hus]
          exact ⟨_, _, _, hrun, rfl, g1, g2, g3⟩
        split at h
        · -- what is only read, and full
          rename_i xs n nil full
          simp only [RV, RC] at hs
          obtain ⟨A, c, os, hA, h2, h3, h4, h5, h6, h7, h8⟩ := hs
          split at h
          · rename_i hc2
            obtain ⟨hfull, hxl, hb, h63⟩ := hc2
            have hcn := h4 hfull
            split at h
            · rename_i hm0
              subst hm0
              cases h
              have hv0 : vs = [] := List.eq_nil_of_length_eq_zero (by rw [hvl, hyl]; simp)
              subst hv0
              have hrun := append_none (P := P) (w := w) (ty := ty) (A := A) (n := n) (c := c) ht ht' hd hi hL hF h2
              rw [hA]
              exact ⟨_, w, σ, hrun, rfl, g, .refl, by simp only [RV, RC]; exact ⟨A, c, os, rfl, h2, h3, h4, h5, h6, h7, h8⟩⟩
            · rename_i hm0
              cases h
              refine fresh A n c xs os h2 hcn hm0 hA h7 hxl (fun a ha => (h8 a ha).1) (fun ha => ?_) hb h63
              cases nil with
              | true => obtain ⟨_, k1, k2⟩ := h5 (by simp); exact ⟨k2, by omega⟩
              | false => exact absurd ha (h6 (by simp))
          · cases h
        · -- an own row
          rename_i id off len full gg
          split at h
          · rename_i e' xs n lo fz hst
            split at h
            · rename_i hc2
              obtain ⟨rfl, hb, h63, hlo⟩ := hc2
              have hs0 := hs
              simp only [RV, RSl] at hs
              obtain ⟨e2, xs2, n2, lo2, fz2, s2, k1, k2, k3, ⟨a5, c5, k5, k6, k7, k8⟩, k4⟩ := hs
              rw [hst] at k1; cases k1
              rw [hsz] at k2
              have hs2 := Option.some.inj k2
              subst hs2
              obtain ⟨b, c, C, q1, q2, q3, q4⟩ := k4 hlo
              rw [k5] at q1; cases q1
              have q2' := q2
              obtain ⟨e3, xs3, n3, lo3, fz3, s3, uu, fr, p1, p2, p3, p4, p5, p5', p6, p7, p8, p9, p10⟩ := q2
              rw [hst] at p1; cases p1
              rw [hsz] at p2
              have hs3 := Option.some.inj p2
              subst hs3
              have hro := g.1 id _ hst
              simp only [RO] at hro
              obtain ⟨us0, s0, C0, r1, r2, r3, r4, r5, r6, r7, r8, r9, r10, r11⟩ := hro
              rw [hsz] at r1
              have hs4 := Option.some.inj r1
              subst hs4
              split at h
              · rename_i hfull
                have hcn := k8 hfull
                split at h
                · rename_i hm0
                  subst hm0
                  cases h
                  have hv0 : vs = [] := List.eq_nil_of_length_eq_zero (by rw [hvl, hyl]; simp)
                  subst hv0
                  have hrun := append_none (P := P) (w := w) (ty := ty) (A := some ⟨b, off * i.size, none⟩) (n := len) (c := c5) ht ht' hd hi hL hF k6
                  rw [k5]
                  exact ⟨_, w, σ, hrun, rfl, g, .refl, by rw [← k5]; exact hs0⟩
                · rename_i hm0
                  cases h
                  have hd2 := RCl.take (k := len * i.size) (RCl.drop (k := off * i.size) p8)
                  have hm2 : (off + len) * i.size = off * i.size + len * i.size := Nat.add_mul ..
                  have hgg : (off + len) * i.size ≤ gg * i.size := Nat.mul_le_mul_right _ k3.1
                  have hle2 : (off + len) * i.size ≤ n * i.size := Nat.mul_le_mul_right _ (Nat.le_trans k3.1 k3.2)
                  rw [List.drop_take, List.drop_take, List.take_take, List.take_take, Nat.min_eq_left (by omega)] at hd2
                  refine fresh _ len c5 _ _ k6 hcn hm0 k5 hd2 ?_ (fun a ha j u hj => ?_) (fun ha => by cases ha) hb h63
                  · rw [List.length_take, List.length_drop, r7]; omega
                  · cases ha
                    rw [add_at]
                    simp only [World.cell?, p6]
                    rw [List.getElem?_take] at hj
                    split at hj
                    · rw [List.getElem?_drop] at hj
                      simpa using hj
                    · cases hj
              · split at h
                · rename_i hnf hc3
                  obtain ⟨rfl, rfl, rfl⟩ := hc3
                  cases h
                  have hgl : gg = len := by omega
                  subst hgl
                  have hfl : full = false := by cases full <;> simp_all
                  have hcC := q4 hfl
                  obtain ⟨hbφ, hsz2⟩ := p10 (by omega)
                  subst hbφ
                  rw [r3] at p6; cases p6
                  have hCC : C0 = C := Nat.eq_of_mul_eq_mul_right h0 (by rw [← r4, hsz2])
                  subst hCC
                  have hc0 : c5 = C0 := by omega
                  subst hc0
                  have hnm : (gg + m) * i.size = gg * i.size + m * i.size := Nat.add_mul ..
                  by_cases hroom : gg + m ≤ c5
                  · have hfit : (gg + m) * i.size ≤ c5 * i.size := Nat.mul_le_mul_right _ hroom
                    have hrun := append_room (P := P) (w := w) (ty := ty) (g := σ.φ id) (n := gg) (c := c5) ht ht' hd hi hL hF r3 hroom (by rw [hvl, hyl, hsz2]; omega) (RCl.one hv)
                    obtain ⟨g1, g2, g3⟩ := row_room (P := P) g hst r3 hsz hsz2 hroom (Chg.setRow r3) (vs := vs) (us' := (uu.toList.take (gg * i.size) ++ vs ++ uu.toList.drop (gg * i.size + vs.length)).toArray) (by simp) hv hyl
                    rw [k5, Nat.zero_mul]
                    exact ⟨_, _, _, hrun, rfl, g1, g2, g3⟩
                  · have hO : (Builtin.firstCells i.size gg (.slice (some ⟨σ.φ id, 0, none⟩) gg c5)).run P w.drew = .ok (uu.toList.take (gg * i.size)).toArray w.drew := by
                      have hle3 : gg * i.size ≤ c5 * i.size := Nat.mul_le_mul_right _ r5
                      refine run_firstCells_some w.drew i.size gg _ gg c5 _ (by rw [List.length_take, Array.length_toList, hsz2]; omega) (fun j u hj => ?_)
                      rw [add_at, Nat.zero_add]
                      show w.cell? _ = _
                      simp only [World.cell?, r3]
                      rw [List.getElem?_take] at hj
                      split at hj
                      · simpa using hj
                      · cases hj
                    have hrun := append_grow (P := P) (w := w) (ty := ty) ht ht' hd hi hiz hL hF' hO (by omega) h63 hb
                    have hge := grownCap_ge w (gg + m) c5 e'
                    have hle := grownCap_le_maxLen w (gg + m) c5 e' (by simp only [maxLen]; omega)
                    have hmul : (gg + m) * i.size ≤ grownCap w (gg + m) c5 e' * i.size := Nat.mul_le_mul_right _ hge
                    have hle3 : gg * i.size ≤ c5 * i.size := Nat.mul_le_mul_right _ r5
                    obtain ⟨σ1, g0, g1, g2, g3⟩ := row_grow (P := P) (w1 := w.drew.alloc (.cells (uu.toList.take (gg * i.size) ++ vs ++ (Builtin.zeroCells z.cells (grownCap w (gg + m) c5 e' - (gg + m))).toList).toArray e')) (m := m) (C := grownCap w (gg + m) c5 e') g hst r3 hsz (by omega) rfl rfl rfl rfl hv hyl (by
                      simp only [List.length_append, List.length_take, Array.length_toList, size_zeroCells, hzs, hvl, hyl, hsz2, Nat.sub_mul]; omega) hge hle
                    rw [k5, Nat.zero_mul]
                    exact ⟨_, _, σ1, hrun, g0, g1, g2, g3⟩
                · cases h
            · cases h
          · cases h
        · cases h
      · cases h
    · cases h
  · cases h

theorem y_builtin (g : Good P σ w) {b : Builtin} {ts : Array TypeId} {ty : TypeId} {cs : Array Bool} {args : List V} {us : List Value} {v : V} {st' : List Ob} (hr : RVl P σ w args us) (h : abuiltin P σ.st b ts args = some (v, st')) :
    ∃ u w' σ', (builtin b ts ty cs us.toArray).run P w = .ok (.value u) w' ∧ σ'.st = st' ∧ Good P σ' w' ∧ Stp P σ σ' w w' ∧ RV P σ' w' v u := by
  unfold abuiltin at h
  split at h
  · rename_i t t' s x hts
    have hts' : ts = #[t, t'] := by rw [← Array.toArray_toList (xs := ts), hts]
    subst hts'
    simp only [RVl] at hr
    obtain ⟨us1, _, rfl, hs, us2, _, rfl, hx, rfl⟩ := hr
    have key : ∀ d, P.underlying t' = some d → ((∃ e', d = .slice e') ∨ d = .string) → aappend P σ.st t s x = some (v, st') → ∃ u w' σ', (builtin .append #[t, t'] ty cs [us1, us2].toArray).run P w = .ok (.value u) w' ∧ σ'.st = st' ∧ Good P σ' w' ∧ Stp P σ σ' w w' ∧ RV P σ' w' v u := by
      intro d h1 h2 h3
      obtain ⟨u, w', σ', k1, k2⟩ := y_append (P := P) (ty := ty) g h1 h2 hs hx h3
      exact ⟨u, w', σ', by simp only [builtin]; exact run_v (α := Unit) k1, k2⟩
    split at h
    · rename_i e' hu
      exact key _ hu (.inl ⟨e', rfl⟩) h
    · rename_i hu
      exact key _ hu (.inr rfl) h
    · cases h
  · rename_i t x hts
    have hts' : ts = #[t] := by rw [← Array.toArray_toList (xs := ts), hts]
    subst hts'
    simp only [RVl] at hr
    obtain ⟨u1, _, rfl, hx, rfl⟩ := hr
    have key : ∀ n : Nat, (Builtin.len_ #[t] ty #[u1]).run P w = .ok (goInt n) w → (∃ u w' σ', (builtin .len #[t] ty cs [u1].toArray).run P w = .ok (.value u) w' ∧ σ'.st = σ.st ∧ Good P σ' w' ∧ Stp P σ σ' w w' ∧ RV P σ' w' (.sc (.int .i64 n)) u) := by
      intro n hn
      exact ⟨goInt n, w, σ, by simp only [builtin]; exact run_v (α := Unit) hn, rfl, g, .refl, by simp only [RV, goInt]⟩
    split at h
    · rename_i e id off n full gg hu
      cases h
      simp only [RV, RSl] at hx
      obtain ⟨_, _, _, _, _, _, _, _, _, ⟨a, c, rfl, _⟩, _⟩ := hx
      exact key n (by simp [Builtin.len_, Sem.run_bind, run_underlying hu])
    · rename_i e xs n nil full hu
      cases h
      simp only [RV, RC] at hx
      obtain ⟨A, c, _, rfl, _⟩ := hx
      exact key n (by simp [Builtin.len_, Sem.run_bind, run_underlying hu])
    · rename_i b hu
      cases h
      simp only [RV] at hx
      subst hx
      exact key b.size (by simp [Builtin.len_, Sem.run_bind, run_underlying hu])
    · cases h
  · rename_i t t2 x k hts
    have hts' : ts = #[t, t2] := by rw [← Array.toArray_toList (xs := ts), hts]
    subst hts'
    simp only [RVl] at hr
    obtain ⟨us1, _, rfl, hx, us2, _, rfl, hk, rfl⟩ := hr
    exact y_delete g hx hk h
  · rename_i t x hts
    have hts' : ts = #[t] := by rw [← Array.toArray_toList (xs := ts), hts]
    subst hts'
    simp only [RVl] at hr
    obtain ⟨us1, _, rfl, hx, rfl⟩ := hr
    exact y_clear g hx h
  · split at h
    · rename_i vs hm
      obtain ⟨u, hu, hh⟩ := Option.map_eq_some_iff.1 h
      cases hh
      have := mapM_unSc hm hr
      subst this
      have hp := pureRun_sound hu w
      exact ⟨u, w, σ, by simp only [builtin]; exact run_v (α := Unit) hp, rfl, g, .refl, by simp only [RV]⟩
    · cases h
  · split at h
    · rename_i vs hm
      obtain ⟨u, hu, hh⟩ := Option.map_eq_some_iff.1 h
      cases hh
      have := mapM_unSc hm hr
      subst this
      have hp := pureRun_sound hu w
      exact ⟨u, w, σ, by simp only [builtin]; exact run_v (α := Unit) hp, rfl, g, .refl, by simp only [RV]⟩
    · cases h
  · cases h
theorem y_builtin_quiet (g : Good P σ w) {b : Builtin} {ts : Array TypeId} {ty : TypeId} {cs : Array Bool} {args : List V} {us : List Value} {v : V} {st' : List Ob} (hb : b ≠ .append ∧ b ≠ .delete ∧ b ≠ .clear) (hr : RVl P σ w args us) (h : abuiltin P σ.st b ts args = some (v, st')) :
    st' = σ.st ∧ ∃ u, (builtin b ts ty cs us.toArray).run P w = .ok (.value u) w ∧ RV P σ w v u := by
  unfold abuiltin at h
  split at h
  · exact absurd rfl hb.1
  · rename_i t x hts
    have hts' : ts = #[t] := by rw [← Array.toArray_toList (xs := ts), hts]
    subst hts'
    simp only [RVl] at hr
    obtain ⟨u1, _, rfl, hx, rfl⟩ := hr
    have key : ∀ n : Nat, (Builtin.len_ #[t] ty #[u1]).run P w = .ok (goInt n) w → (σ.st = σ.st ∧ ∃ u, (builtin .len #[t] ty cs [u1].toArray).run P w = .ok (.value u) w ∧ RV P σ w (.sc (.int .i64 n)) u) := by
      intro n hn
      exact ⟨rfl, goInt n, by simp only [builtin]; exact run_v (α := Unit) hn, by simp only [RV, goInt]⟩
    split at h
    · rename_i e id off n full gg hu
      cases h
      simp only [RV, RSl] at hx
      obtain ⟨_, _, _, _, _, _, _, _, _, ⟨a, c, rfl, _⟩, _⟩ := hx
      exact key n (by simp [Builtin.len_, Sem.run_bind, run_underlying hu])
    · rename_i e xs n nil full hu
      cases h
      simp only [RV, RC] at hx
      obtain ⟨A, c, _, rfl, _⟩ := hx
      exact key n (by simp [Builtin.len_, Sem.run_bind, run_underlying hu])
    · rename_i b hu
      cases h
      simp only [RV] at hx
      subst hx
      exact key b.size (by simp [Builtin.len_, Sem.run_bind, run_underlying hu])
    · cases h
  · exact absurd rfl hb.2.1
  · exact absurd rfl hb.2.2
  · split at h
    · rename_i vs hm
      obtain ⟨u, hu, hh⟩ := Option.map_eq_some_iff.1 h
      cases hh
      have := mapM_unSc hm hr
      subst this
      have hp := pureRun_sound hu w
      exact ⟨rfl, u, by simp only [builtin]; exact run_v (α := Unit) hp, by simp only [RV]⟩
    · cases h
  · split at h
    · rename_i vs hm
      obtain ⟨u, hu, hh⟩ := Option.map_eq_some_iff.1 h
      cases hh
      have := mapM_unSc hm hr
      subst this
      have hp := pureRun_sound hu w
      exact ⟨rfl, u, by simp only [builtin]; exact run_v (α := Unit) hp, by simp only [RV]⟩
    · cases h
  · cases h
end
end Go.M
namespace Go.M
open Go Go.RowKit

def KG (s s' : List Ob) : Prop := (∀ (i : Nat), s[i]? = some .gone → s'[i]? = some .gone) ∧ ∀ (i : Nat) (o : Ob), s[i]? = some o → o ≠ .gone → ∃ o', s'[i]? = some o' ∧ o' ≠ .gone
theorem KG.refl (s : List Ob) : KG s s := ⟨fun _ h => h, fun _ o h hn => ⟨o, h, hn⟩⟩
theorem KG.trans {a b c : List Ob} (h : KG a b) (k : KG b c) : KG a c := ⟨fun i hi => k.1 i (h.1 i hi), fun i o hi hn => by obtain ⟨o', h1, h2⟩ := h.2 i o hi hn; exact k.2 i o' h1 h2⟩
theorem KG.push (s : List Ob) (o : Ob) : KG s (s ++ [o]) := ⟨fun i h => by rw [List.getElem?_append_left (List.getElem?_eq_some_iff.1 h).1]; exact h, fun i o' h hn => ⟨o', by rw [List.getElem?_append_left (List.getElem?_eq_some_iff.1 h).1]; exact h, hn⟩⟩
theorem KG.set {s : List Ob} {id : Nat} {o o' : Ob} (h : s[id]? = some o) (hn : o ≠ .gone) (hn' : o' ≠ .gone) : KG s (s.set id o') := by
  have hlt := (List.getElem?_eq_some_iff.1 h).1
  refine ⟨fun i hi => ?_, fun i x hi hx => ?_⟩
  · by_cases hii : id = i
    · subst hii; rw [h] at hi; cases hi; exact absurd rfl hn
    · rw [List.getElem?_set_ne hii]; exact hi
  · by_cases hii : id = i
    · subst hii; exact ⟨o', by rw [List.getElem?_set_self hlt], hn'⟩
    · exact ⟨x, by rw [List.getElem?_set_ne hii]; exact hi, hx⟩

section
variable {P : Program} {ov : Nat → Option Ob}
theorem over_at (st : List Ob) (i : Nat) : (over ov st)[i]? = match st[i]? with
    | some .gone => some ((ov i).getD .gone)
    | o => o := by
  simp only [over, List.getElem?_mapIdx]
  cases st[i]? with
  | none => rfl
  | some o => cases o <;> rfl
theorem over_len (st : List Ob) : (over ov st).length = st.length := by simp [over]
theorem over_none (st : List Ob) : over (fun _ => none) st = st := by
  apply List.ext_getElem?
  intro i
  rw [over_at]
  cases st[i]? with
  | none => rfl
  | some o => cases o <;> rfl
theorem fill_get {st : List Ob} {id : Nat} {o : Ob} (h : st[id]? = some o) (hn : o ≠ .gone) : (over ov st)[id]? = some o := by
  rw [over_at, h]
  cases o <;> first | rfl | exact absurd rfl hn
theorem fill_cells {st : List Ob} {id : Nat} {xs : List V} (h : st[id]? = some (.cells xs)) : (over ov st)[id]? = some (.cells xs) := fill_get h (by simp)
theorem fill_row {st : List Ob} {id : Nat} {e : TypeId} {xs : List V} {n lo : Nat} {fz : Bool} (h : st[id]? = some (.row e xs n lo fz)) : (over ov st)[id]? = some (.row e xs n lo fz) := fill_get h (by simp)
theorem fill_map {st : List Ob} {id : Nat} {es : List (Value × V)} (h : st[id]? = some (.map es)) : (over ov st)[id]? = some (.map es) := fill_get h (by simp)
theorem fill_loop {st : List Ob} {id : Nat} {s : LoopState} {p : Option Code} {pl : Nat → Option (List PI)} {t : List V} {ps : List Tmp} {a b : Code} (h : st[id]? = some (.loop s p pl t ps a b)) : (over ov st)[id]? = some (.loop s p pl t ps a b) := fill_get h (by simp)
theorem fill_push (st : List Ob) {o : Ob} (hn : o ≠ .gone) : over ov st ++ [o] = over ov (st ++ [o]) := by
  cases o <;> first | exact absurd rfl hn | simp only [over, List.mapIdx_append, List.mapIdx_cons, List.mapIdx_nil]
theorem fill_push_c (st : List Ob) (xs : List V) : over ov st ++ [.cells xs] = over ov (st ++ [.cells xs]) := fill_push st (by simp)
theorem fill_push_r (st : List Ob) (e : TypeId) (xs : List V) (n lo : Nat) (fz : Bool) : over ov st ++ [.row e xs n lo fz] = over ov (st ++ [.row e xs n lo fz]) := fill_push st (by simp)
theorem fill_set {st : List Ob} {id : Nat} {o : Ob} (hn : o ≠ .gone) : (over ov st).set id o = over ov (st.set id o) := by
  apply List.ext_getElem?
  intro i
  rw [over_at, List.getElem?_set, List.getElem?_set, over_at]
  by_cases hi : id = i
  · simp only [hi, if_true, over_len]
    split
    · cases o <;> first | rfl | exact absurd rfl hn
    · rfl
  · simp only [if_neg hi]

theorem fill_set_c (st : List Ob) (id : Nat) (xs : List V) : (over ov st).set id (.cells xs) = over ov (st.set id (.cells xs)) := fill_set (by simp)
theorem fill_set_r (st : List Ob) (id : Nat) (e : TypeId) (xs : List V) (n lo : Nat) (fz : Bool) : (over ov st).set id (.row e xs n lo fz) = over ov (st.set id (.row e xs n lo fz)) := fill_set (by simp)
theorem fill_push_m (st : List Ob) (es : List (Value × V)) : over ov st ++ [.map es] = over ov (st ++ [.map es]) := fill_push st (by simp)
theorem fill_set_m (st : List Ob) (id : Nat) (es : List (Value × V)) : (over ov st).set id (.map es) = over ov (st.set id (.map es)) := fill_set (by simp)
theorem fill_push_l (st : List Ob) (s : LoopState) (p : Option Code) (pl : Nat → Option (List PI)) (t : List V) (ps : List Tmp) (a b : Code) : over ov st ++ [.loop s p pl t ps a b] = over ov (st ++ [.loop s p pl t ps a b]) := fill_push st (by simp)
theorem fill_set_l (st : List Ob) (id : Nat) (s : LoopState) (p : Option Code) (pl : Nat → Option (List PI)) (t : List V) (ps : List Tmp) (a b : Code) : (over ov st).set id (.loop s p pl t ps a b) = over ov (st.set id (.loop s p pl t ps a b)) := fill_set (by simp)
theorem alookup_maps {a b : List Ob} (hle : ∀ (id : Nat) (es : List (Value × V)), a[id]? = some (.map es) → b[id]? = some (.map es)) {t : TypeId} {x k : V} {c : Bool} {v : V} (h : alookup P a t x k c = some v) : alookup P b t x k c = some v := by
  unfold alookup at h ⊢
  split at h
  · rename_i kt e kv hu hkv
    try simp only [hu, hkv]
    try simp only at h ⊢
    split at h
    · rename_i id
      split at h
      · rename_i es hes
        try simp only [hle _ _ hes]
        exact h
      · cases h
    · exact h
    · cases h
  · cases h
theorem mlen_maps {a b : List Ob} (hle : ∀ (id : Nat) (es : List (Value × V)), a[id]? = some (.map es) → b[id]? = some (.map es)) {bi : Builtin} {ts : Array TypeId} {args : List V} {v : V} (h : mlen P a bi ts args = some v) : mlen P b bi ts args = some v := by
  unfold mlen at h ⊢
  split at h
  · rename_i t x hts
    try simp only [hts]
    split at h
    · exact h
    · rename_i kt e id hu
      split at h
      · rename_i es hes
        simp only [hle _ _ hes]
        exact h
      · cases h
    · cases h
  · cases h
theorem aupdate_fill {st st' : List Ob} {t : TypeId} {x k v : V} (h : aupdate P st t x k v = some st') : aupdate P (over ov st) t x k v = some (over ov st') ∧ KG st st' := by
  unfold aupdate at h ⊢
  split at h
  · rename_i kt e kv id hu hkv
    try simp only [hu, hkv]
    split at h
    · rename_i es hes
      simp only [fill_map hes]
      split at h
      · rename_i hh
        simp only [if_pos hh]
        split at h
        · rename_i u0 i h1 h2
          try simp only [h1, h2]
          split at h
          · rename_i en hen
            try simp only [hen]
            split at h
            · rename_i hs
              cases h
              simp only [if_pos hs, fill_set_m]
              exact ⟨trivial, .set hes (by simp) (by simp)⟩
            · cases h
          · cases h
        · rename_i u0 h1 h2
          cases h
          simp only [h1, h2, fill_set_m]
          exact ⟨trivial, .set hes (by simp) (by simp)⟩
        · cases h
      · cases h
    · cases h
  · cases h
theorem elems_fill {st : List Ob} {e : TypeId} {x : V} {y : List V × Nat} (h : elems P st e x = some y) : elems P (over ov st) e x = some y := by
  unfold elems at h ⊢
  cases x with
  | sl id off len full =>
    simp only at h ⊢
    split at h
    · rename_i e' xs n lo fz s h1 h2
      simp only [fill_row h1, h2]
      exact h
    · cases h
  | sc v => cases v <;> simp only at h ⊢ <;> exact h
  | _ => simp only at h ⊢ <;> exact h

theorem aslice_fill {st : List Ob} {t : TypeId} {x : V} {lo hi mx : Option V} {v : V} (h : aslice P st t x lo hi mx = some v) : aslice P (over ov st) t x lo hi mx = some v := by
  unfold aslice at h ⊢
  cases x with
  | sl id off n full =>
    simp only at h ⊢
    split at h
    · rename_i e he
      split at h
      · rename_i e' xs n' lo' fz s h1 h2
        simp only [fill_row h1, h2]
        exact h
      · cases h
    · cases h
  | sc v => cases v <;> simp only at h ⊢ <;> exact h
  | _ => simp only at h ⊢ <;> exact h

theorem aconvert_fill {st : List Ob} {s d : TypeId} {x : V} {v : V} (h : aconvert P st s d x = some v) : aconvert P (over ov st) s d x = some v := by
  unfold aconvert at h ⊢
  split at h
  · exact h
  · split at h
    · rename_i e hu1 hu2
      split at h
      · rename_i hu3
        split at h
        · rename_i xs n he
          simp only [hu3, elems_fill he]
          exact h
        · cases h
      · cases h
    · cases h

theorem shut_fill {st st' : List Ob} {x y : V} (h : shut P st x = some (y, st')) : shut P (over ov st) x = some (y, over ov st') ∧ KG st st' := by
  have triv : (if closed x = true then some (x, st) else none) = some (y, st') → (if closed x = true then some (x, over ov st) else none) = some (y, over ov st') ∧ KG st st' := fun h => by
    split at h
    · rename_i hc
      cases h
      rw [if_pos hc]
      exact ⟨rfl, .refl _⟩
    · cases h
  cases x with
  | sl id off len full =>
    simp only [shut] at h ⊢
    split at h
    · rename_i e xs n lo fz hx
      split at h
      · rename_i s hs
        split at h
        · rename_i hlo
          simp only [Option.some.injEq, Prod.mk.injEq] at h
          obtain ⟨rfl, rfl⟩ := h
          simp only [fill_row hx, hs, if_pos hlo, fill_set_r]
          exact ⟨trivial, .set hx (by simp) (by simp)⟩
        · cases h
      · cases h
    · cases h
  | _ => exact triv h
theorem shutL_fill : ∀ {xs ys : List V} {st st' : List Ob}, shutL P st xs = some (ys, st') → shutL P (over ov st) xs = some (ys, over ov st') ∧ KG st st'
  | [], ys, st, st', h => by
    simp only [shutL, Option.some.injEq, Prod.mk.injEq] at h ⊢
    obtain ⟨rfl, rfl⟩ := h
    exact ⟨⟨rfl, rfl⟩, .refl _⟩
  | x :: xs, ys, st, st', h => by
    simp only [shutL] at h ⊢
    split at h
    · rename_i y st1 h1
      split at h
      · rename_i ys' st2 h2
        simp only [Option.some.injEq, Prod.mk.injEq] at h
        obtain ⟨rfl, rfl⟩ := h
        obtain ⟨a1, a2⟩ := shut_fill (ov := ov) h1
        obtain ⟨b1, b2⟩ := shutL_fill h2
        simp only [a1, b1]
        exact ⟨trivial, a2.trans b2⟩
      · cases h
    · cases h
theorem aval_fill {ρ : Operand → V} {st st' : List Ob} {o : Oper} {v : V} (h : aval P ρ st o = some (v, st')) :
    aval P ρ (over ov st) o = some (v, over ov st') ∧ KG st st' := by
  obtain ⟨dst, op, ty, pos, after, gd⟩ := o
  have same : ∀ {x : Option V}, x.map (·, st) = some (v, st') → x = some v ∧ st' = st := fun {x} hx => by
    obtain ⟨y, rfl, hy⟩ := Option.map_eq_some_iff.1 hx
    simp only [Prod.mk.injEq] at hy
    exact ⟨by rw [hy.1], hy.2.symm⟩
  cases op with
  | move x => simp only [aval, Option.some.injEq, Prod.mk.injEq] at h ⊢; obtain ⟨rfl, rfl⟩ := h; exact ⟨⟨rfl, rfl⟩, .refl _⟩
  | assign x => simp only [aval, Option.some.injEq, Prod.mk.injEq] at h ⊢; obtain ⟨rfl, rfl⟩ := h; exact ⟨⟨rfl, rfl⟩, .refl _⟩
  | pick c a b =>
    simp only [aval] at h ⊢
    split at h
    · simp only [Option.some.injEq, Prod.mk.injEq] at h ⊢; obtain ⟨rfl, rfl⟩ := h; exact ⟨⟨rfl, rfl⟩, .refl _⟩
    · cases h
  | alloc t =>
    simp only [aval] at h ⊢
    split at h
    · rename_i z hz
      split at h
      · rename_i hc
        simp only [Option.some.injEq, Prod.mk.injEq] at h
        obtain ⟨rfl, rfl⟩ := h
        simp only [hz, if_pos hc, over_len, fill_push_c, fill_push_r]
        exact ⟨trivial, .push _ _⟩
      · cases h
    · cases h
  | box t x =>
    simp only [aval] at h ⊢
    split at h
    · rename_i hc
      simp only [Option.some.injEq, Prod.mk.injEq] at h
      obtain ⟨rfl, rfl⟩ := h
      simp only [if_pos hc, over_len, fill_push_c, fill_push_r]
      exact ⟨trivial, .push _ _⟩
    · cases h
  | build t ps =>
    simp only [aval] at h ⊢
    split at h
    · rename_i z pl hz hp
      split at h
      · rename_i cs hcs
        simp only [Option.some.injEq, Prod.mk.injEq] at h
        obtain ⟨rfl, rfl⟩ := h
        simp only [hz, hp, hcs]
        exact ⟨trivial, .refl _⟩
      · cases h
    · cases h
  | buildSlice t n ps =>
    simp only [aval] at h ⊢
    split at h
    · rename_i e he
      split at h
      · rename_i s z hs hz
        split at h
        · rename_i hc
          split at h
          · rename_i cs hcs
            split at h
            · rename_i hd
              simp only [Option.some.injEq, Prod.mk.injEq] at h
              obtain ⟨rfl, rfl⟩ := h
              simp only [he, hs, hz, if_pos hc, hcs, if_pos hd, over_len, fill_push_c, fill_push_r]
              exact ⟨trivial, .push _ _⟩
            · rename_i hd
              split at h
              · rename_i ys st1 hsh
                split at h
                · rename_i hal
                  simp only [Option.some.injEq, Prod.mk.injEq] at h
                  obtain ⟨rfl, rfl⟩ := h
                  obtain ⟨q1, q2⟩ := shutL_fill (ov := ov) hsh
                  simp only [he, hs, hz, if_pos hc, hcs, if_neg hd, q1, if_pos hal, over_len, fill_push_r]
                  exact ⟨trivial, q2.trans (.push _ _)⟩
                · cases h
              · cases h
          · cases h
        · cases h
      · cases h
    · cases h
  | load t a =>
    simp only [aval] at h ⊢
    split at h
    · rename_i id off ha
      split at h
      · rename_i xs hx
        obtain ⟨h1, rfl⟩ := same h
        simp only [ha, fill_cells hx, h1]
        exact ⟨rfl, .refl _⟩
      · cases h
    · rename_i id off e ha
      split at h
      · rename_i ty xs n lo fz hx
        split at h
        · rename_i k s hk hs
          split at h
          · rename_i hc
            obtain ⟨h1, rfl⟩ := same h
            simp only [ha, fill_row hx, hk, hs, if_pos hc, h1]
            exact ⟨rfl, .refl _⟩
          · cases h
        · cases h
      · cases h
    · rename_i xs ha
      obtain ⟨h1, rfl⟩ := same h
      simp only [ha, h1]
      exact ⟨rfl, .refl _⟩
    · cases h
  | store t a x =>
    simp only [aval] at h ⊢
    split at h
    · rename_i id off ha
      split at h
      · rename_i xs hx
        split at h
        · rename_i hc
          simp only [Option.some.injEq, Prod.mk.injEq] at h
          obtain ⟨rfl, rfl⟩ := h
          simp only [ha, fill_cells hx, if_pos hc, fill_set_c, fill_set_r]
          exact ⟨trivial, .set hx (by simp) (by simp)⟩
        · cases h
      · cases h
    · rename_i id off e ha
      split at h
      · rename_i ty xs n lo fz hx
        split at h
        · rename_i hc
          simp only [Option.some.injEq, Prod.mk.injEq] at h
          obtain ⟨rfl, rfl⟩ := h
          simp only [ha, fill_row hx, if_pos hc, fill_set_c, fill_set_r]
          exact ⟨trivial, .set hx (by simp) (by simp)⟩
        · cases h
      · cases h
    · cases h
  | nilCheck x =>
    simp only [aval] at h ⊢
    split at h
    · simp only [Option.some.injEq, Prod.mk.injEq] at h ⊢; obtain ⟨rfl, rfl⟩ := h; exact ⟨⟨rfl, rfl⟩, .refl _⟩
    · simp only [Option.some.injEq, Prod.mk.injEq] at h ⊢; obtain ⟨rfl, rfl⟩ := h; exact ⟨⟨rfl, rfl⟩, .refl _⟩
    · simp only [Option.some.injEq, Prod.mk.injEq] at h ⊢; obtain ⟨rfl, rfl⟩ := h; exact ⟨⟨rfl, rfl⟩, .refl _⟩
    · split at h
      · simp only [Option.some.injEq, Prod.mk.injEq] at h ⊢; obtain ⟨rfl, rfl⟩ := h; exact ⟨⟨rfl, rfl⟩, .refl _⟩
      · cases h
    · cases h
  | binOp op t x y t2 =>
    simp only [aval] at h ⊢
    obtain ⟨h1, rfl⟩ := same h
    rw [h1]
    exact ⟨rfl, .refl _⟩
  | unOp op t x =>
    simp only [aval] at h ⊢
    split at h
    · rename_i a ha
      obtain ⟨y, hy, hz⟩ := Option.map_eq_some_iff.1 h
      simp only [Prod.mk.injEq] at hz
      obtain ⟨rfl, rfl⟩ := hz
      rw [hy]
      exact ⟨rfl, .refl _⟩
    · cases h
  | convert s d x =>
    simp only [aval] at h ⊢
    obtain ⟨h1, rfl⟩ := same h
    rw [aconvert_fill h1]
    exact ⟨rfl, .refl _⟩
  | makeFunc f first caps =>
    simp only [aval] at h ⊢
    split at h
    · rename_i hc
      simp only [Option.some.injEq, Prod.mk.injEq] at h
      obtain ⟨rfl, rfl⟩ := h
      rw [if_pos hc]
      exact ⟨rfl, .refl _⟩
    · cases h
  | slice t x lo hi mx =>
    simp only [aval] at h ⊢
    split at h
    · cases h
    · rename_i hc
      obtain ⟨h1, rfl⟩ := same h
      rw [if_neg hc, aslice_fill h1]
      exact ⟨rfl, .refl _⟩
  | fieldAddr t x i =>
    simp only [aval] at h ⊢
    split at h
    · rename_i off s ft hf
      split at h
      · cases h
      · rename_i hs
        simp only [hf, if_neg hs]
        split at h
        · simp only [Option.some.injEq, Prod.mk.injEq] at h ⊢; obtain ⟨rfl, rfl⟩ := h; exact ⟨⟨rfl, rfl⟩, .refl _⟩
        · simp only [Option.some.injEq, Prod.mk.injEq] at h ⊢; obtain ⟨rfl, rfl⟩ := h; exact ⟨⟨rfl, rfl⟩, .refl _⟩
        · simp only [Option.some.injEq, Prod.mk.injEq] at h ⊢; obtain ⟨rfl, rfl⟩ := h; exact ⟨⟨rfl, rfl⟩, .refl _⟩
        · cases h
    · cases h
  | field t x i =>
    simp only [aval] at h ⊢
    split at h
    · rename_i off s ft hf
      split at h
      · rename_i xs hx
        obtain ⟨h1, rfl⟩ := same h
        simp only [hf, hx, h1]
        exact ⟨rfl, .refl _⟩
      · cases h
    · cases h
  | indexAddr t x i =>
    simp only [aval] at h ⊢
    split at h
    · rename_i j hj
      try simp only [hj]
      split at h
      · rename_i n e id o hu hx
        try simp only [hu, hx]
        split at h
        · rename_i s hs
          split at h
          · rename_i hc
            simp only [Option.some.injEq, Prod.mk.injEq] at h
            obtain ⟨rfl, rfl⟩ := h
            simp only [hs, if_pos hc]
            exact ⟨trivial, .refl _⟩
          · cases h
        · cases h
      · rename_i e id off len full hu hx
        try simp only [hu, hx]
        split at h
        · rename_i e' xs n lo fz s h1 h2
          split at h
          · rename_i hc
            simp only [Option.some.injEq, Prod.mk.injEq] at h
            obtain ⟨rfl, rfl⟩ := h
            simp only [fill_row h1, h2, if_pos hc]
            exact ⟨trivial, .refl _⟩
          · cases h
        · cases h
      · rename_i e xs len nil full hu hx
        try simp only [hu, hx]
        split at h
        · rename_i s hs
          split at h
          · rename_i hc
            simp only [Option.some.injEq, Prod.mk.injEq] at h
            obtain ⟨rfl, rfl⟩ := h
            simp only [hs, if_pos hc]
            exact ⟨trivial, .refl _⟩
          · cases h
        · cases h
      · cases h
    · cases h
  | index t x i =>
    simp only [aval] at h ⊢
    split at h
    · rename_i j hj
      try simp only [hj]
      split at h
      · rename_i n e xs hu hx
        try simp only [hu, hx]
        split at h
        · rename_i s hs
          split at h
          · rename_i hc
            obtain ⟨h1, rfl⟩ := same h
            simp only [hs, if_pos hc, h1]
            exact ⟨rfl, .refl _⟩
          · cases h
        · cases h
      · rename_i b hu hx
        try simp only [hu, hx]
        split at h
        · rename_i hc
          obtain ⟨c, hcc, hz⟩ := Option.map_eq_some_iff.1 h
          simp only [Prod.mk.injEq] at hz
          obtain ⟨rfl, rfl⟩ := hz
          rw [if_pos hc, hcc]
          exact ⟨rfl, .refl _⟩
        · cases h
      · cases h
    · cases h
  | extract x i =>
    simp only [aval] at h ⊢
    split at h
    · rename_i xs hx
      obtain ⟨h1, rfl⟩ := same h
      simp only [hx, h1]
      exact ⟨rfl, .refl _⟩
    · cases h
  | makeMap t r =>
    simp only [aval] at h ⊢
    split at h
    · cases h
      simp only [over_len, fill_push_m]
      exact ⟨trivial, .push _ _⟩
    · rename_i x kt e hu
      try simp only [hu]
      split at h
      · rename_i q hq
        cases h
        simp only [hq, over_len, fill_push_m]
        exact ⟨trivial, .push _ _⟩
      · cases h
    · cases h
  | makeSlice t l c =>
    simp only [aval] at h ⊢
    split at h
    · rename_i e n m hu hn hm
      split at h
      · rename_i s by_ z hs hby hz
        split at h
        · rename_i hc
          cases h
          simp only [hu, hn, hm, hs, hby, hz, if_pos hc, over_len, fill_push_r]
          exact ⟨trivial, .push _ _⟩
        · cases h
      · cases h
    · cases h
  | lookup t x k c =>
    simp only [aval] at h ⊢
    obtain ⟨h1, rfl⟩ := same h
    rw [alookup_maps (b := over ov st') (fun id es hes => fill_map hes) h1]
    exact ⟨rfl, .refl _⟩
  | mapUpdate t x k y =>
    simp only [aval] at h ⊢
    obtain ⟨s2, h1, h2⟩ := Option.map_eq_some_iff.1 h
    simp only [Prod.mk.injEq] at h2
    obtain ⟨rfl, rfl⟩ := h2
    obtain ⟨q1, q2⟩ := aupdate_fill (ov := ov) h1
    rw [q1]
    exact ⟨rfl, q2⟩
  | _ => simp [aval] at h

theorem aappend_fill {st st' : List Ob} {t : TypeId} {s x v : V} (h : aappend P st t s x = some (v, st')) : aappend P (over ov st) t s x = some (v, over ov st') ∧ KG st st' := by
  unfold aappend at h ⊢
  split at h
  · rename_i e he
    split at h
    · rename_i sz by_ z ys m h1 h2 h3 h4
      simp only [h1, h2, h3, elems_fill h4]
      split at h
      · rename_i hc
        rw [if_pos hc]
        split at h
        · split at h
          · rename_i hd
            rw [if_pos hd]
            split at h
            · rename_i hm
              simp only [Option.some.injEq, Prod.mk.injEq] at h ⊢
              obtain ⟨rfl, rfl⟩ := h
              rw [if_pos hm]
              exact ⟨rfl, .refl _⟩
            · rename_i hm
              simp only [Option.some.injEq, Prod.mk.injEq] at h ⊢
              obtain ⟨rfl, rfl⟩ := h
              rw [if_neg hm, over_len, fill_push_r]
              exact ⟨rfl, .push _ _⟩
          · cases h
        · split at h
          · rename_i e' xs n lo fz hx
            simp only [fill_row hx]
            split at h
            · rename_i hd
              rw [if_pos hd]
              split at h
              · rename_i hf
                rw [if_pos hf]
                split at h
                · rename_i hm
                  simp only [Option.some.injEq, Prod.mk.injEq] at h ⊢
                  obtain ⟨rfl, rfl⟩ := h
                  rw [if_pos hm]
                  exact ⟨rfl, .refl _⟩
                · rename_i hm
                  simp only [Option.some.injEq, Prod.mk.injEq] at h ⊢
                  obtain ⟨rfl, rfl⟩ := h
                  rw [if_neg hm, over_len, fill_push_r]
                  exact ⟨rfl, .push _ _⟩
              · rename_i hf
                rw [if_neg hf]
                split at h
                · rename_i hm
                  simp only [Option.some.injEq, Prod.mk.injEq] at h ⊢
                  obtain ⟨rfl, rfl⟩ := h
                  rw [if_pos hm, fill_set_r]
                  exact ⟨rfl, .set hx (by simp) (by simp)⟩
                · cases h
            · cases h
          · cases h
        · cases h
      · cases h
    · cases h
  · cases h

theorem abuiltin_fill {st st' : List Ob} {b : Builtin} {ts : Array TypeId} {args : List V} {v : V} (h : abuiltin P st b ts args = some (v, st')) : abuiltin P (over ov st) b ts args = some (v, over ov st') ∧ KG st st' := by
  unfold abuiltin at h ⊢
  split at h
  · rename_i t t' s x hts
    try simp only [hts]
    split at h
    · exact aappend_fill h
    · exact aappend_fill h
    · cases h
  · rename_i t x hts
    try simp only [hts]
    split at h
    · simp only [Option.some.injEq, Prod.mk.injEq] at h ⊢; obtain ⟨rfl, rfl⟩ := h; exact ⟨⟨rfl, rfl⟩, .refl _⟩
    · simp only [Option.some.injEq, Prod.mk.injEq] at h ⊢; obtain ⟨rfl, rfl⟩ := h; exact ⟨⟨rfl, rfl⟩, .refl _⟩
    · simp only [Option.some.injEq, Prod.mk.injEq] at h ⊢; obtain ⟨rfl, rfl⟩ := h; exact ⟨⟨rfl, rfl⟩, .refl _⟩
    · cases h
  · rename_i t t2 x k hts
    try simp only [hts]
    split at h
    · rename_i kt e kv id hu hkv
      try simp only [hu, hkv]
      split at h
      · rename_i es hes
        simp only [fill_map hes]
        split at h
        · rename_i u0 i h1 h2
          cases h
          simp only [h1, h2, fill_set_m]
          exact ⟨trivial, .set hes (by simp) (by simp)⟩
        · rename_i u0 h1 h2
          cases h
          simp only [h1, h2]
          exact ⟨trivial, .refl _⟩
        · cases h
      · cases h
    · rename_i kt e kv hu hkv
      try simp only [hu, hkv]
      obtain ⟨y, hy, hz⟩ := Option.map_eq_some_iff.1 h
      simp only [Prod.mk.injEq] at hz
      obtain ⟨rfl, rfl⟩ := hz
      simp only [hy]
      exact ⟨rfl, .refl _⟩
    · cases h
  · rename_i t x hts
    try simp only [hts]
    split at h
    · rename_i kt e id hu
      try simp only [hu]
      split at h
      · rename_i es hes
        simp only [fill_map hes]
        cases h
        simp only [fill_set_m]
        exact ⟨trivial, .set hes (by simp) (by simp)⟩
      · cases h
    · cases h
  · split at h
    · rename_i us hus
      obtain ⟨y, hy, hz⟩ := Option.map_eq_some_iff.1 h
      simp only [Prod.mk.injEq] at hz
      obtain ⟨rfl, rfl⟩ := hz
      simp only [hus, hy]
      exact ⟨rfl, .refl _⟩
    · cases h
  · split at h
    · rename_i us hus
      obtain ⟨y, hy, hz⟩ := Option.map_eq_some_iff.1 h
      simp only [Prod.mk.injEq] at hz
      obtain ⟨rfl, rfl⟩ := hz
      simp only [hus, hy]
      exact ⟨rfl, .refl _⟩
    · cases h
  · cases h
end
end Go.M
namespace Go.M
open Go Go.RowKit

def LE (a b : List Ob) : Prop := ∀ (i : Nat) (o : Ob), a[i]? = some o → o ≠ .gone → b[i]? = some o
section
variable {P : Program} {ov : Nat → Option Ob}

theorem LE.over (st : List Ob) : LE st (over ov st) := fun i o h hn => fill_get h hn
theorem LE.refl (st : List Ob) : LE st st := fun i o h hn => h
theorem LE.trans {a b c : List Ob} (h : LE a b) (k : LE b c) : LE a c := fun i o hi hn => k i o (h i o hi hn) hn
theorem LE.cells {a b : List Ob} (h : LE a b) {id : Nat} {xs : List V} (k : a[id]? = some (.cells xs)) : b[id]? = some (.cells xs) := h _ _ k (by simp)
theorem LE.row {a b : List Ob} (h : LE a b) {id : Nat} {e : TypeId} {xs : List V} {n lo : Nat} {fz : Bool} (k : a[id]? = some (.row e xs n lo fz)) : b[id]? = some (.row e xs n lo fz) := h _ _ k (by simp)

theorem elems_le {a b : List Ob} (hle : LE a b) {e : TypeId} {x : V} {y : List V × Nat} (h : elems P a e x = some y) : elems P b e x = some y := by
  unfold elems at h ⊢
  cases x with
  | sl id off len full =>
    simp only at h ⊢
    split at h
    · rename_i e' xs n lo fz s h1 h2
      simp only [hle.row h1, h2]
      exact h
    · cases h
  | sc v => cases v <;> simp only at h ⊢ <;> exact h
  | _ => simp only at h ⊢ <;> exact h

theorem aval_le {a b : List Ob} (hle : LE a b) {ρ : Operand → V} {o : Oper} {v : V} {a' : List Ob} (hq : quietOp o.op = true) (h : aval P ρ a o = some (v, a')) : (aval P ρ b o).map (·.1) = some v := by
  obtain ⟨dst, op, ty, pos, after, gd⟩ := o
  have same : ∀ {x : Option V} {s : List Ob}, x.map (·, s) = some (v, a') → x = some v := fun {x s} hx => by
    obtain ⟨y, rfl, hy⟩ := Option.map_eq_some_iff.1 hx
    simp only [Prod.mk.injEq] at hy
    rw [hy.1]
  cases op with
  | move x => simp only [aval, Option.some.injEq, Prod.mk.injEq] at h ⊢; obtain ⟨rfl, rfl⟩ := h; rfl
  | assign x => simp only [aval, Option.some.injEq, Prod.mk.injEq] at h ⊢; obtain ⟨rfl, rfl⟩ := h; rfl
  | pick c x y =>
    simp only [aval] at h ⊢
    split at h
    · simp only [Option.some.injEq, Prod.mk.injEq] at h; obtain ⟨rfl, rfl⟩ := h; rfl
    · cases h
  | build t ps =>
    simp only [aval] at h ⊢
    split at h
    · rename_i z pl hz hp
      split at h
      · rename_i cs hcs
        simp only [Option.some.injEq, Prod.mk.injEq] at h
        obtain ⟨rfl, rfl⟩ := h
        simp_all
      · cases h
    · cases h
  | load t x =>
    simp only [aval] at h ⊢
    split at h
    · rename_i id off ha
      split at h
      · rename_i xs hx
        simp only [ha, hle.cells hx, same h, Option.map_some]
      · cases h
    · rename_i id off e ha
      split at h
      · rename_i ty xs n lo fz hx
        split at h
        · rename_i k s hk hs
          split at h
          · rename_i hc
            simp only [ha, hle.row hx, hk, hs, if_pos hc, same h, Option.map_some]
          · cases h
        · cases h
      · cases h
    · rename_i xs ha
      simp only [ha, same h, Option.map_some]
    · cases h
  | nilCheck x =>
    simp only [aval] at h ⊢
    split at h
    · simp only [Option.some.injEq, Prod.mk.injEq] at h; obtain ⟨rfl, rfl⟩ := h; rfl
    · simp only [Option.some.injEq, Prod.mk.injEq] at h; obtain ⟨rfl, rfl⟩ := h; rfl
    · simp only [Option.some.injEq, Prod.mk.injEq] at h; obtain ⟨rfl, rfl⟩ := h; rfl
    · split at h
      · simp only [Option.some.injEq, Prod.mk.injEq] at h; obtain ⟨rfl, rfl⟩ := h; rfl
      · cases h
    · cases h
  | binOp op t x y t2 =>
    simp only [aval] at h ⊢
    rw [same h]; rfl
  | unOp op t x =>
    simp only [aval] at h ⊢
    split at h
    · rename_i a ha
      obtain ⟨y, hy, hz⟩ := Option.map_eq_some_iff.1 h
      simp only [Prod.mk.injEq] at hz
      rw [hy]
      simp only [Option.map_some, hz.1]
    · cases h
  | convert s d x =>
    simp only [aval] at h ⊢
    have h1 := same h
    unfold aconvert at h1 ⊢
    split at h1
    · simp only [h1, Option.map_some]
    · split at h1
      · rename_i e hu1 hu2
        split at h1
        · rename_i hu3
          split at h1
          · rename_i xs n he
            simp only [elems_le hle he, h1, Option.map_some]
          · cases h1
        · cases h1
      · cases h1
  | makeFunc f first caps =>
    simp only [aval] at h ⊢
    split at h
    · rename_i hc
      simp only [Option.some.injEq, Prod.mk.injEq] at h
      obtain ⟨rfl, rfl⟩ := h
      rw [if_pos hc]
      rfl
    · cases h
  | slice t x lo hi mx =>
    simp only [aval] at h ⊢
    split at h
    · cases h
    · rename_i hc
      have h1 := same h
      rw [if_neg hc]
      have : aslice P b t (ρ x) (lo.map ρ) (hi.map ρ) (mx.map ρ) = some v := by
        unfold aslice at h1 ⊢
        generalize ρ x = y at *
        cases y with
        | sl id off n full =>
          simp only at h1 ⊢
          split at h1
          · rename_i e he
            split at h1
            · rename_i e' xs n' lo' fz s k1 k2
              simp only [hle.row k1, k2]
              exact h1
            · cases h1
          · cases h1
        | sc v => cases v <;> simp only at h1 ⊢ <;> exact h1
        | _ => simp only at h1 ⊢ <;> exact h1
      rw [this]; rfl
  | fieldAddr t x i =>
    simp only [aval] at h ⊢
    split at h
    · rename_i off s ft hf
      split at h
      · cases h
      · rename_i hs
        simp only [hf, if_neg hs]
        split at h
        · simp only [Option.some.injEq, Prod.mk.injEq] at h; obtain ⟨rfl, rfl⟩ := h; rfl
        · simp only [Option.some.injEq, Prod.mk.injEq] at h; obtain ⟨rfl, rfl⟩ := h; rfl
        · simp only [Option.some.injEq, Prod.mk.injEq] at h; obtain ⟨rfl, rfl⟩ := h; rfl
        · cases h
    · cases h
  | field t x i =>
    simp only [aval] at h ⊢
    split at h
    · rename_i off s ft hf
      split at h
      · rename_i xs hx
        simp only [hf, hx, same h, Option.map_some]
      · cases h
    · cases h
  | indexAddr t x i =>
    simp only [aval] at h ⊢
    split at h
    · rename_i j hj
      try simp only [hj]
      split at h
      · rename_i n e id o hu hx
        try simp only [hu, hx]
        split at h
        · rename_i s hs
          split at h
          · rename_i hc
            simp only [Option.some.injEq, Prod.mk.injEq] at h
            obtain ⟨rfl, rfl⟩ := h
            simp only [hs, if_pos hc, Option.map_some]
          · cases h
        · cases h
      · rename_i e id off len full hu hx
        try simp only [hu, hx]
        split at h
        · rename_i e' xs n lo fz s h1 h2
          split at h
          · rename_i hc
            simp only [Option.some.injEq, Prod.mk.injEq] at h
            obtain ⟨rfl, rfl⟩ := h
            simp only [hle.row h1, h2, if_pos hc, Option.map_some]
          · cases h
        · cases h
      · rename_i e xs len nil full hu hx
        try simp only [hu, hx]
        split at h
        · rename_i s hs
          split at h
          · rename_i hc
            simp only [Option.some.injEq, Prod.mk.injEq] at h
            obtain ⟨rfl, rfl⟩ := h
            simp only [hs, if_pos hc, Option.map_some]
          · cases h
        · cases h
      · cases h
    · cases h
  | index t x i =>
    simp only [aval] at h ⊢
    split at h
    · rename_i j hj
      try simp only [hj]
      split at h
      · rename_i n e xs hu hx
        try simp only [hu, hx]
        split at h
        · rename_i s hs
          split at h
          · rename_i hc
            simp only [hs, if_pos hc, same h, Option.map_some]
          · cases h
        · cases h
      · rename_i bb hu hx
        try simp only [hu, hx]
        split at h
        · rename_i hc
          obtain ⟨c, hcc, hz⟩ := Option.map_eq_some_iff.1 h
          simp only [Prod.mk.injEq] at hz
          rw [if_pos hc, hcc]
          simp only [Option.map_some, hz.1]
        · cases h
      · cases h
    · cases h
  | extract x i =>
    simp only [aval] at h ⊢
    split at h
    · rename_i xs hx
      simp only [hx, same h, Option.map_some]
    · cases h
  | alloc t => simp [quietOp] at hq
  | box t x => simp [quietOp] at hq
  | buildSlice t n ps => simp [quietOp] at hq
  | store t x y => simp [quietOp] at hq
  | makeMap t r => simp [quietOp] at hq
  | makeSlice t l c => simp [quietOp] at hq
  | mapUpdate t x k y => simp [quietOp] at hq
  | lookup t x k c =>
    simp only [aval] at h ⊢
    rw [alookup_maps (b := b) (fun id es hes => hle _ _ hes (by simp)) (same h)]
    rfl
  | _ => simp [aval] at h

theorem aval_any {a b : List Ob} {ρ : Operand → V} {o : Oper} {v : V} {a' : List Ob} (hq : quietOp o.op = true) (hm : memOp o.op = false) (h : aval P ρ a o = some (v, a')) : (aval P ρ b o).map (·.1) = some v := by
  obtain ⟨dst, op, ty, pos, after, gd⟩ := o
  have key : ∀ {x : Option V} {s s' : List Ob}, x.map (·, s) = some (v, a') → (x.map (·, s')).map (·.1) = some v := fun {x s s'} hx => by
    obtain ⟨y, rfl, hy⟩ := Option.map_eq_some_iff.1 hx
    simp only [Prod.mk.injEq] at hy
    simp only [Option.map_some, hy.1]
  cases op with
  | load t x => simp [memOp] at hm
  | convert s d x => simp [memOp] at hm
  | slice t x lo hi mx => simp [memOp] at hm
  | indexAddr t x i => simp [memOp] at hm
  | alloc t => simp [quietOp] at hq
  | box t x => simp [quietOp] at hq
  | buildSlice t n ps => simp [quietOp] at hq
  | store t x y => simp [quietOp] at hq
  | move x => simp only [aval, Option.some.injEq, Prod.mk.injEq] at h ⊢; obtain ⟨rfl, rfl⟩ := h; rfl
  | assign x => simp only [aval, Option.some.injEq, Prod.mk.injEq] at h ⊢; obtain ⟨rfl, rfl⟩ := h; rfl
  | binOp op t x y t2 => simp only [aval] at h ⊢; exact key h
  | pick c x y =>
    simp only [aval] at h ⊢
    split at h
    · simp only [Option.some.injEq, Prod.mk.injEq] at h; obtain ⟨rfl, rfl⟩ := h; rfl
    · cases h
  | build t ps =>
    simp only [aval] at h ⊢
    split at h
    · split at h
      · simp only [Option.some.injEq, Prod.mk.injEq] at h
        obtain ⟨rfl, rfl⟩ := h
        simp_all
      · cases h
    · cases h
  | nilCheck x =>
    simp only [aval] at h ⊢
    split at h
    · simp only [Option.some.injEq, Prod.mk.injEq] at h; obtain ⟨rfl, rfl⟩ := h; rfl
    · simp only [Option.some.injEq, Prod.mk.injEq] at h; obtain ⟨rfl, rfl⟩ := h; rfl
    · simp only [Option.some.injEq, Prod.mk.injEq] at h; obtain ⟨rfl, rfl⟩ := h; rfl
    · split at h
      · simp only [Option.some.injEq, Prod.mk.injEq] at h; obtain ⟨rfl, rfl⟩ := h; rfl
      · cases h
    · cases h
  | unOp op t x =>
    simp only [aval] at h ⊢
    split at h
    · obtain ⟨y, hy, hz⟩ := Option.map_eq_some_iff.1 h
      simp only [Prod.mk.injEq] at hz
      rw [hy]
      simp only [Option.map_some, hz.1]
    · cases h
  | makeFunc f first caps =>
    simp only [aval] at h ⊢
    split at h
    · rename_i hc
      simp only [Option.some.injEq, Prod.mk.injEq] at h
      obtain ⟨rfl, rfl⟩ := h
      rw [if_pos hc]
      rfl
    · cases h
  | fieldAddr t x i =>
    simp only [aval] at h ⊢
    split at h
    · split at h
      · cases h
      · rename_i hs
        simp only [if_neg hs]
        split at h
        · simp only [Option.some.injEq, Prod.mk.injEq] at h; obtain ⟨rfl, rfl⟩ := h; rfl
        · simp only [Option.some.injEq, Prod.mk.injEq] at h; obtain ⟨rfl, rfl⟩ := h; rfl
        · simp only [Option.some.injEq, Prod.mk.injEq] at h; obtain ⟨rfl, rfl⟩ := h; rfl
        · cases h
    · cases h
  | field t x i =>
    simp only [aval] at h ⊢
    split at h
    · split at h
      · exact key h
      · cases h
    · cases h
  | index t x i =>
    simp only [aval] at h ⊢
    split at h
    · split at h
      · split at h
        · split at h
          · rename_i hc; rw [if_pos hc]; exact key h
          · cases h
        · cases h
      · split at h
        · rename_i hc
          rw [if_pos hc]
          obtain ⟨c, hcc, hz⟩ := Option.map_eq_some_iff.1 h
          simp only [Prod.mk.injEq] at hz
          rw [hcc]
          simp only [Option.map_some, hz.1]
        · cases h
      · cases h
    · cases h
  | extract x i =>
    simp only [aval] at h ⊢
    split at h
    · exact key h
    · cases h
  | makeMap t r => simp [quietOp] at hq
  | makeSlice t l c => simp [quietOp] at hq
  | mapUpdate t x k y => simp [quietOp] at hq
  | lookup t x k c => simp [memOp] at hm
  | _ => simp [aval] at h
end
end Go.M
namespace Go.M
open Go Go.RowKit
section
variable {P : Program} {ov : Nat → Option Ob}

theorem abuiltin_any {a b : List Ob} {bi : Builtin} {ts : Array TypeId} {args : List V} {v : V} {a' : List Ob} (hb : bi = .len ∨ bi = .min ∨ bi = .max) (h : abuiltin P a bi ts args = some (v, a')) : (abuiltin P b bi ts args).map (·.1) = some v := by
  unfold abuiltin at h ⊢
  split at h
  · simp at hb
  · split at h
    · simp only [Option.some.injEq, Prod.mk.injEq] at h; obtain ⟨rfl, rfl⟩ := h; simp_all
    · simp only [Option.some.injEq, Prod.mk.injEq] at h; obtain ⟨rfl, rfl⟩ := h; simp_all
    · simp only [Option.some.injEq, Prod.mk.injEq] at h; obtain ⟨rfl, rfl⟩ := h; simp_all
    · cases h
  · simp at hb
  · simp at hb
  · split at h
    · rename_i us hus
      obtain ⟨y, hy, hz⟩ := Option.map_eq_some_iff.1 h
      simp only [Prod.mk.injEq] at hz
      simp only [hus, hy, Option.map_some, hz.1]
    · cases h
  · split at h
    · rename_i us hus
      obtain ⟨y, hy, hz⟩ := Option.map_eq_some_iff.1 h
      simp only [Prod.mk.injEq] at hz
      simp only [hus, hy, Option.map_some, hz.1]
    · cases h
  · cases h

theorem quiet_call {c : Call} (h : quietOp (.call c) = true) : ∃ b, c.callee = .builtin b ∧ (b = .len ∨ b = .min ∨ b = .max) := by
  obtain ⟨cal, args, ats⟩ := c
  cases cal with
  | builtin b => refine ⟨b, rfl, ?_⟩; cases b <;> simp [quietOp] at h ⊢
  | _ => simp [quietOp] at h

theorem qop_le {a b : List Ob} (hle : LE a b) {o : Oper} {t : List V} {v : V} (hq : quietOp o.op = true) (h : qop P o t a = some v) : qop P o t b = some v := by
  unfold qop at h ⊢
  split at h
  · rename_i c hc
    try simp only [hc]
    rw [hc] at hq
    obtain ⟨bi, hcb, hbi⟩ := quiet_call hq
    simp only [hcb] at h ⊢
    obtain ⟨⟨y, s⟩, hy, rfl⟩ := Option.map_eq_some_iff.1 h
    exact abuiltin_any hbi hy
  · rename_i hne
    obtain ⟨⟨y, s⟩, hy, rfl⟩ := Option.map_eq_some_iff.1 h
    exact aval_le hle hq hy

theorem qop_any {a b : List Ob} {o : Oper} {t : List V} {v : V} (hq : quietOp o.op = true) (hm : memOp o.op = false) (h : qop P o t a = some v) : qop P o t b = some v := by
  unfold qop at h ⊢
  split at h
  · rename_i c hc
    try simp only [hc]
    rw [hc] at hq
    obtain ⟨bi, hcb, hbi⟩ := quiet_call hq
    simp only [hcb] at h ⊢
    obtain ⟨⟨y, s⟩, hy, rfl⟩ := Option.map_eq_some_iff.1 h
    exact abuiltin_any hbi hy
  · rename_i hne
    obtain ⟨⟨y, s⟩, hy, rfl⟩ := Option.map_eq_some_iff.1 h
    exact aval_any hq hm hy

def CF (C : CallK) : Prop := ∀ f args st K, C f args st K → ∃ v st', K v st' ∧ KG1 st st' ∧ st.length ≤ st'.length ∧ ∀ ov (K' : V → List Ob → Prop), Fine ov st.length → K' v (over ov st') → C f args (over ov st) K'

theorem KG1.trans {a b c : List Ob} (h : KG1 a b) (k : KG1 b c) : KG1 a c := fun i hi => k i (h i hi)
theorem KG.one {a b : List Ob} (h : KG a b) : KG1 a b := h.1
theorem KG.le {a b : List Ob} (h : KG a b) : a.length ≤ b.length := by
  cases a with
  | nil => simp
  | cons x a =>
    have hl : (x :: a).length - 1 < (x :: a).length := by simp
    have hg : (x :: a)[(x :: a).length - 1]? = some ((x :: a)[(x :: a).length - 1]) := List.getElem?_eq_getElem hl
    have : (x :: a).length - 1 < b.length := by
      by_cases hn : (x :: a)[(x :: a).length - 1] = .gone
      · rw [hn] at hg; exact (List.getElem?_eq_some_iff.1 (h.1 _ hg)).1
      · obtain ⟨o', h1, _⟩ := h.2 _ _ hg hn; exact (List.getElem?_eq_some_iff.1 h1).1
    omega
theorem Fine.le {n m : Nat} (h : Fine ov n) (hl : n ≤ m) : Fine ov m := ⟨fun i hi => h.1 i (by omega), h.2⟩

theorem aop_CF {C : CallK} (hC : CF C) {o : Oper} {t : List V} {st : List Ob} {K : V → List Ob → Prop} (h : aop P C o t st K) :
    ∃ v st', K v st' ∧ KG1 st st' ∧ st.length ≤ st'.length ∧ ∀ ov (K' : V → List Ob → Prop), Fine ov st.length → K' v (over ov st') → aop P C o t (over ov st) K' := by
  unfold aop at h
  split at h
  · rename_i c hop
    unfold acall at h
    split at h
    · rename_i f hf
      split at h
      · rename_i g caps hg
        split at h
        · exact h.elim
        · rename_i hgs
          obtain ⟨v, st', h1, h2, h3, h4⟩ := hC _ _ _ _ h
          refine ⟨v, st', h1, h2, h3, fun ov K' k1 k2 => ?_⟩
          unfold aop acall
          simp only [hop, hf, hg, if_neg hgs]
          exact h4 ov K' k1 k2
      · rename_i id hg
        obtain ⟨v, st', h1, h2, h3, h4⟩ := hC _ _ _ _ h
        refine ⟨v, st', h1, h2, h3, fun ov K' k1 k2 => ?_⟩
        unfold aop acall
        simp only [hop, hf, hg]
        exact h4 ov K' k1 k2
      · exact h.elim
    · rename_i b hb
      split at h
      · rename_i v st' hv
        have hk := (abuiltin_fill (ov := fun _ => none) hv).2
        refine ⟨v, st', h, hk.one, hk.le, fun ov K' k1 k2 => ?_⟩
        unfold aop acall
        simp only [hop, hb, (abuiltin_fill (ov := ov) hv).1]
        exact k2
      · rename_i hn
        split at h
        · rename_i v hv
          refine ⟨v, st, h, fun i hi => hi, Nat.le_refl _, fun ov K' k1 k2 => ?_⟩
          have hn2 : abuiltin P (over ov st) b c.argTypes (c.args.toList.map (aev t)) = none := by
            have hm := hv
            unfold mlen at hm
            split at hm
            · rename_i t0 x0 hts hargs
              unfold abuiltin at hn ⊢
              simp only [hts, hargs] at hn ⊢
              split at hm
              · rename_i hu; simp only [hu]
              · rename_i hu; simp only [hu]
              · cases hm
            · cases hm
          unfold aop acall
          simp only [hop, hb, hn2, mlen_maps (b := over ov st) (fun id es hes => fill_map hes) hv]
          exact k2
        · exact h.elim
    · exact h.elim
  · rename_i hne
    split at h
    · rename_i v st' hv
      have hk := (aval_fill (ov := fun _ => none) hv).2
      refine ⟨v, st', h, hk.one, hk.le, fun ov K' k1 k2 => ?_⟩
      unfold aop
      split
      · rename_i c hc; exact absurd hc (hne c)
      · simp only [(aval_fill (ov := ov) hv).1]
        exact k2
    · exact h.elim

theorem aops_CF {C : CallK} (hC : CF C) {ops : Array Oper} : ∀ {l : List Oper} {t : List V} {st : List Ob} {K : List V → List Ob → Prop}, aops P C ops l t st K →
    ∃ t' st', K t' st' ∧ KG1 st st' ∧ st.length ≤ st'.length ∧ ∀ ov (K' : List V → List Ob → Prop), Fine ov st.length → K' t' (over ov st') → aops P C ops l t (over ov st) K'
  | [], t, st, K, h => ⟨t, st, h, fun _ h => h, Nat.le_refl _, fun ov K' _ h => h⟩
  | o :: l, t, st, K, h => by
    simp only [aops] at h
    split at h
    · rename_i hw
      obtain ⟨v, st1, h1, h2, h3, h4⟩ := aop_CF hC h
      obtain ⟨t', st', k1, k2, k3, k4⟩ := aops_CF hC h1
      refine ⟨t', st', k1, h2.trans k2, Nat.le_trans h3 k3, fun ov K' j1 j2 => ?_⟩
      simp only [aops, hw]
      exact h4 ov _ j1 (k4 ov K' (j1.le h3) j2)
    · rename_i hw
      obtain ⟨t', st', k1, k2, k3, k4⟩ := aops_CF hC h
      refine ⟨t', st', k1, k2, k3, fun ov K' j1 j2 => ?_⟩
      simp only [aops, hw]
      exact k4 ov K' j1 j2
    · exact h.elim

def NoGone (xs : List (Option Ob)) : Prop := ∀ (a : Nat), xs[a]? ≠ some (some .gone)

def ovOf (base : Nat) (xs : List (Option Ob)) (needs : List Nat) : Nat → Option Ob := fun i => if base ≤ i ∧ i - base ∈ needs then (xs[i - base]?).getD none else none

theorem patch_over {base : Nat} {xs : List (Option Ob)} (hx : NoGone xs) : ∀ (needs : List Nat) (st : List Ob), patch base xs needs st = over (ovOf base xs needs) st
  | [], st => by
    rw [show ovOf base xs [] = fun _ => none from by funext i; simp [ovOf], over_none]
    rfl
  | a :: r, st => by
    have hpt : ∀ (i : Nat), (over (ovOf base xs (a :: r)) st)[i]? = (over (ovOf base xs r) (match st[base + a]?, xs[a]? with
      | some .gone, some (some X) => st.set (base + a) X
      | _, _ => st))[i]? := by
      intro i
      rw [over_at, over_at]
      by_cases hi : i = base + a
      · subst hi
        have hov : ovOf base xs (a :: r) (base + a) = (xs[a]?).getD none := by
          simp only [ovOf, Nat.le_add_right, Nat.add_sub_cancel_left, List.mem_cons, true_or, and_self, if_true]
        rw [hov]
        cases hst : st[base + a]? with
        | none => simp [hst]
        | some o =>
          cases o with
          | gone =>
            cases hxa : xs[a]? with
            | none =>
              have : ovOf base xs r (base + a) = none := by simp [ovOf, hxa]
              simp [hst, this]
            | some y =>
              cases y with
              | none =>
                have : ovOf base xs r (base + a) = none := by simp [ovOf, hxa]
                simp [hst, this]
              | some X =>
                have hlt := (List.getElem?_eq_some_iff.1 hst).1
                have hne : X ≠ .gone := fun h => hx a (by rw [hxa, h])
                simp only [Option.getD_some, List.getElem?_set_self hlt]
                cases X <;> first | rfl | exact absurd rfl hne
          | _ => simp [hst]
      · have hov : ovOf base xs (a :: r) i = ovOf base xs r i := by
          unfold ovOf
          by_cases hb : base ≤ i
          · have : i - base ≠ a := by omega
            simp [hb, this]
          · simp [hb]
        rw [hov]
        have : (match st[base + a]?, xs[a]? with
          | some Ob.gone, some (some X) => st.set (base + a) X
          | _, _ => st)[i]? = st[i]? := by
          split
          · rw [List.getElem?_set_ne (by omega)]
          · rfl
        rw [this]
    rw [List.ext_getElem? hpt, ← patch_over hx r]
    simp only [patch]
    split
    · rename_i X h1 h2
      simp only [h1, h2]
    · rename_i hne
      split
      · rename_i X h1 h2
        exact (hne X h1 h2).elim
      · rfl

theorem over_over {ov ov' : Nat → Option Ob} (h : ∀ (i : Nat) (X : Ob), ov i = some X → X ≠ .gone ∧ ov' i = some X) (st : List Ob) : over ov' (over ov st) = over ov' st := by
  apply List.ext_getElem?
  intro i
  rw [over_at, over_at, over_at]
  cases hs : st[i]? with
  | none => rfl
  | some o =>
    cases o with
    | gone =>
      simp only
      cases ho : ov i with
      | none => rfl
      | some X =>
        obtain ⟨hn, h2⟩ := h i X ho
        simp only [Option.getD_some, h2]
        cases X <;> first | rfl | exact absurd rfl hn
    | _ => rfl
theorem over_comm {ov ov' : Nat → Option Ob} (h : ∀ (i : Nat), ov i = none ∨ ov' i = none) (hn : ∀ (i : Nat), ov i ≠ some .gone) (hn' : ∀ (i : Nat), ov' i ≠ some .gone) (st : List Ob) : over ov' (over ov st) = over ov (over ov' st) := by
  apply List.ext_getElem?
  intro i
  rw [over_at, over_at, over_at, over_at]
  cases hs : st[i]? with
  | none => rfl
  | some o =>
    cases o with
    | gone =>
      simp only
      rcases h i with h | h <;> simp only [h, Option.getD_none]
      · cases ho : ov' i with
        | none => rfl
        | some X => simp only [Option.getD_some]; cases X <;> first | rfl | (simp only [h]; rfl)
      · cases ho : ov i with
        | none => rfl
        | some X => simp only [Option.getD_some]; cases X <;> first | rfl | (simp only [h]; rfl)
    | _ => rfl
end
end Go.M
namespace Go.M
open Go Go.RowKit
section
variable {P : Program} {ov : Nat → Option Ob} {m : Nat}

theorem ovOf_lt {base : Nat} {xs : List (Option Ob)} {needs : List Nat} {i : Nat} (h : i < base) : ovOf base xs needs i = none := by
  unfold ovOf
  rw [if_neg (by omega)]
theorem ovOf_ng {base : Nat} {xs : List (Option Ob)} (hx : NoGone xs) (needs : List Nat) (i : Nat) : ovOf base xs needs i ≠ some .gone := by
  unfold ovOf
  split
  · intro h
    cases hg : xs[i - base]? with
    | none => rw [hg] at h; cases h
    | some y => rw [hg] at h; simp only [Option.getD_some] at h; exact hx (i - base) (by rw [hg, h])
  · simp
theorem patch_comm {base : Nat} {xs : List (Option Ob)} (hx : NoGone xs) (needs : List Nat) (hf : Fine ov base) (st : List Ob) : patch base xs needs (over ov st) = over ov (patch base xs needs st) := by
  rw [patch_over hx, patch_over hx]
  refine over_comm (fun i => ?_) hf.2 (ovOf_ng hx needs) st
  by_cases hi : base ≤ i
  · exact .inl (hf.1 i hi)
  · exact .inr (ovOf_lt (by omega))
theorem patch_len {base : Nat} {xs : List (Option Ob)} (hx : NoGone xs) (needs : List Nat) (st : List Ob) : (patch base xs needs st).length = st.length := by rw [patch_over hx, over_len]
theorem patch_lt {base : Nat} {xs : List (Option Ob)} (hx : NoGone xs) (needs : List Nat) (st : List Ob) {i : Nat} (h : i < base) : (patch base xs needs st)[i]? = st[i]? := by
  rw [patch_over hx, over_at, ovOf_lt h]
  cases st[i]? with
  | none => rfl
  | some o => cases o <;> rfl
theorem Grw.over {a b : List Ob} (h : Grw a b) : Grw (over ov a) (over ov b) := fun i o hi => by
  rw [over_at] at hi ⊢
  cases ha : a[i]? with
  | none => rw [ha] at hi; cases hi
  | some x =>
    rw [ha] at hi
    rw [h i x ha]
    exact hi

theorem pendOK_over {ops : Array Oper} {plan : List PI} {base : Nat} {xs : List (Option Ob)} (hx : NoGone xs) (hf : Fine ov base) {t : List V} {st : List Ob} :
    ∀ {l : List Nat}, pendOK P ops plan base xs t st l → pendOK P ops plan base xs t (over ov st) l
  | [], _ => trivial
  | q :: r, h => by
    simp only [pendOK] at h ⊢
    refine ⟨?_, pendOK_over hx hf h.2⟩
    have h1 := h.1
    split
    · rename_i o p ho hp
      simp only [ho, hp] at h1
      refine ⟨h1.1, fun hw => ?_⟩
      have := h1.2 hw
      rw [patch_comm hx _ hf]
      split
      · rename_i d hd
        simp only [hd] at this
        exact ⟨this.1, qop_le (LE.over _) h1.1 this.2⟩
      · rename_i hd
        simp only [hd] at this
    · rename_i hne
      split at h1
      · rename_i o p ho hp
        exact (hne o p ho hp).elim
      · exact h1

theorem NoGone.snoc {xs : List (Option Ob)} (hx : NoGone xs) {y : Option Ob} (hy : y ≠ some .gone) : NoGone (xs ++ [y]) := fun a h => by
  by_cases ha : a < xs.length
  · rw [List.getElem?_append_left ha] at h; exact hx a h
  · rw [List.getElem?_append_right (by omega)] at h
    cases hk : a - xs.length with
    | zero => rw [hk] at h; simp at h; exact hy h
    | succ k => rw [hk] at h; simp at h
theorem aobj_ng {ρ : Operand → V} {id : Nat} {o : Oper} {v : V} {X : Ob} (h : aobj P ρ id o = some (v, X)) : X ≠ .gone := by
  unfold aobj at h
  split at h
  · split at h
    · split at h
      · simp only [Option.some.injEq, Prod.mk.injEq] at h; rw [← h.2]; simp
      · cases h
    · cases h
  · split at h
    · simp only [Option.some.injEq, Prod.mk.injEq] at h; rw [← h.2]; simp
    · cases h
  · simp only [Option.some.injEq, Prod.mk.injEq] at h; rw [← h.2]; simp
  · split at h
    · split at h
      · split at h
        · split at h
          · split at h
            · simp only [Option.some.injEq, Prod.mk.injEq] at h; rw [← h.2]; simp
            · cases h
          · cases h
        · cases h
      · cases h
    · cases h
  · cases h

theorem adraw_CF {C : CallK} (hC : CF C) {ops : Array Oper} {plan : List PI} {base : Nat} :
    ∀ {l : List Oper} {ps : List PI} {t : List V} {st : List Ob} {hs : List (List Ob)} {xs : List (Option Ob)} {K : List V → List Ob → Prop}, adraw P C ops plan base l ps t st hs xs K → NoGone xs → base ≤ st.length →
      ∃ t' st', K t' st' ∧ (∀ i, i < base → st[i]? = some .gone → st'[i]? = some .gone) ∧ st.length ≤ st'.length ∧
        ∀ ov (K' : List V → List Ob → Prop), Fine ov base → K' t' (over ov st') → adraw P C ops plan base l ps t (over ov st) (hs.map (over ov)) xs K'
  | [], ps, t, st, hs, xs, K, h, hx, hb => by
    have h' : K t (patch base xs (List.range xs.length) st) := by cases ps <;> simpa [adraw] using h
    refine ⟨t, _, h', fun i hi hg => by rw [patch_lt hx _ _ hi]; exact hg, by rw [patch_len hx]; exact Nat.le_refl _, fun ov K' hf k => ?_⟩
    have : adraw P C ops plan base [] ps t (over ov st) (hs.map (over ov)) xs K' = K' t (patch base xs (List.range xs.length) (over ov st)) := by cases ps <;> simp [adraw]
    rw [this, patch_comm hx _ hf]
    exact k
  | o :: l, [], t, st, hs, xs, K, h, hx, hb => by
    simp only [adraw] at h
    refine ⟨t, _, h, fun i hi hg => by rw [patch_lt hx _ _ hi]; exact hg, by rw [patch_len hx]; exact Nat.le_refl _, fun ov K' hf k => ?_⟩
    simp only [adraw]
    rw [patch_comm hx _ hf]
    exact k
  | o :: l, p :: ps, t, st, hs, xs, K, h, hx, hb => by
    simp only [adraw] at h
    split at h
    · rename_i hw
      split at h
      · rename_i hA
        split at h
        · rename_i v X hX
          obtain ⟨t', st', h1, h2, h3, h4⟩ := adraw_CF hC h (hx.snoc (by simpa using aobj_ng hX)) hb
          refine ⟨t', st', h1, h2, h3, fun ov K' hf k => ?_⟩
          simp only [adraw, hw, hA, if_true, hX]
          exact h4 ov K' hf k
        · exact h.elim
      · rename_i hA
        split at h
        · rename_i hQ
          split at h
          · rename_i v hv
            obtain ⟨hm, h⟩ := h
            obtain ⟨t', st', h1, h2, h3, h4⟩ := adraw_CF hC h hx hb
            refine ⟨t', st', h1, h2, h3, fun ov K' hf k => ?_⟩
            simp only [adraw, hw, hA, hQ, if_true, Bool.false_eq_true, if_false, patch_comm hx _ hf, qop_le (LE.over _) hQ hv]
            refine ⟨fun hmm s hs' => ?_, h4 ov K' hf k⟩
            rw [← List.map_drop] at hs'
            obtain ⟨s0, hs0, rfl⟩ := List.mem_map.1 hs'
            rw [patch_comm hx _ hf]
            exact qop_le (LE.over _) hQ (hm hmm s0 hs0)
          · exact h.elim
        · rename_i hQ
          obtain ⟨v, st1, ⟨k0, k1⟩, k2, k3, k4⟩ := aop_CF hC h
          rw [patch_len hx] at k3 k4
          obtain ⟨t', st', h1, h2, h3, h4⟩ := adraw_CF hC k1 hx (by omega)
          refine ⟨t', st', h1, fun i hi hg => h2 i hi (k2 i (by rw [patch_lt hx _ _ hi]; exact hg)), by omega, fun ov K' hf k => ?_⟩
          simp only [adraw, hw, hA, hQ, if_true, Bool.false_eq_true, if_false, patch_comm hx _ hf]
          refine k4 ov _ (hf.le hb) ⟨?_, ?_⟩
          · rcases k0 with k0 | k0
            · exact .inl k0.over
            · exact .inr (pendOK_over hx hf k0)
          · have := h4 ov K' hf k
            rw [List.map_append] at this
            exact this
    · rename_i hw
      obtain ⟨t', st', h1, h2, h3, h4⟩ := adraw_CF hC h (by split; exact hx.snoc (by simp); exact hx) hb
      refine ⟨t', st', h1, h2, h3, fun ov K' hf k => ?_⟩
      have := h4 ov K' hf k
      simp only [adraw, hw]
      rw [show (if isE o.op = true then hs.map (over ov) ++ [over ov st] else hs.map (over ov)) = (if isE o.op = true then hs ++ [st] else hs).map (over ov) from by split <;> simp]
      exact this
    · exact h.elim

theorem over_gones {n : Nat} (st : List Ob) (hf : Fine ov st.length) : over ov st ++ List.replicate n .gone = over ov (st ++ List.replicate n .gone) := by
  apply List.ext_getElem?
  intro i
  rw [over_at]
  by_cases hi : i < st.length
  · rw [List.getElem?_append_left (by rw [over_len]; exact hi), List.getElem?_append_left hi, over_at]
  · rw [List.getElem?_append_right (by rw [over_len]; omega), List.getElem?_append_right (by omega), over_len, List.getElem?_replicate]
    split
    · rw [hf.1 i (by omega)]; rfl
    · rfl

theorem aloop_CF {body : ExK → List V → List Ob → Prop} (hb : ∀ (K : ExK) t st, body K t st → ∃ e t' st', K e t' st' ∧ KG1 st st' ∧ st.length ≤ st'.length ∧ ∀ ov (K' : ExK), Fine ov st.length → K' e t' (over ov st') → body K' t (over ov st)) :
    ∀ (k : Nat) {K : ExK} {t : List V} {st : List Ob}, aloop body k K t st → ∃ e t' st', K e t' st' ∧ KG1 st st' ∧ st.length ≤ st'.length ∧ ∀ ov (K' : ExK), Fine ov st.length → K' e t' (over ov st') → aloop body k K' t (over ov st)
  | 0, K, t, st, h => h.elim
  | k + 1, K, t, st, h => by
    rw [aloop] at h
    obtain ⟨e, t1, st1, h1, h2, h3, h4⟩ := hb _ _ _ h
    cases e with
    | normal =>
      obtain ⟨e', t', st', k1, k2, k3, k4⟩ := aloop_CF hb k h1
      refine ⟨e', t', st', k1, h2.trans k2, Nat.le_trans h3 k3, fun ov K' hf hk => ?_⟩
      rw [aloop]
      exact h4 ov _ hf (k4 ov K' (hf.le h3) hk)
    | _ =>
      refine ⟨_, t1, st1, h1, h2, h3, fun ov K' hf hk => ?_⟩
      rw [aloop]
      exact h4 ov _ hf hk

theorem loopEnd_CF {s : LoopState} {pend : Option Code} {K : Exit → Prop} (h : loopEnd s pend K) : ∃ e, K e ∧ ∀ K' : Exit → Prop, K' e → loopEnd s pend K' := by
  unfold loopEnd at h
  split at h
  · exact h.elim
  · exact ⟨_, h, fun K' hk => by unfold loopEnd; split <;> simp_all⟩
  · exact ⟨_, h, fun K' hk => by unfold loopEnd; split <;> simp_all⟩
  · exact ⟨_, h, fun K' hk => by unfold loopEnd; split <;> simp_all⟩
  · exact h.elim
theorem acode_CF {C : CallK} (hC : CF C) {pl : Nat → Option (List PI)} : ∀ (c : Code) (K : ExK) (t : List V) (st : List Ob), acode P C m pl c K t st →
    ∃ e t' st', K e t' st' ∧ KG1 st st' ∧ st.length ≤ st'.length ∧ ∀ ov (K' : ExK), Fine ov st.length → K' e t' (over ov st') → acode P C m pl c K' t (over ov st) := by
  intro c
  induction c with
  | skip => intro K t st h; simp only [acode] at h ⊢; exact ⟨_, _, _, h, fun _ h => h, Nat.le_refl _, fun ov K' _ h => h⟩
  | region id ops draw =>
    intro K t st h
    have flat : aops P C ops ops.toList t st (fun t st => K .normal t st) → ∃ e t' st', K e t' st' ∧ KG1 st st' ∧ st.length ≤ st'.length ∧ ∀ ov (K' : ExK), Fine ov st.length → K' e t' (over ov st') → aops P C ops ops.toList t (over ov st) fun t st => K' .normal t st := fun h => by
      obtain ⟨t', st', h1, h2, h3, h4⟩ := aops_CF hC h
      exact ⟨_, t', st', h1, h2, h3, fun ov K' hf hk => h4 ov _ hf hk⟩
    cases draw with
    | false => simp only [acode] at h ⊢; exact flat h
    | true =>
      simp only [acode] at h ⊢
      split at h
      · rename_i hpl
        exact flat h
      · rename_i plan hpl
        obtain ⟨t', st', h1, h2, h3, h4⟩ := adraw_CF hC h (fun a => by simp) (by simp)
        rw [List.length_append] at h3
        refine ⟨_, t', st', h1, fun i hi => ?_, by omega, fun ov K' hf hk => ?_⟩
        · have hlt := (List.getElem?_eq_some_iff.1 hi).1
          exact h2 i hlt (by rw [List.getElem?_append_left hlt]; exact hi)
        · rw [over_len, over_gones st hf]
          exact h4 ov _ hf hk
  | seq a b iha ihb =>
    intro K t st h
    simp only [acode] at h ⊢
    obtain ⟨e, t1, st1, h1, h2, h3, h4⟩ := iha _ _ _ h
    cases e with
    | normal =>
      obtain ⟨e', t', st', k1, k2, k3, k4⟩ := ihb _ _ _ h1
      exact ⟨e', t', st', k1, h2.trans k2, Nat.le_trans h3 k3, fun ov K' hf hk => h4 ov _ hf (k4 ov K' (hf.le h3) hk)⟩
    | _ => exact ⟨_, t1, st1, h1, h2, h3, fun ov K' hf hk => h4 ov _ hf hk⟩
  | cond c a b iha ihb =>
    intro K t st h
    simp only [acode] at h ⊢
    split at h
    · split at h
      · rename_i hx; simp only [if_pos hx]; exact iha _ _ _ h
      · rename_i hx; simp only [if_neg hx]; exact ihb _ _ _ h
    · exact h.elim
  | block id b ih =>
    intro K t st h
    simp only [acode] at h ⊢
    obtain ⟨e, t1, st1, h1, h2, h3, h4⟩ := ih _ _ _ h
    cases e with
    | exit j =>
      simp only at h1
      split at h1
      · rename_i hj
        exact ⟨_, t1, st1, h1, h2, h3, fun ov K' hf hk => h4 ov _ hf (by simp only; rw [if_pos hj]; exact hk)⟩
      · rename_i hj
        exact ⟨_, t1, st1, h1, h2, h3, fun ov K' hf hk => h4 ov _ hf (by simp only; rw [if_neg hj]; exact hk)⟩
    | _ => exact ⟨_, t1, st1, h1, h2, h3, fun ov K' hf hk => h4 ov _ hf hk⟩
  | loop b ih =>
    intro K t st h
    simp only [acode] at h ⊢
    exact aloop_CF (fun K t st h => ih K t st h) m h
  | exit id => intro K t st h; simp only [acode] at h ⊢; exact ⟨_, _, _, h, fun _ h => h, Nat.le_refl _, fun ov K' _ h => h⟩
  | ret => intro K t st h; simp only [acode] at h ⊢; exact ⟨_, _, _, h, fun _ h => h, Nat.le_refl _, fun ov K' _ h => h⟩
  | rangeFunc g ps asg body iha ihb =>
    intro K t st h
    simp only [acode] at h ⊢
    split at h
    · rename_i f caps hg
      split at h
      · exact h.elim
      · rename_i hfs
        obtain ⟨v, st1, h1, h2, h3, h4⟩ := hC _ _ _ _ h
        split at h1
        · rename_i s pend pl' t' ps' asg' body' hl
          rw [List.length_append] at h3
          obtain ⟨e, hk, hmk⟩ := loopEnd_CF h1
          refine ⟨e, t, _, hk, fun i hi => ?_, by rw [List.length_set]; omega, fun ov K' hf hk' => ?_⟩
          · have hlt := (List.getElem?_eq_some_iff.1 hi).1
            rw [List.getElem?_set_ne (by omega)]
            exact h2 i (by rw [List.getElem?_append_left hlt]; exact hi)
          · rw [over_len, fill_push_l, if_neg hfs]
            refine h4 ov _ (hf.le (by simp)) ?_
            simp only [fill_loop hl]
            refine hmk _ ?_
            rw [fill_set_l]
            exact hk'
        · exact h1.elim
    · exact h.elim
  | _ => intro K t st h; simp [acode] at h

theorem around_CF {C : CallK} (hC : CF C) {id : Nat} {args : List V} {st : List Ob} {K : V → List Ob → Prop} (h : around P C m id args st K) :
    ∃ v st', K v st' ∧ KG1 st st' ∧ st.length ≤ st'.length ∧ ∀ ov (K' : V → List Ob → Prop), Fine ov st.length → K' v (over ov st') → around P C m id args (over ov st) K' := by
  unfold around at h
  split at h
  · rename_i p0 pl t ps asg body hl
    obtain ⟨hps, h⟩ := h
    obtain ⟨e, t1, st1, ⟨he, h1⟩, h2, h3, h4⟩ := acode_CF hC _ _ _ _ h
    split at h1
    · rename_i pend1 pl1 u1 ps1 asg1 body1 hl1
      obtain ⟨e2, t2, st2, k1, k2, k3, k4⟩ := acode_CF hC _ _ _ _ h1
      rw [List.length_set] at k3
      have hset : KG1 st1 (st1.set id (.loop .busy pend1 pl1 u1 ps1 asg1 body1)) := (KG.set hl1 (by simp) (by simp)).1
      split at k1
      · rename_i s2 p2 pl2 u2 ps2 asg2 body2 hl2
        split at k1
        · rename_i s3 p3 b3 hro
          refine ⟨_, _, k1, (h2.trans hset).trans (k2.trans (KG.set hl2 (by simp) (by simp)).1), by rw [List.length_set]; omega, fun ov K' hf hk' => ?_⟩
          unfold around
          simp only [fill_loop hl]
          refine ⟨hps, h4 ov _ hf ⟨he, ?_⟩⟩
          simp only [fill_loop hl1, fill_set_l]
          refine k4 ov _ (by rw [List.length_set]; exact hf.le h3) ?_
          simp only [fill_loop hl2, hro, fill_set_l]
          exact hk'
        · exact k1.elim
      · exact k1.elim
    · exact h1.elim
  · exact h.elim
theorem ares1_fill {t : List V} {st : List Ob} {r : ResultVar} {v : V} (h : ares1 P t st r = some v) : ares1 P t (over ov st) r = some v := by
  cases r with
  | tmp i => simpa [ares1] using h
  | cell a ty =>
    simp only [ares1] at h ⊢
    split at h
    · rename_i id off ha
      split at h
      · rename_i xs hx
        simp only [fill_cells hx]
        exact h
      · cases h
    · cases h
theorem aresL_fill {t : List V} {st : List Ob} : ∀ {rs : List ResultVar} {vs : List V}, rs.mapM (ares1 P t st) = some vs → rs.mapM (ares1 P t (over ov st)) = some vs
  | [], vs, h => by simpa using h
  | r :: rs, vs, h => by
    simp only [List.mapM_cons, Option.bind_eq_bind, Option.pure_def, Option.bind_eq_some_iff, Option.some.injEq] at h ⊢
    obtain ⟨v, h1, vs', h2, rfl⟩ := h
    exact ⟨v, ares1_fill h1, vs', aresL_fill h2, rfl⟩
theorem ares_fill {fn : Func} {t : List V} {st : List Ob} {v : V} (h : ares P fn t st = some v) : ares P fn t (over ov st) = some v := by
  unfold ares at h ⊢
  split at h
  · exact ares1_fill h
  · obtain ⟨vs, h1, rfl⟩ := Option.map_eq_some_iff.1 h
    rw [aresL_fill h1]
    rfl

theorem sortedK_fill {g : List Nat} {e : Nat} {args : List V} {st st' : List Ob} {v : V} (h : sortedK g e args st = some (v, st')) : sortedK g e args (over ov st) = some (v, over ov st') ∧ KG st st' := by
  unfold sortedK at h ⊢
  split at h
  · rename_i g' c
    split at h
    · rename_i hg
      split at h
      · rename_i a hc
        split at h
        · rename_i es ha
          split at h
          · rename_i ks hk
            split at h
            · rename_i hcond
              split at h
              · rename_i h0
                cases h
                simp only [if_pos hg, fill_cells hc, fill_map ha, hk, if_pos hcond, if_pos h0]
                exact ⟨trivial, .refl _⟩
              · rename_i h0
                cases h
                simp only [if_pos hg, fill_cells hc, fill_map ha, hk, if_pos hcond, if_neg h0, over_len, fill_push_r]
                exact ⟨trivial, .push _ _⟩
            · cases h
          · cases h
        · cases h
      · cases h
    · cases h
  · rename_i a
    split at h
    · rename_i hg
      split at h
      · rename_i es ha
        cases h
        simp only [if_pos hg, fill_map ha, over_len, fill_push_m]
        exact ⟨trivial, .push _ _⟩
      · cases h
    · cases h
  · cases h
theorem over_twice {ov ov2 : Nat → Option Ob} {k : Nat} (h : Fine ov k) (st : List Ob) : over ov2 (over ov st) = over (fun i => match ov i with | some o => some o | none => ov2 i) st := by
  apply List.ext_getElem?
  intro i
  rw [over_at, over_at, over_at]
  cases hs : st[i]? with
  | none => rfl
  | some o =>
    cases o with
    | gone =>
      cases ho : ov i with
      | none => simp
      | some o2 =>
        have := h.2 i
        rw [ho] at this
        cases o2 <;> first | rfl | exact absurd rfl this
    | _ => rfl
theorem Told.over {f : FuncId} {args : List V} {st st' : List Ob} {v : V} {ov : Nat → Option Ob} (h : Told P f args st v st') (hf : Fine ov st.length) : Told P f args (over ov st) v (over ov st') := by
  obtain ⟨h1, h2, h3, h4⟩ := h
  refine ⟨h1, fun i hi => ?_, by rw [over_len, over_len]; exact h3, fun ov2 hf2 σ w us hs g hr => ?_⟩
  · rw [over_at] at hi ⊢
    cases hs : st[i]? with
    | none => rw [hs] at hi; cases hi
    | some o =>
      rw [hs] at hi
      cases o with
      | gone => rw [h2 i hs]; exact hi
      | _ => cases hi
  · rw [over_len] at hf2
    rw [over_twice hf] at hs
    have hfx : Fine (fun i => match ov i with | some o => some o | none => ov2 i) st.length := by
      refine ⟨fun i hi => ?_, fun i => ?_⟩
      · simp only [hf.1 i hi, hf2.1 i hi]
      · have := hf.2 i
        cases ho : ov i with
        | none => simp only [ho]; exact hf2.2 i
        | some o => rw [ho] at this; simpa [ho] using this
    have := h4 _ hfx σ w us hs g hr
    rw [over_twice hf]
    exact this
theorem acallF_CF {pl : Plans} : ∀ n, CF (acallF P pl n m)
  | 0 => fun f args st K h => h.elim
  | n + 1 => fun f args st K h => by
    simp only [acallF] at h
    split at h
    · rename_i fn hf
      rcases h with ⟨v, st', ht, hk⟩ | h
      · refine ⟨v, st', hk, ht.2.1, ht.2.2.1, fun ov K' hf' hk' => ?_⟩
        simp only [acallF, hf]
        exact .inl ⟨v, _, ht.over hf', hk'⟩
      split at h
      · rename_i pg pe hp
        split at h
        · rename_i v st' hs
          obtain ⟨_, q2⟩ := sortedK_fill (ov := fun _ => none) hs
          refine ⟨v, st', h, q2.one, q2.le, fun ov K' hf' hk => ?_⟩
          simp only [acallF, hf, hp, (sortedK_fill (ov := ov) hs).1]
          exact .inr hk
        · exact h.elim
      rename_i hp
      split at h
      · rename_i c hc
        obtain ⟨e, t', st', ⟨h0, h1⟩, h2, h3, h4⟩ := acode_CF (acallF_CF n) _ _ _ _ h
        split at h1
        · rename_i v hv
          refine ⟨v, st', h1, h2, h3, fun ov K' hf' hk => ?_⟩
          simp only [acallF, hf, hp, hc]
          refine .inr ?_
          exact h4 ov _ hf' ⟨h0, by simp only [ares_fill hv]; exact hk⟩
        · exact h1.elim
      · exact h.elim
    · rename_i hf
      split at h
      · rename_i hfs
        split at h
        · rename_i id as
          obtain ⟨v, st', h1, h2, h3, h4⟩ := around_CF (acallF_CF n) h
          refine ⟨v, st', h1, h2, h3, fun ov K' hf' hk => ?_⟩
          simp only [acallF, hf, if_pos hfs]
          exact h4 ov K' hf' hk
        · exact h.elim
      · exact h.elim
end
end Go.M
namespace Go.M
open Go Go.RowKit
section
variable {P : Program} {σ σ' : Sg} {w w' w1 : World}

def Sg.fill (σ : Sg) (id : Nat) (o : Ob) (b : Nat) : Sg := { st := σ.st.set id o, φ := fun i => if i = id then b else σ.φ i, L := fun k => if k = b then .obj id else σ.L k }

theorem fill_ne' {id i : Nat} {o : Ob} {b : Nat} (h : i ≠ id) : (σ.fill id o b).st[i]? = σ.st[i]? := by
  simp only [Sg.fill]; rw [List.getElem?_set_ne (Ne.symm h)]
theorem fill_self {id : Nat} {o : Ob} {b : Nat} (h : id < σ.st.length) : (σ.fill id o b).st[id]? = some o := by
  simp only [Sg.fill]; rw [List.getElem?_set_self h]
theorem fill_φ {id i : Nat} {o : Ob} {b : Nat} (h : i ≠ id) : (σ.fill id o b).φ i = σ.φ i := by simp [Sg.fill, h]

theorem Stp.fill (g : Good P σ w) {id : Nat} (hid : σ.st[id]? = some .gone) {ob : Obj} {o : Ob} (nh : ∀ es, o ≠ .held es) (ho : w1.os = w.os) (ht : w1.tape = w.tape) (hu : w1.output = w.output) (hw : w1.heap = w.heap.push ob) :
    Stp P σ (σ.fill id o w.heap.size) w w1 := by
  have hp : ∀ b, σ.L b = .pers → (σ.fill id o w.heap.size).L b = .pers ∧ w1.heap[b]? = w.heap[b]? := fun b hb => by
    have := pers_lt g hb
    exact ⟨by simp only [Sg.fill]; rw [if_neg (by omega)]; exact hb, heap_push hw this⟩
  refine Stp.of ho ht hu (by rw [hw]; simp) (fun b hb hl => ⟨by simp only [Sg.fill]; rw [if_neg (by omega)]; exact hl, heap_push hw hb⟩) hp (fun i xs hx => ?_) (fun i hx => ?_) (fun i hx => ?_) (fun i e xs n lo fz hx => ?_) (fun i es hx => ?_)
  · have hii : i ≠ id := by rintro rfl; rw [hid] at hx; cases hx
    exact ⟨fill_φ hii, xs, by rw [fill_ne' hii]; exact hx⟩
  · have hii := hx.ne hid (by simp) (by simp)
    exact ⟨fill_φ hii, hx.keep (fill_ne' hii)⟩
  · obtain ⟨s', p', pl', t', ps', a', b', hx⟩ := hx
    have hii : i ≠ id := by rintro rfl; rw [hid] at hx; cases hx
    exact ⟨fill_φ hii, s', p', pl', t', ps', a', b', by rw [fill_ne' hii]; exact hx⟩
  · have hii : i ≠ id := by rintro rfl; rw [hid] at hx; cases hx
    refine ⟨xs, n, lo, fz, by rw [fill_ne' hii]; exact hx, Nat.le_refl _, Nat.le_refl _, fun b k C _ _ hh => ?_⟩
    obtain ⟨e, xs, n, lo, fz, s, us, fr, h1, h2, h3, h4, h5, h5', h6, h7, h8, h9, h10⟩ := hh
    have hb : b < w.heap.size := (Array.getElem?_eq_some_iff.1 h6).1
    refine ⟨e, xs, n, lo, fz, s, us, fr, by rw [fill_ne' hii]; exact h1, h2, h3, h4, h5, h5', by rw [heap_push hw hb]; exact h6, ?_, RCl.mono hp h8, h9, fun hk => by rw [fill_φ hii]; exact h10 hk⟩
    simp only [Sg.fill]
    rw [if_neg (by omega)]
    exact h7
  · by_cases hii : i = id
    · subst hii
      rw [fill_self (List.getElem?_eq_some_iff.1 hid).1] at hx
      exact absurd (Option.some.inj hx) (nh es)
    · rw [fill_ne' hii] at hx
      exact ⟨hx, fill_φ hii⟩

theorem Good.fill (g : Good P σ w) {id : Nat} (hid : σ.st[id]? = some .gone) {ob : Obj} {o : Ob} (nh : ∀ es, o ≠ .held es) (ho : w1.os = w.os) (ht : w1.tape = w.tape) (hu : w1.output = w.output) (hw : w1.heap = w.heap.push ob)
    (hn : RO P (σ.fill id o w.heap.size) w1 id o) : Good P (σ.fill id o w.heap.size) w1 := by
  have hs := Stp.fill (o := o) g hid nh ho ht hu hw
  have hlt := (List.getElem?_eq_some_iff.1 hid).1
  refine ⟨fun i o' h => ?_, fun b i h => ?_, fun b h => ?_⟩
  · by_cases hii : i = id
    · subst hii
      rw [fill_self hlt] at h
      cases h
      exact hn
    · rw [fill_ne' hii] at h
      have hr := g.1 i o' h
      by_cases hne : o' = .gone
      · subst hne; simp [RO]
      · have hφ : σ.φ i < w.heap.size := by
          cases o' with
          | cells xs => obtain ⟨us, e, h1, _⟩ := hr; exact (Array.getElem?_eq_some_iff.1 h1).1
          | row e xs n lo fz => obtain ⟨us, s, C, _, _, h1, _⟩ := hr; exact (Array.getElem?_eq_some_iff.1 h1).1
          | map es => obtain ⟨ens, c, h1, _⟩ := hr; exact (Array.getElem?_eq_some_iff.1 h1).1
          | held es => obtain ⟨ens, c, h1, _⟩ := hr; exact (Array.getElem?_eq_some_iff.1 h1).1
          | loop s p pl t ps a b => obtain ⟨r, h1, _⟩ := hr; exact (Array.getElem?_eq_some_iff.1 h1).1
          | gone => exact absurd rfl hne
        exact RO.mono hs.toStq (fill_φ hii) (by simp only [Sg.fill]; rw [if_neg (by omega)]) (heap_push hw hφ) hr
  · simp only [Sg.fill] at h
    split at h
    · rename_i hb
      subst hb
      cases h
      exact ⟨by rw [hw]; simp, by simp [Sg.fill]; exact hlt⟩
    · obtain ⟨h1, h2⟩ := g.2.1 b i h
      exact ⟨by rw [hw]; simp; omega, by simp [Sg.fill]; omega⟩
  · rw [hw] at h
    simp at h
    simp only [Sg.fill]
    rw [if_neg (by omega)]
    exact g.2.2 b (by omega)

theorem fill_newcells (g : Good P σ w) {id : Nat} (hid : σ.st[id]? = some .gone) {xs : List V} {us : List Value} (hr : RVl P σ w xs us) (h1 : ∀ u ∈ us, u.oneCell' = true) (e : TypeId) :
    Good P (σ.fill id (.cells xs) w.heap.size) (w.alloc (.cells us.toArray e)) ∧ Stp P σ (σ.fill id (.cells xs) w.heap.size) w (w.alloc (.cells us.toArray e)) := by
  have hs : Stp P σ (σ.fill id (.cells xs) w.heap.size) w (w.alloc (.cells us.toArray e)) := Stp.fill g hid (by simp) rfl rfl rfl rfl
  refine ⟨Good.fill g hid (by simp) rfl rfl rfl rfl ?_, hs⟩
  simp only [RO]
  refine ⟨us.toArray, e, by show (w.heap.push _)[_]? = _; simp [Sg.fill], ?_, by simpa using h1, by simp [Sg.fill]⟩
  simpa using RVl.mono hs.toStq hr

theorem fill_newrow (g : Good P σ w) {id : Nat} (hid : σ.st[id]? = some .gone) {xs : List V} {us : List Value} {e : TypeId} {s n : Nat} (ho : w1.os = w.os) (ht : w1.tape = w.tape) (hu : w1.output = w.output)
    (hw : w1.heap = w.heap.push (.cells us.toArray e)) (hs : szOf P e = some s) (h0 : 0 < s) (hr : RCl σ.L w xs us) (hl : xs.length = n * s) (hm : n ≤ maxLen) :
    Good P (σ.fill id (.row e xs n 0 false) w.heap.size) w1 ∧ Stp P σ (σ.fill id (.row e xs n 0 false) w.heap.size) w w1 ∧
      RV P (σ.fill id (.row e xs n 0 false) w.heap.size) w1 (.sl id 0 n false n) (.slice (some ⟨w.heap.size, 0, none⟩) n n) := by
  have hlt := (List.getElem?_eq_some_iff.1 hid).1
  have hst : Stp P σ (σ.fill id (.row e xs n 0 false) w.heap.size) w w1 := Stp.fill g hid (by simp) ho ht hu hw
  have hlen := RCl.length hr
  have hr1 : RCl (σ.fill id (.row e xs n 0 false) w.heap.size).L w1 xs us := RCl.mono hst.pers hr
  have hh : w1.heap[w.heap.size]? = some (.cells us.toArray e (0, 0)) := by rw [hw]; simp
  have htake : us.take (n * s) = us := List.take_of_length_le (by omega)
  have htake2 : xs.take (n * s) = xs := List.take_of_length_le (by omega)
  refine ⟨Good.fill g hid (by simp) ho ht hu hw ?_, hst, ?_⟩
  · simp only [RO]
    refine ⟨us.toArray, s, n, hs, h0, by simp only [Sg.fill, if_true]; exact hh, by rw [List.size_toArray]; omega, Nat.le_refl _, hm, hl, Nat.zero_le _, ?_, fun _ => by simp [Sg.fill], fun h => by cases h⟩
    rw [List.toList_toArray, htake]
    exact hr1
  · simp only [RV]
    refine ⟨e, xs, n, 0, false, s, fill_self hlt, hs, by omega, ⟨_, _, rfl, Nat.le_refl _, hm, fun h => by cases h⟩, fun _ => ⟨w.heap.size, n, n, by simp, ?_, by omega, fun _ => by omega⟩⟩

    refine ⟨e, xs, n, 0, false, s, _, _, fill_self hlt, hs, h0, Nat.le_refl _, Nat.le_refl _, hm, hh, .inl (by simp [Sg.fill]), ?_, ?_, fun _ => ⟨by simp [Sg.fill], ?_⟩⟩
    · rw [List.toList_toArray, htake, htake2]
      exact hr1
    · rw [List.size_toArray, hlen, hl]; exact Nat.le_refl _
    · rw [List.size_toArray, hlen, hl]

variable {ρ : Operand → V} {ρ' : Operand → Value}

theorem aobj_sound (g : Good P σ w) (hρ : ∀ x, RV P σ w (ρ x) (ρ' x)) {id : Nat} (hid : σ.st[id]? = some .gone) {o : Oper} {v : V} {X : Ob} (h : aobj P ρ id o = some (v, X)) :
    ∃ u w', (execOp ρ' o).run P w = .ok (.value u) w' ∧ Good P (σ.fill id X w.heap.size) w' ∧ Stp P σ (σ.fill id X w.heap.size) w w' ∧ RV P (σ.fill id X w.heap.size) w' v u := by
  have hlt := (List.getElem?_eq_some_iff.1 hid).1
  obtain ⟨dst, op, ty, pos, after, gd⟩ := o
  cases op with
  | alloc t =>
    simp only [aobj] at h
    split at h
    · rename_i z hz
      split at h
      · rename_i h1
        cases h
        obtain ⟨h2, h3⟩ := fill_newcells (P := P) g hid (RVl.ofVals z.cells.toList) (fun u hu => (List.all_eq_true.1 h1) u hu) t
        refine ⟨.pointer (some ⟨w.heap.size, 0, none⟩), _, ?_, h2, h3, ?_⟩
        · simp [execOp, Instr.alloc, Sem.run_bind, zeroOf_run hz, newVar, newRow]
        · simp only [RV]
          exact ⟨by simp [Sg.fill], _, fill_self hlt⟩
      · cases h
    · cases h
  | makeMap t r =>
    cases r with
    | none =>
      simp only [aobj] at h
      cases h
      have hst : Stp P σ (σ.fill id (.map []) w.heap.size) w (w.alloc (.map #[] 0)) := Stp.fill g hid (by simp) rfl rfl rfl (by show w.heap.push _ = _; rfl)
      refine ⟨.map (some w.heap.size), w.alloc (.map #[] 0), by simp only [execOp]; exact run_v (α := Unit) (by simp [Instr.makeMap, Sem.run_bind, run_newObj_alloc]), Good.fill g hid (by simp) rfl rfl rfl (by show w.heap.push _ = _; rfl) ?_, hst, ?_⟩
      · simp only [RO]
        exact ⟨#[], 0, by show (w.heap.push _)[_]? = _; simp [Sg.fill], by simp [REs], by simp [Sg.fill], StB.nil _⟩
      · simp only [RV]
        exact ⟨by simp [Sg.fill], _, .inl (fill_self hlt)⟩
    | some x => simp [aobj] at h
  | box t x =>
    simp only [aobj] at h
    split at h
    · rename_i h1
      cases h
      obtain ⟨hr, ho⟩ := cells_sound (hρ x) h1
      obtain ⟨h2, h3⟩ := fill_newcells (P := P) g hid hr ho t
      refine ⟨.pointer (some ⟨w.heap.size, 0, none⟩), _, ?_, h2, h3, ?_⟩
      · simp [execOp, Instr.box, newVar, newRow]
      · simp only [RV]
        exact ⟨by simp [Sg.fill], _, fill_self hlt⟩
    · cases h
  | buildSlice t n ps =>
    simp only [aobj] at h
    split at h
    · rename_i e hu
      split at h
      · rename_i s z hs hz
        split at h
        · rename_i hc
          obtain ⟨hc0, hc1, hc2⟩ := hc
          split at h
          · rename_i cs hcs
            split at h
            · rename_i hcl
              cases h
              have hi : RVl P σ w ((List.range (n * s)).map fun i => M.ofVal (z.cells[i % z.cells.size]!)) ((Array.range (n * s)).map (z.cells[· % z.cells.size]!)).toList := by
                have := RVl.ofVals (P := P) (σ := σ) (w := w) ((List.range (n * s)).map fun i => z.cells[i % z.cells.size]!)
                simpa [Function.comp_def] using this
              obtain ⟨cs', h1, h2, h3⟩ := fill_sound (P := P) (σ := σ) (w := w) (us := (Array.range (n * s)).map (z.cells[· % z.cells.size]!)) (parts_fst (ρ := ρ) (ρ' := ρ') ps) (parts_snd hρ ps) hi hcs
              have hlen : cs.length = n * s := by rw [h3]; simp
              have hone := RVl.ones hcl.2 h2
              have hr : RCl σ.L w cs cs'.toList := RVl.RCl hcl.1 hone h2
              have hul := RCl.length hr
              unfold zeroOf at hz
              obtain ⟨ie, hie, hz'⟩ := Option.bind_eq_some_iff.1 hz
              have hsz : ie.size = s := by unfold szOf at hs; rw [hie] at hs; simpa using hs
              have hby : n ≤ maxLen := by
                have : n * 1 ≤ n * s := Nat.mul_le_mul_left _ hc0
                simp only [maxLen]; omega
              obtain ⟨k1, k2, k3⟩ := fill_newrow (P := P) (w1 := w.alloc (.cells cs' e)) (n := n) g hid rfl rfl rfl (by show w.heap.push _ = _; simp) hs hc0 hr hlen hby
              refine ⟨.slice (some ⟨w.heap.size, 0, none⟩) n n, _, ?_, k1, k2, k3⟩
              by_cases hpos : n * s = 0
              · have hcs0 : cs' = #[] := by
                  apply Array.eq_empty_of_size_eq_zero
                  rw [← Array.length_toList, hul, hlen, hpos]
                have h1' := h1
                rw [hpos, show Array.range 0 = #[] from rfl, Array.map_empty] at h1'
                simp only [execOp]
                refine run_v (α := Unit) ?_
                subst hsz
                simp [Instr.buildSlice, run_underlying hu, sizeOf, typeInfo, zeroValue, hie, hz', hpos, newRow]
                rw [show Array.range 0 = #[] from rfl, Array.map_empty]
                simp only [Array.toList_map] at h1'
                simp [h1']
              · simp only [execOp]
                refine run_v (α := Unit) ?_
                subst hsz
                exact run_buildSlice (P := P) w t e n _ cs' ie z hu hie hz' (by omega) hpos h1
            · cases h
          · cases h
        · cases h
      · cases h
    · cases h
  | _ => simp [aobj] at h
end
end Go.M
