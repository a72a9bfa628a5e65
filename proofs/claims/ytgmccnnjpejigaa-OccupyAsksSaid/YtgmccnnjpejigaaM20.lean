/- Ranging over maps, in whatever order: the machine for functions that are told as a whole; what such a function leaves. -/
import Derived.Test.YtgmccnnjpejigaaM15
import Derived.Maps.RangeRun
set_option linter.unusedVariables false
set_option linter.unusedSimpArgs false
set_option linter.unusedSectionVars false
namespace Go.M
open Go Go.RowKit
section
variable {P : Program} {σ σ' σ0 σr : Sg} {w w' w0 w1 wr : World} {a B : Nat} {es : List (Value × V)}
/-! ### A map is held while one ranges over it -/
def Sg.hide (σ : Sg) (a : Nat) (es : List (Value × V)) : Sg := { st := σ.st.set a (.held es), φ := σ.φ, L := fun b => if b = σ.φ a then .frn else σ.L b }
def Sg.unh (σ : Sg) (a : Nat) (es : List (Value × V)) : Sg := { st := σ.st.set a (.map es), φ := σ.φ, L := fun b => if b = σ.φ a then .obj a else σ.L b }
theorem map_L (g : Good P σ w) (h : σ.st[a]? = some (.map es)) : σ.L (σ.φ a) = .obj a ∧ σ.φ a < w.heap.size := by
  have := g.1 _ _ h
  simp only [RO] at this
  obtain ⟨ens, c, h1, _, h3, _⟩ := this
  exact ⟨h3, (Array.getElem?_eq_some_iff.1 h1).1⟩
theorem held_L (g : Good P σ w) (h : σ.st[a]? = some (.held es)) : σ.L (σ.φ a) = .frn ∧ σ.φ a < w.heap.size := by
  have := g.1 _ _ h
  simp only [RO] at this
  obtain ⟨ens, c, h1, _, h3, _⟩ := this
  exact ⟨h3, (Array.getElem?_eq_some_iff.1 h1).1⟩
theorem hide_get {i : Nat} (h : i ≠ a) : (σ.hide a es).st[i]? = σ.st[i]? := by simp only [Sg.hide]; rw [List.getElem?_set_ne (Ne.symm h)]
theorem hide_at (h : a < σ.st.length) : (σ.hide a es).st[a]? = some (.held es) := by simp only [Sg.hide]; rw [List.getElem?_set_self h]
theorem unh_get {i : Nat} (h : i ≠ a) : (σ.unh a es).st[i]? = σ.st[i]? := by simp only [Sg.unh]; rw [List.getElem?_set_ne (Ne.symm h)]
theorem unh_at (h : a < σ.st.length) : (σ.unh a es).st[a]? = some (.map es) := by simp only [Sg.unh]; rw [List.getElem?_set_self h]
theorem hide_stq (g : Good P σ w) (h : σ.st[a]? = some (.map es)) : Stq P σ (σ.hide a es) w w := by
  obtain ⟨hl, hlt⟩ := map_L g h
  have la := (List.getElem?_eq_some_iff.1 h).1
  have hp : ∀ b, σ.L b = .pers → (σ.hide a es).L b = .pers ∧ w.heap[b]? = w.heap[b]? := fun b hb => ⟨by simp only [Sg.hide]; rw [if_neg (fun he => by rw [he, hl] at hb; cases hb)]; exact hb, rfl⟩
  refine ⟨rfl, rfl, rfl, Nat.le_refl _, hp, fun i xs hi => ⟨rfl, xs, ?_⟩, fun i hi => ⟨rfl, ?_⟩, fun i hi => ⟨rfl, ?_⟩, fun i e xs n lo fz hi => ⟨xs, n, lo, fz, ?_, Nat.le_refl _, Nat.le_refl _, fun b k C _ _ hh => ?_⟩⟩
  · rw [hide_get (fun he => by rw [he, h] at hi; cases hi)]; exact hi
  · by_cases hia : i = a
    · subst hia; exact ⟨es, .inr (hide_at la)⟩
    · exact hi.keep (hide_get hia)
  · obtain ⟨s', p', pl', t', ps', a', b', hi⟩ := hi
    exact ⟨s', p', pl', t', ps', a', b', by rw [hide_get (fun he => by rw [he, h] at hi; cases hi)]; exact hi⟩
  · rw [hide_get (fun he => by rw [he, h] at hi; cases hi)]; exact hi
  · obtain ⟨e, xs, n, lo, fz, s, us, fr, h1, h2, h3, h4, h5, h5', h6, h7, h8, h9, h10⟩ := hh
    have hia : i ≠ a := fun he => by rw [he, h] at h1; cases h1
    refine ⟨e, xs, n, lo, fz, s, us, fr, by rw [hide_get hia]; exact h1, h2, h3, h4, h5, h5', h6, ?_, RCl.mono hp h8, h9, h10⟩
    have hb : b ≠ σ.φ a := fun he => by
      rw [he] at h7
      rcases h7 with h7 | ⟨_, h7⟩ <;> rw [hl] at h7 <;> cases h7
      exact hia rfl
    simp only [Sg.hide]
    rw [if_neg hb]
    exact h7
theorem hide_good (g : Good P σ w) (h : σ.st[a]? = some (.map es)) : Good P (σ.hide a es) w := by
  obtain ⟨hl, hlt⟩ := map_L g h
  have la := (List.getElem?_eq_some_iff.1 h).1
  have hst := hide_stq g h
  refine ⟨fun i o hi => ?_, fun b i hb => ?_, fun b hb => ?_⟩
  · by_cases hia : i = a
    · subst hia
      rw [hide_at la] at hi
      cases hi
      have := g.1 _ _ h
      simp only [RO] at this ⊢
      obtain ⟨ens, c, h1, h2, h3, h4⟩ := this
      exact ⟨ens, c, h1, REs.mono hst h2, by simp [Sg.hide], h4⟩
    · rw [hide_get hia] at hi
      by_cases hne : o = .gone
      · subst hne; simp [RO]
      · exact RO.mono hst rfl (by simp only [Sg.hide]; rw [if_neg (obj_ne g hl hi hia hne)]) rfl (g.1 _ _ hi)
  · simp only [Sg.hide] at hb ⊢
    split at hb
    · cases hb
    · have := g.2.1 b i hb
      exact ⟨this.1, by rw [List.length_set]; exact this.2⟩
  · simp only [Sg.hide]
    split
    · rfl
    · exact g.2.2 b hb
theorem unh_stq (g : Good P σ w) (h : σ.st[a]? = some (.held es)) : Stq P σ (σ.unh a es) w w := by
  obtain ⟨hl, hlt⟩ := held_L g h
  have la := (List.getElem?_eq_some_iff.1 h).1
  have hp : ∀ b, σ.L b = .pers → (σ.unh a es).L b = .pers ∧ w.heap[b]? = w.heap[b]? := fun b hb => ⟨by simp only [Sg.unh]; rw [if_neg (fun he => by rw [he, hl] at hb; cases hb)]; exact hb, rfl⟩
  refine ⟨rfl, rfl, rfl, Nat.le_refl _, hp, fun i xs hi => ⟨rfl, xs, ?_⟩, fun i hi => ⟨rfl, ?_⟩, fun i hi => ⟨rfl, ?_⟩, fun i e xs n lo fz hi => ⟨xs, n, lo, fz, ?_, Nat.le_refl _, Nat.le_refl _, fun b k C _ _ hh => ?_⟩⟩
  · rw [unh_get (fun he => by rw [he, h] at hi; cases hi)]; exact hi
  · by_cases hia : i = a
    · subst hia; exact ⟨es, .inl (unh_at la)⟩
    · exact hi.keep (unh_get hia)
  · obtain ⟨s', p', pl', t', ps', a', b', hi⟩ := hi
    exact ⟨s', p', pl', t', ps', a', b', by rw [unh_get (fun he => by rw [he, h] at hi; cases hi)]; exact hi⟩
  · rw [unh_get (fun he => by rw [he, h] at hi; cases hi)]; exact hi
  · obtain ⟨e, xs, n, lo, fz, s, us, fr, h1, h2, h3, h4, h5, h5', h6, h7, h8, h9, h10⟩ := hh
    have hia : i ≠ a := fun he => by rw [he, h] at h1; cases h1
    refine ⟨e, xs, n, lo, fz, s, us, fr, by rw [unh_get hia]; exact h1, h2, h3, h4, h5, h5', h6, ?_, RCl.mono hp h8, h9, h10⟩
    have hb : b ≠ σ.φ a := fun he => by
      rw [he] at h7
      rcases h7 with h7 | ⟨_, h7⟩ <;> rw [hl] at h7 <;> cases h7
    simp only [Sg.unh]
    rw [if_neg hb]
    exact h7
/-- The map is there again: nobody has touched it. -/
theorem unh_ok (g : Good P σ w) (h : σ.st[a]? = some (.held es)) (gr : Good P σr wr) (hr : σr.st[a]? = some (.map es)) (p : Stp P (σr.hide a es) σ wr w) : Good P (σ.unh a es) w ∧ Stp P σr (σ.unh a es) wr w := by
  obtain ⟨hl, hlt⟩ := held_L g h
  obtain ⟨rl, rlt⟩ := map_L gr hr
  have la := (List.getElem?_eq_some_iff.1 h).1
  have lr := (List.getElem?_eq_some_iff.1 hr).1
  have hst := unh_stq g h
  have hq := hide_stq gr hr
  have hφ : σ.φ a = σr.φ a := (p.hld _ _ h).2
  have key : ∀ i o, σ.st[i]? = some o → i ≠ a → o ≠ .gone → σ.φ i ≠ σ.φ a := fun i o hi hia hne he => by
    have hro := g.1 _ _ hi
    cases o with
    | gone => exact hne rfl
    | cells xs => simp only [RO] at hro; obtain ⟨_, _, _, _, _, h4⟩ := hro; rw [he, hl] at h4; cases h4
    | row e xs n lo fz =>
      simp only [RO] at hro
      obtain ⟨us, s, C, _, _, _, _, _, _, _, _, _, h8, h9⟩ := hro
      cases fz with
      | false => have := h8 rfl; rw [he, hl] at this; cases this
      | true => have := h9 rfl; rw [he, hl] at this; cases this
    | map es => simp only [RO] at hro; obtain ⟨_, _, _, _, h4, _⟩ := hro; rw [he, hl] at h4; cases h4
    | loop s p pl t ps a b => simp only [RO] at hro; obtain ⟨_, _, _, _, _, _, _, _, h4, _⟩ := hro; rw [he, hl] at h4; cases h4
    | held es2 =>
      obtain ⟨k1, k2⟩ := p.hld _ _ hi
      rw [hide_get hia] at k1
      have := (held_L gr k1).1
      have k3 : σ.φ i = σr.φ i := k2
      rw [← k3, he, hφ, rl] at this
      cases this
  refine ⟨⟨fun i o hi => ?_, fun b i hb => ?_, fun b hb => ?_⟩, ?_⟩
  · by_cases hia : i = a
    · subst hia
      rw [unh_at la] at hi
      cases hi
      have := g.1 _ _ h
      simp only [RO] at this ⊢
      obtain ⟨ens, c, h1, h2, h3, h4⟩ := this
      exact ⟨ens, c, h1, REs.mono hst h2, by simp [Sg.unh], h4⟩
    · rw [unh_get hia] at hi
      by_cases hne : o = .gone
      · subst hne; simp [RO]
      · exact RO.mono hst rfl (by simp only [Sg.unh]; rw [if_neg (key i o hi hia hne)]) rfl (g.1 _ _ hi)
  · simp only [Sg.unh] at hb ⊢
    split at hb
    · cases hb
      rename_i hb'
      exact ⟨by rw [hb']; exact hlt, by rw [List.length_set]; exact la⟩
    · have := g.2.1 b i hb
      exact ⟨this.1, by rw [List.length_set]; exact this.2⟩
  · simp only [Sg.unh]
    rw [if_neg (by omega)]
    exact g.2.2 b hb
  · have hs := p.toStq
    have ne_hid : ∀ i o, σr.st[i]? = some o → (∀ es, o ≠ .map es) → i ≠ a := fun i o hi hn he => by rw [he, hr] at hi; exact hn _ (Option.some.inj hi).symm
    refine Stp.of hs.os hs.tape hs.output hs.size (fun b hb hf => ?_) (fun b hb => ?_) (fun i xs hi => ?_) (fun i hi => ?_) (fun i hi => ?_) (fun i e xs n lo fz hi => ?_) (fun i es2 hi => ?_)
    · have hb2 : b ≠ σr.φ a := fun he => by rw [he, rl] at hf; cases hf
      obtain ⟨k1, k2⟩ := p.frn b hb (by simp only [Sg.hide]; rw [if_neg hb2]; exact hf)
      exact ⟨by simp only [Sg.unh]; rw [if_neg (by rw [hφ]; exact hb2)]; exact k1, k2⟩
    · obtain ⟨k1, _⟩ := hq.pers b hb
      obtain ⟨k3, k4⟩ := p.pers b k1
      exact ⟨by simp only [Sg.unh]; rw [if_neg (fun he => by rw [he, hl] at k3; cases k3)]; exact k3, k4⟩
    · have hia := ne_hid i _ hi (by simp)
      obtain ⟨k1, xs', k2⟩ := p.cells i xs (by rw [hide_get hia]; exact hi)
      exact ⟨k1, xs', by rw [unh_get hia]; exact k2⟩
    · by_cases hia : i = a
      · subst hia; exact ⟨hφ, es, .inl (unh_at la)⟩
      · obtain ⟨k1, k2⟩ := p.map i (hi.keep (hide_get hia))
        exact ⟨k1, k2.keep (unh_get hia)⟩
    · obtain ⟨s', p', pl', t', ps', a', b', hi⟩ := hi
      have hia := ne_hid i _ hi (by simp)
      obtain ⟨k1, s2, p2, pl2, t2, ps2, a2, b2, k2⟩ := p.loop i ⟨s', p', pl', t', ps', a', b', by rw [hide_get hia]; exact hi⟩
      exact ⟨k1, s2, p2, pl2, t2, ps2, a2, b2, by rw [unh_get hia]; exact k2⟩
    · have hia := ne_hid i _ hi (by simp)
      obtain ⟨xs', n', lo', fz', k1, k2, k3, k4⟩ := p.row i e xs n lo fz (by rw [hide_get hia]; exact hi)
      refine ⟨xs', n', lo', fz', by rw [unh_get hia]; exact k1, k2, k3, fun b k C h1 h2 hh => ?_⟩
      obtain ⟨xq, nq, loq, fzq, q1, q2, q3, q4⟩ := hq.row i e xs n lo fz hi
      have e1 : loq = lo := by rw [hide_get hia, hi] at q1; cases q1; rfl
      have hh2 := k4 b k C h1 h2 (q4 b k C (by omega) h2 hh)
      obtain ⟨xu, nu, lu, fu, u1, u2, u3, u4⟩ := hst.row i e xs' n' lo' fz' k1
      have e2 : lu = lo' := by rw [unh_get hia, k1] at u1; cases u1; rfl
      exact u4 b k C (by omega) (by omega) hh2
    · have hia : i ≠ a := fun he => by subst he; rw [unh_at la] at hi; cases hi
      rw [unh_get hia] at hi
      obtain ⟨k1, k2⟩ := p.hld _ _ hi
      rw [hide_get hia] at k1
      exact ⟨k1, k2⟩
end
end Go.M
