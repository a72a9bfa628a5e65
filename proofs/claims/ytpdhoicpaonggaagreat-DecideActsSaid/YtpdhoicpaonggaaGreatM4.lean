/- Stores into objects and rows, and appends, in the relation. -/
import Derived.Test.YtpdhoicpaonggaaGreatM3
set_option linter.unusedVariables false
set_option linter.unusedSimpArgs false
namespace Go.M
open Go Go.RowKit

structure Chg (w w1 : World) (g : Nat) (us : Array Value) (e : TypeId) : Prop where
  os : w1.os = w.os
  tape : w1.tape = w.tape
  output : w1.output = w.output
  size : w1.heap.size = w.heap.size
  at_ : w1.heap[g]? = some (.cells us e (0, 0))
  else_ : ∀ b, b ≠ g → w1.heap[b]? = w.heap[b]?

theorem Chg.setRow {w : World} {g : Nat} {us us' : Array Value} {e : TypeId} (h : w.heap[g]? = some (.cells us e (0, 0))) : Chg w (w.setRow g us') g us' e :=
  ⟨rfl, rfl, rfl, by simp [World.setRow], setRow_heap w g us us' e (0, 0) h, fun b hb => setRow_other w g b us' hb⟩

def Sg.set (σ : Sg) (id : Nat) (o : Ob) : Sg := { σ with st := σ.st.set id o }

section
variable {P : Program} {σ σ' : Sg} {w w' w1 : World} {L L' : Nat → Lb}

theorem set_same {id : Nat} {o : Ob} (h : id < σ.st.length) : (σ.set id o).st[id]? = some o := by simp [Sg.set, h]
theorem set_ne {id i : Nat} {o : Ob} (h : i ≠ id) : (σ.set id o).st[i]? = σ.st[i]? := by simp [Sg.set, List.getElem?_set, Ne.symm h]

theorem obj_ne (g : Good P σ w) {id : Nat} (hl : σ.L (σ.φ id) = .obj id) {i : Nat} {o : Ob} (h : σ.st[i]? = some o) (hi : i ≠ id) (hne : o ≠ .gone) : σ.φ i ≠ σ.φ id := by
  have hr := g.1 i o h
  intro he
  rw [← he] at hl
  cases o with
  | cells xs => simp only [RO] at hr; obtain ⟨us, e, _, _, _, h4⟩ := hr; rw [h4] at hl; cases hl; exact hi rfl
  | row e xs n lo fz =>
    simp only [RO] at hr
    obtain ⟨us, s, C, _, _, _, _, _, _, _, _, _, h8, h9⟩ := hr
    cases fz with
    | false => rw [h8 rfl] at hl; cases hl; exact hi rfl
    | true => rw [h9 rfl] at hl; cases hl
  | map es => simp only [RO] at hr; obtain ⟨_, _, _, _, h4, _⟩ := hr; rw [h4] at hl; cases hl; exact hi rfl
  | held es => simp only [RO] at hr; obtain ⟨_, _, _, _, h4, _⟩ := hr; rw [h4] at hl; cases hl
  | loop s p pl t ps a b => simp only [RO] at hr; obtain ⟨_, _, _, _, _, _, _, _, h4, _⟩ := hr; rw [h4] at hl; cases hl; exact hi rfl
  | gone => exact hne rfl

theorem Chg.pers {id : Nat} {us : Array Value} {e : TypeId} (c : Chg w w1 (σ.φ id) us e) {id' : Nat} (hl : σ.L (σ.φ id) = .obj id') : ∀ b, σ.L b = .pers → σ.L b = .pers ∧ w1.heap[b]? = w.heap[b]? :=
  fun b hb => ⟨hb, c.else_ b (fun he => by rw [he, hl] at hb; cases hb)⟩

theorem set_cells (g : Good P σ w) {id : Nat} {xs xs' : List V} (hid : σ.st[id]? = some (.cells xs)) {us' : Array Value} {e : TypeId} (c : Chg w w1 (σ.φ id) us' e)
    (hr : RVl P σ w xs' us'.toList) (h1 : ∀ u ∈ us'.toList, u.oneCell' = true) : Good P (σ.set id (.cells xs')) w1 ∧ Stp P σ (σ.set id (.cells xs')) w w1 := by
  have hlt := g.lt hid
  have hl : σ.L (σ.φ id) = .obj id := by have := g.1 id _ hid; simp only [RO] at this; obtain ⟨_, _, _, _, _, h⟩ := this; exact h
  have hp := c.pers hl
  have hst : Stp P σ (σ.set id (.cells xs')) w w1 := by
    refine Stp.of c.os c.tape c.output (by rw [c.size]; exact Nat.le_refl _) (fun b hb hf => ⟨hf, c.else_ b (fun he => by rw [he, hl] at hf; cases hf)⟩) hp (fun i ys hi => ⟨rfl, ?_⟩) (fun i hi => ⟨rfl, ?_⟩) (fun i hi => ⟨rfl, ?_⟩) (fun i ty ys n lo fz hi => ?_) (fun i es hi => ⟨?_, rfl⟩)
    · by_cases hii : i = id
      · subst hii; exact ⟨_, set_same hlt⟩
      · exact ⟨_, (set_ne hii).trans hi⟩
    · exact hi.keep (set_ne (hi.ne hid (by simp) (by simp)))
    · obtain ⟨s', p', pl', t', ps', a', b', hi⟩ := hi
      by_cases hii : i = id
      · subst hii; rw [hid] at hi; cases hi
      · exact ⟨s', p', pl', t', ps', a', b', (set_ne hii).trans hi⟩
    · by_cases hii : i = id
      · subst hii; rw [hid] at hi; cases hi
      · refine ⟨ys, n, lo, fz, (set_ne hii).trans hi, Nat.le_refl _, Nat.le_refl _, fun b k C _ _ hh => ?_⟩
        obtain ⟨e, xs, n, lo, fz, s, us, fr, k1, k2, k3, k4, k5, k5', k6, k7, k8, k9, k10⟩ := hh
        refine ⟨e, xs, n, lo, fz, s, us, fr, (set_ne hii).trans k1, k2, k3, k4, k5, k5', ?_, k7, RCl.mono hp k8, k9, k10⟩
        rw [c.else_ b (fun he => by rw [he] at k7; rcases k7 with k7 | ⟨_, k7⟩ <;> rw [hl] at k7 <;> cases k7; exact hii rfl)]
        exact k6
    · by_cases hii : i = id
      · subst hii; rw [set_same hlt] at hi; cases hi
      · exact (set_ne hii).symm.trans hi
  refine ⟨⟨fun i o h => ?_, fun b i hb => ?_, fun b hb => g.2.2 b (by rw [c.size] at hb; exact hb)⟩, hst⟩
  · by_cases hii : i = id
    · subst hii
      rw [set_same hlt] at h
      cases h
      simp only [RO]
      exact ⟨us', e, c.at_, RVl.mono hst.toStq hr, h1, hl⟩
    · rw [set_ne hii] at h
      by_cases hne : o = .gone
      · subst hne; simp [RO]
      · exact RO.mono hst.toStq rfl rfl (c.else_ _ (obj_ne g hl h hii hne)) (g.1 i o h)
  · obtain ⟨h2, h3⟩ := g.2.1 b i hb
    exact ⟨by rw [c.size]; exact h2, by simp [Sg.set]; exact h3⟩

theorem take_app_le {α : Type} {a b : List α} {k : Nat} (h : k ≤ a.length) : (a ++ b).take k = a.take k := by
  rw [List.take_append_of_le_length h]

theorem row_stp (g : Good P σ w) {id : Nat} {e : TypeId} {xs xs' : List V} {n n' lo lo' : Nat} {fz : Bool} (hid : σ.st[id]? = some (.row e xs n lo fz)) {B : Nat} {L' : Nat → Lb}
    (ho : w1.os = w.os) (ht : w1.tape = w.tape) (hu : w1.output = w.output) (hsz : w.heap.size ≤ w1.heap.size)
    (hn : n ≤ n') (hlo : lo ≤ lo') (hblk : ∀ b, b < w.heap.size → σ.L b ≠ .obj id → w1.heap[b]? = w.heap[b]?) (hL : ∀ b, b < w.heap.size → L' b = σ.L b)
    (hold : ∀ b k C, lo' ≤ k → k ≤ n → Hold P σ w id b k C → Hold P ⟨σ.st.set id (.row e xs' n' lo' fz), fun i => if i = id then B else σ.φ i, L'⟩ w1 id b k C) :
    Stp P σ ⟨σ.st.set id (.row e xs' n' lo' fz), fun i => if i = id then B else σ.φ i, L'⟩ w w1 := by
  have hlt := g.lt hid
  have hp : ∀ b, σ.L b = .pers → L' b = .pers ∧ w1.heap[b]? = w.heap[b]? := fun b hb => by
    have := pers_lt g hb
    exact ⟨by rw [hL b this]; exact hb, hblk b this (by rw [hb]; simp)⟩
  refine Stp.of ho ht hu hsz (fun b hb hf => ⟨by rw [← hf]; exact hL b hb, hblk b hb (by rw [hf]; simp)⟩) hp (fun i ys hi => ?_) (fun i hi => ?_) (fun i hi => ?_) (fun i ty ys n2 lo2 fz2 hi => ?_) (fun i es hi => ?_)
  · have hii : i ≠ id := by rintro rfl; rw [hid] at hi; cases hi
    exact ⟨by simp [hii], ys, by simp [List.getElem?_set, Ne.symm hii, hi]⟩
  · have hii := hi.ne hid (by simp) (by simp)
    exact ⟨by simp [hii], hi.keep (by simp [List.getElem?_set, Ne.symm hii])⟩
  · obtain ⟨s', p', pl', t', ps', a', b', hi⟩ := hi
    have hii : i ≠ id := by rintro rfl; rw [hid] at hi; cases hi
    exact ⟨by simp [hii], s', p', pl', t', ps', a', b', by simp [List.getElem?_set, Ne.symm hii, hi]⟩
  · by_cases hii : i = id
    · subst hii
      rw [hid] at hi
      cases hi
      exact ⟨xs', n', lo', fz, by simp [hlt], hn, hlo, hold⟩
    · refine ⟨ys, n2, lo2, fz2, by simp [List.getElem?_set, Ne.symm hii, hi], Nat.le_refl _, Nat.le_refl _, fun b k C _ _ hh => ?_⟩
      obtain ⟨e, xs, n, lo, fz, s, us, fr, k1, k2, k3, k4, k5, k5', k6, k7, k8, k9, k10⟩ := hh
      have hb : b < w.heap.size := (Array.getElem?_eq_some_iff.1 k6).1
      refine ⟨e, xs, n, lo, fz, s, us, fr, by simp [List.getElem?_set, Ne.symm hii, k1], k2, k3, k4, k5, k5', ?_, by show L' b = _ ∨ (_ ∧ L' b = _); rw [hL b hb]; exact k7, RCl.mono hp k8, k9, fun hk => by simpa [hii] using k10 hk⟩
      rw [hblk b hb]
      · exact k6
      · rcases k7 with k7 | ⟨_, k7⟩ <;> rw [k7] <;> simp
        exact hii
  · have hi : (σ.st.set id (.row e xs' n' lo' fz))[i]? = some (.held es) := hi
    have hii : i ≠ id := by
      rintro rfl
      rw [List.getElem?_set_self hlt] at hi
      cases hi
    rw [List.getElem?_set_ne (Ne.symm hii)] at hi
    exact ⟨hi, by simp [hii]⟩

theorem row_good (g : Good P σ w) {id : Nat} {e : TypeId} {xs xs' : List V} {n n' lo lo' : Nat} {fz : Bool} (hid : σ.st[id]? = some (.row e xs n lo fz)) {B : Nat} {L' : Nat → Lb}
    (hst : Stp P σ ⟨σ.st.set id (.row e xs' n' lo' fz), fun i => if i = id then B else σ.φ i, L'⟩ w w1)
    (hblk : ∀ b, b < w.heap.size → σ.L b ≠ .obj id → w1.heap[b]? = w.heap[b]?) (hL : ∀ b, b < w.heap.size → L' b = σ.L b)
    (hL2 : ∀ b i, w.heap.size ≤ b → L' b = .obj i → b < w1.heap.size ∧ i < σ.st.length) (hL3 : ∀ b, w1.heap.size ≤ b → L' b = .frn)
    (hro : RO P ⟨σ.st.set id (.row e xs' n' lo' fz), fun i => if i = id then B else σ.φ i, L'⟩ w1 id (.row e xs' n' lo' fz)) :
    Good P ⟨σ.st.set id (.row e xs' n' lo' fz), fun i => if i = id then B else σ.φ i, L'⟩ w1 := by
  have hlt := g.lt hid
  refine ⟨fun i o h => ?_, fun b i hb => ?_, hL3⟩
  · by_cases hii : i = id
    · subst hii
      simp [hlt] at h
      subst h
      exact hro
    · simp only [List.getElem?_set, if_neg (Ne.symm hii)] at h
      by_cases hne : o = .gone
      · subst hne; simp [RO]
      · have hr := g.1 i o h
        have hφ : σ.φ i < w.heap.size ∧ σ.L (σ.φ i) ≠ .obj id := by
          cases o with
          | cells xs => simp only [RO] at hr; obtain ⟨us, e, k1, _, _, k4⟩ := hr; exact ⟨(Array.getElem?_eq_some_iff.1 k1).1, by rw [k4]; simp; exact hii⟩
          | row e xs n lo fz =>
            simp only [RO] at hr
            obtain ⟨us, s, C, _, _, k1, _, _, _, _, _, _, h8, h9⟩ := hr
            refine ⟨(Array.getElem?_eq_some_iff.1 k1).1, ?_⟩
            cases fz with
            | false => rw [h8 rfl]; simp; exact hii
            | true => rw [h9 rfl]; simp
          | map es => simp only [RO] at hr; obtain ⟨_, _, k1, _, k4, _⟩ := hr; exact ⟨(Array.getElem?_eq_some_iff.1 k1).1, by rw [k4]; simp; exact hii⟩
          | held es => simp only [RO] at hr; obtain ⟨_, _, k1, _, k4, _⟩ := hr; exact ⟨(Array.getElem?_eq_some_iff.1 k1).1, by rw [k4]; simp⟩
          | loop s p pl t ps a b => simp only [RO] at hr; obtain ⟨_, k1, _, _, _, _, _, _, k4, _⟩ := hr; exact ⟨(Array.getElem?_eq_some_iff.1 k1).1, by rw [k4]; simp; exact hii⟩
          | gone => exact absurd rfl hne
        exact RO.mono hst.toStq (by simp [hii]) (hL _ hφ.1) (hblk _ hφ.1 hφ.2) hr
  · rcases Nat.lt_or_ge b w.heap.size with h2 | h2
    · replace hb : L' b = .obj i := hb
      rw [hL b h2] at hb
      obtain ⟨h3, h4⟩ := g.2.1 b i hb
      exact ⟨Nat.lt_of_lt_of_le h3 hst.size, by simpa using h4⟩
    · obtain ⟨h3, h4⟩ := hL2 b i h2 hb
      exact ⟨h3, by simpa using h4⟩

theorem σ_same {id : Nat} {st : List Ob} : (⟨st, fun i => if i = id then σ.φ id else σ.φ i, σ.L⟩ : Sg) = { σ with st := st } := by
  have : (fun i => if i = id then σ.φ id else σ.φ i) = σ.φ := by funext i; split <;> simp_all
  rw [this]

theorem set_row (g : Good P σ w) {id : Nat} {e : TypeId} {xs xs' : List V} {n lo : Nat} (hid : σ.st[id]? = some (.row e xs n lo false)) {us us' : Array Value} {s C : Nat}
    (hus : w.heap[σ.φ id]? = some (.cells us e (0, 0))) (hs : szOf P e = some s) (hC : us.size = C * s) (c : Chg w w1 (σ.φ id) us' e) (hz : us'.size = us.size)
    (hr : RCl σ.L w xs' (us'.toList.take (n * s))) (hl : xs'.length = n * s) : Good P (σ.set id (.row e xs' n n false)) w1 ∧ Stp P σ (σ.set id (.row e xs' n n false)) w w1 := by
  have hlt := g.lt hid
  have hro := g.1 id _ hid
  simp only [RO] at hro
  obtain ⟨us0, s0, C0, r1, r2, r3, r4, r5, r6, r7, r8, r9, r10, _⟩ := hro
  rw [hs] at r1; cases r1
  rw [hus] at r3; cases r3
  have hCC : C0 * s = C * s := by rw [← r4, hC]
  have hL := r10 (by simp)
  have hp := c.pers hL
  have hblk : ∀ b, b < w.heap.size → σ.L b ≠ .obj id → w1.heap[b]? = w.heap[b]? := fun b _ hb => c.else_ b (fun he => hb (by rw [he]; exact hL))
  have hst := row_stp (xs' := xs') (n' := n) (lo' := n) (B := σ.φ id) (L' := σ.L) g hid c.os c.tape c.output (by rw [c.size]; exact Nat.le_refl _) (Nat.le_refl n) r8 hblk (fun _ _ => rfl) (fun b k C hlo hk hh => by
    obtain ⟨e2, xs2, n2, lo2, fz2, s2, us2, fr2, k1, k2, k3, k4, k5, k5', k6, k7, k8, k9, k10⟩ := hh
    rw [hid] at k1; cases k1
    rw [hs] at k2; cases k2
    have hkn : k = n := by omega
    subst hkn
    obtain ⟨rfl, hsz⟩ := k10 rfl
    rw [hus] at k6; cases k6
    refine ⟨e, xs', k, k, false, s, us', _, by simp [hlt], hs, k3, Nat.le_refl _, k5, k5', c.at_, .inl hL, ?_, by rw [hz]; exact k9, fun _ => ⟨by simp, by rw [hz]; exact hsz⟩⟩
    rw [List.take_of_length_le (by rw [hl]; exact Nat.le_refl _)]
    exact RCl.mono hp hr)
  have hgd := row_good g hid hst hblk (fun _ _ => rfl) (fun b i hb h => by rw [g.2.2 b hb] at h; cases h) (fun b hb => g.2.2 b (by rw [c.size] at hb; exact hb)) (by
    simp only [RO]
    refine ⟨us', s, C, hs, r2, by simpa using c.at_, by rw [hz]; exact hC, ?_, ?_, hl, Nat.le_refl _, RCl.mono hp hr, fun _ => by simpa using hL, fun h => by cases h⟩
    · have := Nat.eq_of_mul_eq_mul_right r2 hCC; omega
    · have := Nat.eq_of_mul_eq_mul_right r2 hCC; omega)
  rw [σ_same] at hst hgd
  exact ⟨hgd, hst⟩

theorem row_room (g : Good P σ w) {id : Nat} {e : TypeId} {xs ys : List V} {n lo m : Nat} (hid : σ.st[id]? = some (.row e xs n lo false)) {us us' : Array Value} {vs : List Value} {s C : Nat}
    (hus : w.heap[σ.φ id]? = some (.cells us e (0, 0))) (hs : szOf P e = some s) (hC : us.size = C * s) (hroom : n + m ≤ C) (c : Chg w w1 (σ.φ id) us' e)
    (hus' : us'.toList = us.toList.take (n * s) ++ vs ++ us.toList.drop (n * s + vs.length)) (hv : RCl σ.L w ys vs) (hl : ys.length = m * s) :
    Good P (σ.set id (.row e (xs ++ ys) (n + m) lo false)) w1 ∧ Stp P σ (σ.set id (.row e (xs ++ ys) (n + m) lo false)) w w1 ∧ RV P (σ.set id (.row e (xs ++ ys) (n + m) lo false)) w1 (.sl id 0 (n + m) false (n + m)) (.slice (some ⟨σ.φ id, 0, none⟩) (n + m) C) := by
  have hlt := g.lt hid
  have hro := g.1 id _ hid
  simp only [RO] at hro
  obtain ⟨us0, s0, C0, r1, r2, r3, r4, r5, r6, r7, r8, r9, r10, _⟩ := hro
  rw [hs] at r1; cases r1
  rw [hus] at r3; cases r3
  have hCC : C0 = C := Nat.eq_of_mul_eq_mul_right r2 (by rw [← r4, hC])
  subst hCC
  have hL := r10 (by simp)
  have hp := c.pers hL
  have hvl : vs.length = m * s := by rw [RCl.length hv, hl]
  have hnm : (n + m) * s = n * s + m * s := Nat.add_mul ..
  have hle : (n + m) * s ≤ C0 * s := Nat.mul_le_mul_right _ hroom
  have hul : us.toList.length = C0 * s := by rw [Array.length_toList, hC]
  have hz : us'.size = C0 * s := by
    rw [← Array.length_toList, hus']
    simp only [List.length_append, List.length_take, List.length_drop, hul, hvl]
    omega
  have hpre : ∀ k, k ≤ n → us'.toList.take (k * s) = us.toList.take (k * s) := fun k hk => by
    have : k * s ≤ n * s := Nat.mul_le_mul_right _ hk
    rw [hus', List.append_assoc, take_app_le (by rw [List.length_take, hul]; omega), List.take_take, Nat.min_eq_left this]
  have hall : us'.toList.take ((n + m) * s) = us.toList.take (n * s) ++ vs := by
    rw [hus', List.take_append_of_le_length (by rw [List.length_append, List.length_take, hul, hvl]; omega)]
    exact List.take_of_length_le (by rw [List.length_append, List.length_take, hul, hvl]; omega)
  have hblk : ∀ b, b < w.heap.size → σ.L b ≠ .obj id → w1.heap[b]? = w.heap[b]? := fun b _ hb => c.else_ b (fun he => hb (by rw [he]; exact hL))
  have hst := row_stp (xs' := xs ++ ys) (n' := n + m) (lo' := lo) (B := σ.φ id) (L' := σ.L) g hid c.os c.tape c.output (by rw [c.size]; exact Nat.le_refl _) (by omega) (Nat.le_refl _) hblk (fun _ _ => rfl) (fun b k C hlo hk hh => by
    obtain ⟨e2, xs2, n2, lo2, fz2, s2, us2, fr2, k1, k2, k3, k4, k5, k5', k6, k7, k8, k9, k10⟩ := hh
    rw [hid] at k1; cases k1
    rw [hs] at k2; cases k2
    have hks : k * s ≤ n * s := Nat.mul_le_mul_right _ hk
    by_cases hb : b = σ.φ id
    · subst hb
      rw [hus] at k6; cases k6
      refine ⟨e, xs ++ ys, n + m, lo, false, s, us', _, by simp [hlt], hs, k3, by omega, k5, k5', c.at_, .inl hL, ?_, by rw [hz]; omega, fun hkn => ⟨by simp, ?_⟩⟩
      · rw [hpre k hk, take_app_le (by rw [r7]; exact hks)]
        exact RCl.mono hp k8
      · obtain ⟨_, h2⟩ := k10 (by omega)
        rw [hz, ← hC]; exact h2
    · refine ⟨e, xs ++ ys, n + m, lo, false, s, us2, fr2, by simp [hlt], hs, k3, by omega, k5, k5', by rw [c.else_ b hb]; exact k6, k7, ?_, k9, fun hkn => absurd (k10 (by omega)).1 hb⟩
      rw [take_app_le (by rw [r7]; exact hks)]
      exact RCl.mono hp k8)
  have hcont : RCl σ.L w1 (xs ++ ys) (us'.toList.take ((n + m) * s)) := by rw [hall]; exact RCl.mono hp (RCl.app r9 hv)
  have hgd := row_good g hid hst hblk (fun _ _ => rfl) (fun b i hb h => by rw [g.2.2 b hb] at h; cases h) (fun b hb => g.2.2 b (by rw [c.size] at hb; exact hb)) (by
    simp only [RO]
    exact ⟨us', s, C0, hs, r2, by simpa using c.at_, hz, hroom, r6, by rw [List.length_append, r7, hl, hnm], by omega, hcont, fun _ => by simpa using hL, fun h => by cases h⟩)
  rw [σ_same] at hst hgd
  refine ⟨hgd, hst, ?_⟩
  simp only [RV]
  refine ⟨e, xs ++ ys, n + m, lo, false, s, set_same hlt, hs, by omega, ⟨_, _, rfl, hroom, r6, fun h => by cases h⟩, fun _ => ⟨σ.φ id, C0, C0, by simp, ?_, by omega, fun _ => by omega⟩⟩
  refine ⟨e, xs ++ ys, n + m, lo, false, s, us', _, set_same hlt, hs, r2, by omega, by omega, by omega, c.at_, .inl hL, ?_, by rw [hz]; exact hle, fun _ => ⟨rfl, hz⟩⟩
  rw [List.take_of_length_le (by rw [List.length_append, r7, hl, hnm]; exact Nat.le_refl _)]
  exact hcont

theorem row_grow (g : Good P σ w) {id : Nat} {e : TypeId} {xs ys : List V} {n lo m : Nat} (hid : σ.st[id]? = some (.row e xs n lo false)) {us : Array Value} {vs rest : List Value} {s C : Nat}
    (hus : w.heap[σ.φ id]? = some (.cells us e (0, 0))) (hs : szOf P e = some s) (hm : 0 < m) (ho : w1.os = w.os) (ht : w1.tape = w.tape) (hu : w1.output = w.output)
    (hw : w1.heap = w.heap.push (.cells (us.toList.take (n * s) ++ vs ++ rest).toArray e)) (hv : RCl σ.L w ys vs) (hl : ys.length = m * s) (hC : (us.toList.take (n * s) ++ vs ++ rest).length = C * s) (hnC : n + m ≤ C) (hmax : C ≤ maxLen) :
    ∃ σ', σ'.st = σ.st.set id (.row e (xs ++ ys) (n + m) lo false) ∧ Good P σ' w1 ∧ Stp P σ σ' w w1 ∧ RV P σ' w1 (.sl id 0 (n + m) false (n + m)) (.slice (some ⟨w.heap.size, 0, none⟩) (n + m) C) := by
  have hlt := g.lt hid
  have hro := g.1 id _ hid
  simp only [RO] at hro
  obtain ⟨us0, s0, C0, r1, r2, r3, r4, r5, r6, r7, r8, r9, r10, _⟩ := hro
  rw [hs] at r1; cases r1
  rw [hus] at r3; cases r3
  have hL := r10 (by simp)
  have hnm : (n + m) * s = n * s + m * s := Nat.add_mul ..
  have hvl : vs.length = m * s := by rw [RCl.length hv, hl]
  have hle0 : n * s ≤ C0 * s := Nat.mul_le_mul_right _ r5
  have hul : us.toList.length = C0 * s := by rw [Array.length_toList, r4]
  let L' : Nat → Lb := fun k => if k = w.heap.size then .obj id else σ.L k
  have hLL : ∀ b, b < w.heap.size → L' b = σ.L b := fun b hb => by simp only [L']; rw [if_neg (by omega)]
  have hblk : ∀ b, b < w.heap.size → w1.heap[b]? = w.heap[b]? := fun b hb => heap_push hw hb
  have hp : ∀ b, σ.L b = .pers → L' b = .pers ∧ w1.heap[b]? = w.heap[b]? := fun b hb => by
    have := pers_lt g hb
    exact ⟨by rw [hLL b this]; exact hb, hblk b this⟩
  have hsize : w1.heap.size = w.heap.size + 1 := by rw [hw]; simp
  have hst := row_stp (xs' := xs ++ ys) (n' := n + m) (lo' := lo) (B := w.heap.size) (L' := L') g hid ho ht hu (by omega) (by omega) (Nat.le_refl _) (fun b hb _ => hblk b hb) hLL (fun b k C hlo hk hh => by
    obtain ⟨e2, xs2, n2, lo2, fz2, s2, us2, fr2, k1, k2, k3, k4, k5, k5', k6, k7, k8, k9, k10⟩ := hh
    rw [hid] at k1; cases k1
    rw [hs] at k2; cases k2
    have hks : k * s ≤ n * s := Nat.mul_le_mul_right _ hk
    have hb : b < w.heap.size := (Array.getElem?_eq_some_iff.1 k6).1
    refine ⟨e, xs ++ ys, n + m, lo, false, s, us2, fr2, by simp [hlt], hs, k3, by omega, k5, k5', by rw [hblk b hb]; exact k6, by show L' b = _ ∨ (_ ∧ L' b = _); rw [hLL b hb]; exact k7, ?_, k9, fun hkn => by omega⟩
    rw [take_app_le (by rw [r7]; exact hks)]
    exact RCl.mono hp k8)
  have hnew : w1.heap[w.heap.size]? = some (.cells (us.toList.take (n * s) ++ vs ++ rest).toArray e (0, 0)) := by rw [hw]; simp
  have hall : (us.toList.take (n * s) ++ vs ++ rest).take ((n + m) * s) = us.toList.take (n * s) ++ vs := by
    rw [List.take_append_of_le_length (by rw [List.length_append, List.length_take, hul, hvl]; omega)]
    exact List.take_of_length_le (by rw [List.length_append, List.length_take, hul, hvl]; omega)
  have hcont : RCl L' w1 (xs ++ ys) ((us.toList.take (n * s) ++ vs ++ rest).take ((n + m) * s)) := by rw [hall]; exact RCl.mono hp (RCl.app r9 hv)
  have hgd := row_good g hid hst (fun b hb _ => hblk b hb) hLL (fun b i hb h => by
      simp only [L'] at h
      split at h
      · cases h; exact ⟨by omega, hlt⟩
      · rw [g.2.2 b hb] at h; cases h) (fun b hb => by simp only [L']; rw [if_neg (by omega)]; exact g.2.2 b (by omega)) (by
    simp only [RO]
    exact ⟨_, s, C, hs, r2, by simp only [if_true]; exact hnew, by rw [List.size_toArray]; exact hC, hnC, hmax, by rw [List.length_append, r7, hl, hnm], by omega, by simpa using hcont, fun _ => by simp [L'], fun h => by cases h⟩)
  refine ⟨_, rfl, hgd, hst, ?_⟩
  simp only [RV]
  refine ⟨e, xs ++ ys, n + m, lo, false, s, by simp [hlt], hs, by omega, ⟨_, _, rfl, hnC, hmax, fun h => by cases h⟩, fun _ => ⟨w.heap.size, C, C, by simp, ?_, by omega, fun _ => by omega⟩⟩
  refine ⟨e, xs ++ ys, n + m, lo, false, s, _, _, by simp [hlt], hs, r2, by omega, by omega, by omega, hnew, .inl (by simp [L']), ?_, ?_, fun _ => ⟨by simp, by rw [List.size_toArray, hC]⟩⟩
  · rw [List.take_of_length_le (by rw [List.length_append, r7, hl, hnm]; exact Nat.le_refl _)]
    simpa using hcont
  · rw [List.size_toArray, hC]; exact Nat.mul_le_mul_right _ hnC
def sameKind : Ob → Ob → Prop
  | .map _, .map _ => True
  | .loop .., .loop .. => True
  | _, _ => False
theorem set_kind (g : Good P σ w) {id : Nat} {o o' : Ob} (hid : σ.st[id]? = some o) (hk : sameKind o o') (ho : w1.os = w.os) (ht : w1.tape = w.tape) (hu : w1.output = w.output) (hsz : w1.heap.size = w.heap.size)
    (helse : ∀ b, b ≠ σ.φ id → w1.heap[b]? = w.heap[b]?) (hro : RO P (σ.set id o') w1 id o') : Good P (σ.set id o') w1 ∧ Stp P σ (σ.set id o') w w1 := by
  have hlt := g.lt hid
  have hl : σ.L (σ.φ id) = .obj id := by
    have hr := g.1 id _ hid
    cases o with
    | map es => simp only [RO] at hr; obtain ⟨_, _, _, _, h, _⟩ := hr; exact h
    | loop s p pl t ps a b => simp only [RO] at hr; obtain ⟨_, _, _, _, _, _, _, _, h, _⟩ := hr; exact h
    | _ => exact hk.elim
  have hnr : ∀ e xs n lo fz, o ≠ .row e xs n lo fz := fun e xs n lo fz he => by subst he; exact hk.elim
  have hnc : ∀ xs, o ≠ .cells xs := fun xs he => by subst he; exact hk.elim
  have hp : ∀ b, σ.L b = .pers → σ.L b = .pers ∧ w1.heap[b]? = w.heap[b]? := fun b hb => ⟨hb, helse b (fun he => by rw [he, hl] at hb; cases hb)⟩
  have hst : Stp P σ (σ.set id o') w w1 := by
    refine Stp.of ho ht hu (by rw [hsz]; exact Nat.le_refl _) (fun b hb hf => ⟨hf, helse b (fun he => by rw [he, hl] at hf; cases hf)⟩) hp (fun i ys hi => ⟨rfl, ?_⟩) (fun i hi => ⟨rfl, ?_⟩) (fun i hi => ⟨rfl, ?_⟩) (fun i ty ys n lo fz hi => ?_) (fun i es hi => ⟨?_, rfl⟩)
    · by_cases hii : i = id
      · subst hii; rw [hid] at hi; exact absurd (Option.some.inj hi) (hnc _)
      · exact ⟨_, (set_ne hii).trans hi⟩
    · by_cases hii : i = id
      · subst hii
        obtain ⟨es0, hi | hi⟩ := hi <;> rw [hid] at hi <;> cases hi
        · cases o' with
          | map es => exact ⟨es, .inl (set_same hlt)⟩
          | _ => exact hk.elim
        · exact hk.elim
      · exact hi.keep (set_ne hii)
    · obtain ⟨s', p', pl', t', ps', a', b', hi⟩ := hi
      by_cases hii : i = id
      · subst hii
        rw [hid] at hi; cases hi
        cases o' with
        | loop s p pl t ps a b => exact ⟨s, p, pl, t, ps, a, b, set_same hlt⟩
        | _ => exact hk.elim
      · exact ⟨s', p', pl', t', ps', a', b', (set_ne hii).trans hi⟩
    · by_cases hii : i = id
      · subst hii; rw [hid] at hi; exact absurd (Option.some.inj hi) (hnr _ _ _ _ _)
      · refine ⟨ys, n, lo, fz, (set_ne hii).trans hi, Nat.le_refl _, Nat.le_refl _, fun b k C _ _ hh => ?_⟩
        obtain ⟨e, xs, n, lo, fz, s, us, fr, k1, k2, k3, k4, k5, k5', k6, k7, k8, k9, k10⟩ := hh
        refine ⟨e, xs, n, lo, fz, s, us, fr, (set_ne hii).trans k1, k2, k3, k4, k5, k5', ?_, k7, RCl.mono hp k8, k9, k10⟩
        rw [helse b (fun he => by rw [he] at k7; rcases k7 with k7 | ⟨_, k7⟩ <;> rw [hl] at k7 <;> cases k7; exact hii rfl)]
        exact k6
    · by_cases hii : i = id
      · subst hii
        rw [set_same hlt] at hi
        obtain rfl := Option.some.inj hi
        cases o <;> exact hk.elim
      · exact (set_ne hii).symm.trans hi
  refine ⟨⟨fun i o2 h => ?_, fun b i hb => ?_, fun b hb => g.2.2 b (by rw [hsz] at hb; exact hb)⟩, hst⟩
  · by_cases hii : i = id
    · subst hii
      rw [set_same hlt] at h
      cases h
      exact hro
    · rw [set_ne hii] at h
      by_cases hne : o2 = .gone
      · subst hne; simp [RO]
      · exact RO.mono hst.toStq rfl rfl (helse _ (obj_ne g hl h hii hne)) (g.1 i o2 h)
  · obtain ⟨h2, h3⟩ := g.2.1 b i hb
    exact ⟨by rw [hsz]; exact h2, by simp [Sg.set]; exact h3⟩
end
end Go.M
