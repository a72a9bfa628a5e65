/- What allocations, stores and appends do to the relation. -/
import Derived.Test.YtpdhoicpaonggaaGreatM2
import Derived.Deep.MidRow
import Derived.Great.BuildSlice
set_option linter.unusedVariables false
set_option linter.unusedSimpArgs false
namespace Go.M
open Go Go.RowKit
section
variable {P : Program} {σ σ' : Sg} {w w' : World} {L L' : Nat → Lb}

theorem RO.mono (h : Stq P σ σ' w w') {id : Nat} (hφ : σ'.φ id = σ.φ id) (hL : σ'.L (σ.φ id) = σ.L (σ.φ id)) (hh : w'.heap[σ.φ id]? = w.heap[σ.φ id]?) :
    ∀ {o : Ob}, RO P σ w id o → RO P σ' w' id o
  | .cells xs, hr => by
    simp only [RO] at hr ⊢
    obtain ⟨us, e, h1, h2, h3, h4⟩ := hr
    rw [hφ, hL, hh]
    exact ⟨us, e, h1, RVl.mono h h2, h3, h4⟩
  | .row e xs n lo fz, hr => by
    simp only [RO] at hr ⊢
    obtain ⟨us, s, C, h1, h2, h3, h4, h5, h5', h6, h6', h7, h8, h9⟩ := hr
    rw [hφ, hL, hh]
    exact ⟨us, s, C, h1, h2, h3, h4, h5, h5', h6, h6', RCl.mono h.pers h7, h8, h9⟩
  | .map es, hr => by
    simp only [RO] at hr ⊢
    obtain ⟨ens, c, h1, h2, h3⟩ := hr
    rw [hφ, hL, hh]
    exact ⟨ens, c, h1, REs.mono h h2, h3⟩
  | .held es, hr => by
    simp only [RO] at hr ⊢
    obtain ⟨ens, c, h1, h2, h3⟩ := hr
    rw [hφ, hL, hh]
    exact ⟨ens, c, h1, REs.mono h h2, h3⟩
  | .loop s pend pl t ps a b, hr => by
    simp only [RO] at hr ⊢
    obtain ⟨r, h1, h2, h3, h4, h5, h6, h7, h8, h9⟩ := hr
    rw [hφ, hL, hh]
    exact ⟨r, h1, h2, h3, RVl.mono h h4, h5, h6, h7, h8, h9⟩
  | .gone, _ => by simp [RO]

theorem Good.lt (g : Good P σ w) {id : Nat} {o : Ob} (h : σ.st[id]? = some o) : id < σ.st.length := (List.getElem?_eq_some_iff.1 h).1

theorem RVl.length : ∀ {xs : List V} {us : List Value}, RVl P σ w xs us → us.length = xs.length
  | [], us, h => by simp only [RVl] at h; subst h; rfl
  | x :: xs, us, h => by
    simp only [RVl] at h
    obtain ⟨u, us', rfl, _, h2⟩ := h
    simp [RVl.length h2]
theorem RCl.length : ∀ {xs : List V} {us : List Value}, RCl L w xs us → us.length = xs.length
  | [], us, h => by simp only [RCl] at h; subst h; rfl
  | x :: xs, us, h => by
    simp only [RCl] at h
    obtain ⟨u, us', rfl, _, _, h2⟩ := h
    simp [RCl.length h2]
theorem RCl.one : ∀ {xs : List V} {us : List Value}, RCl L w xs us → ∀ u ∈ us, u.oneCell' = true
  | [], us, h => by simp only [RCl] at h; subst h; simp
  | x :: xs, us, h => by
    simp only [RCl] at h
    obtain ⟨u, us', rfl, h1, _, h2⟩ := h
    intro v hv
    rcases List.mem_cons.1 hv with rfl | hv
    · exact h1
    · exact RCl.one h2 v hv
theorem RVl.app : ∀ {xs ys : List V} {us vs : List Value}, RVl P σ w xs us → RVl P σ w ys vs → RVl P σ w (xs ++ ys) (us ++ vs)
  | [], ys, us, vs, h, k => by simp only [RVl] at h; subst h; exact k
  | x :: xs, ys, us, vs, h, k => by
    simp only [RVl, List.cons_append] at h ⊢
    obtain ⟨u, us', rfl, h1, h2⟩ := h
    exact ⟨u, us' ++ vs, rfl, h1, RVl.app h2 k⟩
theorem RCl.app : ∀ {xs ys : List V} {us vs : List Value}, RCl L w xs us → RCl L w ys vs → RCl L w (xs ++ ys) (us ++ vs)
  | [], ys, us, vs, h, k => by simp only [RCl] at h; subst h; exact k
  | x :: xs, ys, us, vs, h, k => by
    simp only [RCl, List.cons_append] at h ⊢
    obtain ⟨u, us', rfl, h0, h1, h2⟩ := h
    exact ⟨u, us' ++ vs, rfl, h0, h1, RCl.app h2 k⟩
theorem RVl.drop : ∀ {k : Nat} {xs : List V} {us : List Value}, RVl P σ w xs us → RVl P σ w (xs.drop k) (us.drop k)
  | 0, xs, us, h => h
  | k + 1, [], us, h => by simp only [RVl] at h; subst h; simp [RVl]
  | k + 1, x :: xs, us, h => by
    simp only [RVl] at h
    obtain ⟨u, us', rfl, _, h2⟩ := h
    simpa using RVl.drop (k := k) h2
theorem RVl.take : ∀ {k : Nat} {xs : List V} {us : List Value}, RVl P σ w xs us → RVl P σ w (xs.take k) (us.take k)
  | 0, xs, us, h => by simp [RVl]
  | k + 1, [], us, h => by simp only [RVl] at h; subst h; simp [RVl]
  | k + 1, x :: xs, us, h => by
    simp only [RVl] at h
    obtain ⟨u, us', rfl, h1, h2⟩ := h
    simp only [List.take_succ_cons, RVl]
    exact ⟨u, _, rfl, h1, RVl.take h2⟩
theorem RCl.drop : ∀ {k : Nat} {xs : List V} {us : List Value}, RCl L w xs us → RCl L w (xs.drop k) (us.drop k)
  | 0, xs, us, h => h
  | k + 1, [], us, h => by simp only [RCl] at h; subst h; simp [RCl]
  | k + 1, x :: xs, us, h => by
    simp only [RCl] at h
    obtain ⟨u, us', rfl, _, _, h2⟩ := h
    simpa using RCl.drop (k := k) h2
theorem RCl.take : ∀ {k : Nat} {xs : List V} {us : List Value}, RCl L w xs us → RCl L w (xs.take k) (us.take k)
  | 0, xs, us, h => by simp [RCl]
  | k + 1, [], us, h => by simp only [RCl] at h; subst h; simp [RCl]
  | k + 1, x :: xs, us, h => by
    simp only [RCl] at h
    obtain ⟨u, us', rfl, h0, h1, h2⟩ := h
    simp only [List.take_succ_cons, RCl]
    exact ⟨u, _, rfl, h0, h1, RCl.take h2⟩

theorem RC.RV {x : V} {u : Value} (h : RC σ.L w x u) : RV P σ w x u := by
  cases x <;> simp only [RC, M.RV] at h ⊢ <;> exact h
theorem RCl.RVl : ∀ {xs : List V} {us : List Value}, RCl σ.L w xs us → RVl P σ w xs us
  | [], us, h => by simp only [RCl] at h; subst h; simp [M.RVl]
  | x :: xs, us, h => by
    simp only [RCl] at h
    obtain ⟨u, us', rfl, _, h1, h2⟩ := h
    simp only [M.RVl]
    exact ⟨u, us', rfl, h1.RV, h2.RVl⟩
theorem RV.RC {x : V} {u : Value} (hc : closed x = true) (h : RV P σ w x u) : RC σ.L w x u := by
  cases x <;> simp only [closed, M.RC, M.RV] at hc h ⊢ <;> first | exact h | cases hc
theorem RVl.RCl : ∀ {xs : List V} {us : List Value}, closedL xs = true → (∀ u ∈ us, u.oneCell' = true) → RVl P σ w xs us → RCl σ.L w xs us
  | [], us, _, _, h => by simp only [M.RVl] at h; subst h; simp [M.RCl]
  | x :: xs, us, hc, h1, h => by
    simp only [M.RVl] at h
    simp only [closedL, Bool.and_eq_true] at hc
    obtain ⟨u, us', rfl, h2, h3⟩ := h
    simp only [M.RCl]
    exact ⟨u, us', rfl, h1 u (by simp), RV.RC hc.1 h2, RVl.RCl hc.2 (fun v hv => h1 v (by simp [hv])) h3⟩

theorem RV.one {x : V} {u : Value} (hx : one x = true) (h : RV P σ w x u) : u.oneCell' = true := by
  cases x <;> simp only [M.one, M.RV] at hx h
  case sc v => subst h; exact hx
  case sl => obtain ⟨_, _, _, _, _, _, _, _, _, ⟨A, c, rfl, _⟩, _⟩ := h; rfl
  case tsl => simp only [M.RC] at h; obtain ⟨A, c, us, rfl, _⟩ := h; rfl
  case ref => obtain ⟨rfl, _⟩ := h; rfl
  case rref => obtain ⟨_, _, _, _, _, _, _, ⟨a, rfl⟩, _⟩ := h; rfl
  case tref => obtain ⟨a, us, rfl, _⟩ := h; rfl
  case agg => cases hx
  case tup => cases hx
  case map => obtain ⟨rfl, _⟩ := h; rfl
  case fn => obtain ⟨us, rfl, _⟩ := h; rfl
  case yl => obtain ⟨rfl, _⟩ := h; rfl
  case dead => cases hx
theorem RVl.ones : ∀ {xs : List V} {us : List Value}, xs.all one = true → RVl P σ w xs us → ∀ u ∈ us, u.oneCell' = true
  | [], us, _, h => by simp only [M.RVl] at h; subst h; simp
  | x :: xs, us, hc, h => by
    simp only [M.RVl] at h
    simp only [List.all_cons, Bool.and_eq_true] at hc
    obtain ⟨u, us', rfl, h2, h3⟩ := h
    intro v hv
    rcases List.mem_cons.1 hv with rfl | hv
    · exact RV.one hc.1 h2
    · exact RVl.ones hc.2 h3 v hv

def Sg.push (σ : Sg) (o : Ob) (b : Nat) (l : Lb) : Sg := { st := σ.st ++ [o], φ := fun i => if i = σ.st.length then b else σ.φ i, L := fun k => if k = b then l else σ.L k }

theorem push_get {o : Ob} {b : Nat} {l : Lb} {id : Nat} (h : id < σ.st.length) : (σ.push o b l).st[id]? = σ.st[id]? := by
  simp [Sg.push, List.getElem?_append_left h]
theorem push_new {o : Ob} {b : Nat} {l : Lb} : (σ.push o b l).st[σ.st.length]? = some o := by simp [Sg.push]
theorem push_φ {o : Ob} {b : Nat} {l : Lb} {id : Nat} (h : id < σ.st.length) : (σ.push o b l).φ id = σ.φ id := by
  simp [Sg.push]; omega
theorem heap_push {w1 : World} {ob : Obj} (hw : w1.heap = w.heap.push ob) {b : Nat} (h : b < w.heap.size) : w1.heap[b]? = w.heap[b]? := by
  rw [hw, Array.getElem?_push, if_neg (by omega)]

theorem pers_lt (g : Good P σ w) {b : Nat} (h : σ.L b = .pers) : b < w.heap.size := by
  rcases Nat.lt_or_ge b w.heap.size with h1 | h1
  · exact h1
  · rw [g.2.2 b h1] at h; cases h

theorem Stp.push (g : Good P σ w) {w1 : World} {ob : Obj} {o : Ob} {l : Lb} (nh : ∀ es, o ≠ .held es := by simp) (ho : w1.os = w.os) (ht : w1.tape = w.tape) (hu : w1.output = w.output) (hw : w1.heap = w.heap.push ob) :
    Stp P σ (σ.push o w.heap.size l) w w1 := by
  have hp : ∀ b, σ.L b = .pers → (σ.push o w.heap.size l).L b = .pers ∧ w1.heap[b]? = w.heap[b]? := fun b hb => by
    have := pers_lt g hb
    exact ⟨by simp only [Sg.push]; rw [if_neg (by omega)]; exact hb, heap_push hw this⟩
  refine Stp.of ho ht hu (by rw [hw]; simp) (fun b hb hl => ⟨by simp only [Sg.push]; rw [if_neg (by omega)]; exact hl, heap_push hw hb⟩) hp (fun id xs hx => ?_) (fun id hx => ?_) (fun id hx => ?_) (fun id e xs n lo fz hx => ?_) (fun id es hx => ?_)
  · have := g.lt hx
    exact ⟨push_φ this, xs, by rw [push_get this]; exact hx⟩
  · have := hx.lt
    exact ⟨push_φ this, hx.keep (push_get this)⟩
  · obtain ⟨s', p', pl', t', ps', a', b', hx⟩ := hx
    have := g.lt hx
    exact ⟨push_φ this, s', p', pl', t', ps', a', b', by rw [push_get this]; exact hx⟩
  · have hid := g.lt hx
    refine ⟨xs, n, lo, fz, by rw [push_get hid]; exact hx, Nat.le_refl _, Nat.le_refl _, fun b k C _ _ hh => ?_⟩
    obtain ⟨e, xs, n, lo, fz, s, us, fr, h1, h2, h3, h4, h5, h5', h6, h7, h8, h9, h10⟩ := hh
    have hb : b < w.heap.size := (Array.getElem?_eq_some_iff.1 h6).1
    refine ⟨e, xs, n, lo, fz, s, us, fr, by rw [push_get hid]; exact h1, h2, h3, h4, h5, h5', by rw [heap_push hw hb]; exact h6, ?_, RCl.mono hp h8, h9, fun hk => by rw [push_φ hid]; exact h10 hk⟩
    simp only [Sg.push]
    rw [if_neg (by omega)]
    exact h7
  · by_cases hid : id < σ.st.length
    · rw [push_get hid] at hx
      exact ⟨hx, push_φ hid⟩
    · have hid' : id = σ.st.length := by
        have := (List.getElem?_eq_some_iff.1 hx).1
        simp [Sg.push] at this
        omega
      subst hid'
      rw [push_new] at hx
      exact absurd (Option.some.inj hx) (nh es)

theorem Good.push (g : Good P σ w) {w1 : World} {ob : Obj} {o : Ob} {l : Lb} (nh : ∀ es, o ≠ .held es := by simp) (ho : w1.os = w.os) (ht : w1.tape = w.tape) (hu : w1.output = w.output) (hw : w1.heap = w.heap.push ob)
    (hl : l = .obj σ.st.length ∨ l = .pers) (hn : RO P (σ.push o w.heap.size l) w1 σ.st.length o) : Good P (σ.push o w.heap.size l) w1 := by
  have hs := Stp.push (l := l) (o := o) g nh ho ht hu hw
  refine ⟨fun id o' h => ?_, fun b id h => ?_, fun b h => ?_⟩
  · by_cases hid : id < σ.st.length
    · rw [push_get hid] at h
      have hlt : ∀ o, RO P σ w id o → o ≠ .gone → σ.φ id < w.heap.size := by
        intro o hr hne
        cases o with
        | cells xs => obtain ⟨us, e, h1, _⟩ := hr; exact (Array.getElem?_eq_some_iff.1 h1).1
        | row e xs n lo fz => obtain ⟨us, s, C, _, _, h1, _⟩ := hr; exact (Array.getElem?_eq_some_iff.1 h1).1
        | map es => obtain ⟨ens, c, h1, _⟩ := hr; exact (Array.getElem?_eq_some_iff.1 h1).1
        | held es => obtain ⟨ens, c, h1, _⟩ := hr; exact (Array.getElem?_eq_some_iff.1 h1).1
        | loop s p pl t ps a b => obtain ⟨r, h1, _⟩ := hr; exact (Array.getElem?_eq_some_iff.1 h1).1
        | gone => exact absurd rfl hne
      have hr := g.1 id o' h
      by_cases hne : o' = .gone
      · subst hne; simp [RO]
      · have hφ := hlt o' hr hne
        exact RO.mono hs (push_φ hid) (by simp only [Sg.push]; rw [if_neg (by omega)]) (heap_push hw hφ) hr
    · have hid' : id = σ.st.length := by
        have := (List.getElem?_eq_some_iff.1 h).1
        simp [Sg.push] at this
        omega
      subst hid'
      rw [push_new] at h
      cases h
      exact hn
  · simp only [Sg.push] at h
    split at h
    · rename_i hb
      subst hb
      rcases hl with rfl | rfl
      · cases h
        exact ⟨by rw [hw]; simp, by simp [Sg.push]⟩
      · cases h
    · obtain ⟨h1, h2⟩ := g.2.1 b id h
      exact ⟨by rw [hw]; simp; omega, by simp [Sg.push]; omega⟩
  · rw [hw] at h
    simp at h
    simp only [Sg.push]
    rw [if_neg (by omega)]
    exact g.2.2 b (by omega)

theorem new_cells (g : Good P σ w) {xs : List V} {us : List Value} (hr : RVl P σ w xs us) (h1 : ∀ u ∈ us, u.oneCell' = true) (e : TypeId) :
    Good P (σ.push (.cells xs) w.heap.size (.obj σ.st.length)) (w.alloc (.cells us.toArray e)) ∧ Stp P σ (σ.push (.cells xs) w.heap.size (.obj σ.st.length)) w (w.alloc (.cells us.toArray e)) := by
  have hs : Stp P σ (σ.push (.cells xs) w.heap.size (.obj σ.st.length)) w (w.alloc (.cells us.toArray e)) := Stp.push g (by simp) rfl rfl rfl rfl
  refine ⟨Good.push g (by simp) rfl rfl rfl rfl (.inl rfl) ?_, hs⟩
  simp only [RO]
  refine ⟨us.toArray, e, by show (w.heap.push _)[_]? = _; simp [Sg.push], ?_, by simpa using h1, by simp [Sg.push]⟩
  simpa using RVl.mono hs hr

theorem new_row (g : Good P σ w) {w1 : World} {xs : List V} {us : List Value} {rest : List Value} {e : TypeId} {s n C : Nat} (ho : w1.os = w.os) (ht : w1.tape = w.tape) (hu : w1.output = w.output)
    (hw : w1.heap = w.heap.push (.cells (us ++ rest).toArray e)) (hs : szOf P e = some s) (h0 : 0 < s) (hr : RCl σ.L w xs us) (hl : xs.length = n * s) (hC : (us ++ rest).length = C * s) (hn : n ≤ C) (hm : C ≤ maxLen) :
    Good P (σ.push (.row e xs n 0 false) w.heap.size (.obj σ.st.length)) w1 ∧ Stp P σ (σ.push (.row e xs n 0 false) w.heap.size (.obj σ.st.length)) w w1 ∧
      RV P (σ.push (.row e xs n 0 false) w.heap.size (.obj σ.st.length)) w1 (.sl σ.st.length 0 n false n) (.slice (some ⟨w.heap.size, 0, none⟩) n C) := by
  have hst : Stp P σ (σ.push (.row e xs n 0 false) w.heap.size (.obj σ.st.length)) w w1 := Stp.push g (by simp) ho ht hu hw
  have hlen := RCl.length hr
  have hr1 : RCl (σ.push (.row e xs n 0 false) w.heap.size (.obj σ.st.length)).L w1 xs ((us ++ rest).take (n * s)) := by
    rw [← hl, ← hlen, List.take_left]
    exact RCl.mono hst.pers hr
  have hh : w1.heap[w.heap.size]? = some (.cells (us ++ rest).toArray e (0, 0)) := by rw [hw]; simp
  refine ⟨Good.push g (by simp) ho ht hu hw (.inl rfl) ?_, hst, ?_⟩
  · simp only [RO]
    refine ⟨(us ++ rest).toArray, s, C, hs, h0, by simp only [Sg.push, if_true]; exact hh, by rw [List.size_toArray]; exact hC, hn, hm, hl, Nat.zero_le _, by simpa using hr1, fun _ => by simp [Sg.push], fun h => by cases h⟩
  · simp only [RV]
    refine ⟨e, xs, n, 0, false, s, push_new, hs, by omega, ⟨_, _, rfl, hn, hm, fun h => by cases h⟩, fun _ => ⟨w.heap.size, C, C, by simp, ?_, by omega, fun _ => by omega⟩⟩
    refine ⟨e, xs, n, 0, false, s, _, _, push_new, hs, h0, by omega, by omega, by omega, hh, .inl (by simp [Sg.push]), ?_, ?_, fun _ => ⟨by simp [Sg.push], ?_⟩⟩
    · rw [List.take_of_length_le (by rw [hl]; simp)]
      simpa using hr1
    · rw [List.size_toArray, hC]; exact Nat.mul_le_mul_right _ hn
    · rw [List.size_toArray, hC]
end
end Go.M
