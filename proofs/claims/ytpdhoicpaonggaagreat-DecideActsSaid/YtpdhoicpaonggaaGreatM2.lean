/- The relation between the plain machine's values and objects and the memory of a run. -/
import Derived.Test.YtpdhoicpaonggaaGreatM1
import Derived.CallsIn
set_option linter.unusedVariables false
set_option linter.unusedSimpArgs false
namespace Go.M
open Go Go.RowKit

inductive Lb where
  | frn | pers | obj (id : Nat)
  deriving DecidableEq, Inhabited

def CA (w : World) (a : Addr) (us : List Value) : Prop := ∀ j u, us[j]? = some u → w.cell? (a.add j) = some u

mutual
def RC (L : Nat → Lb) (w : World) : V → Value → Prop
  | .sc v, u => u = v
  | .tsl xs len nil full, u => ∃ A c us, u = .slice A len c ∧ len ≤ c ∧ c ≤ maxLen ∧ (full = true → c = len) ∧ (nil = true → A = none ∧ c = 0 ∧ xs = []) ∧ (nil = false → A ≠ none) ∧ RCl L w xs us ∧
      ∀ a, A = some a → CA w a us ∧ (us ≠ [] → L a.block = .pers)
  | _, _ => False
def RCl (L : Nat → Lb) (w : World) : List V → List Value → Prop
  | [], us => us = []
  | x :: xs, us => ∃ u us', us = u :: us' ∧ u.oneCell' = true ∧ RC L w x u ∧ RCl L w xs us'
end

structure Sg where
  st : List Ob
  φ : Nat → Nat
  L : Nat → Lb

def Hold (P : Program) (σ : Sg) (w : World) (id b k C : Nat) : Prop :=
  ∃ e xs n lo fz s us fr, σ.st[id]? = some (.row e xs n lo fz) ∧ szOf P e = some s ∧ 0 < s ∧ k ≤ n ∧ k ≤ C ∧ C ≤ maxLen ∧ w.heap[b]? = some (.cells us e fr) ∧
    (σ.L b = .obj id ∨ (fz = true ∧ σ.L b = .pers)) ∧ RCl σ.L w (xs.take (k * s)) (us.toList.take (k * s)) ∧ k * s ≤ us.size ∧ (k = n → b = σ.φ id ∧ us.size = C * s)

def isLoop (st : List Ob) (id : Nat) : Prop := ∃ s p pl t ps a b, st[id]? = some (.loop s p pl t ps a b)

def isMap (st : List Ob) (id : Nat) : Prop := ∃ es, st[id]? = some (.map es) ∨ st[id]? = some (.held es)

theorem isMap.ne {st : List Ob} {i id : Nat} {o : Ob} (h : isMap st i) (hid : st[id]? = some o) (hm : ∀ es, o ≠ .map es) (hh : ∀ es, o ≠ .held es) : i ≠ id := by
  rintro rfl
  obtain ⟨es, h | h⟩ := h <;> rw [hid] at h
  · exact hm es (Option.some.inj h)
  · exact hh es (Option.some.inj h)
theorem isMap.keep {a b : List Ob} {i : Nat} (h : isMap a i) (k : b[i]? = a[i]?) : isMap b i := by
  obtain ⟨es, h⟩ := h
  exact ⟨es, by rw [k]; exact h⟩
theorem isMap.lt {a : List Ob} {i : Nat} (h : isMap a i) : i < a.length := by
  obtain ⟨es, h | h⟩ := h <;> exact (List.getElem?_eq_some_iff.1 h).1

def RSl (P : Program) (σ : Sg) (w : World) (id off len : Nat) (full : Bool) (g : Nat) (u : Value) : Prop :=
  ∃ e xs n lo fz s, σ.st[id]? = some (.row e xs n lo fz) ∧ szOf P e = some s ∧ (off + len ≤ g ∧ g ≤ n) ∧ (∃ a c, u = .slice (some a) len c ∧ len ≤ c ∧ c ≤ maxLen ∧ (full = true → c = len)) ∧ (lo ≤ g → ∃ b c C, u = .slice (some ⟨b, off * s, none⟩) len c ∧ Hold P σ w id b g C ∧ off + c ≤ C ∧ (full = false → off + c = C))

mutual
def RV (P : Program) (σ : Sg) (w : World) : V → Value → Prop
  | .sc v, u => u = v
  | .tsl xs len nil full, u => RC σ.L w (.tsl xs len nil full) u
  | .sl id off len full g, u => RSl P σ w id off len full g u
  | .ref id off, u => u = .pointer (some ⟨σ.φ id, off, none⟩) ∧ ∃ xs, σ.st[id]? = some (.cells xs)
  | .rref id off e, u => ∃ ty xs n lo fz, σ.st[id]? = some (.row ty xs n lo fz) ∧ e ≤ n ∧ (∃ a, u = .pointer (some a)) ∧ (lo ≤ e → ∃ b C s, u = .pointer (some ⟨b, off, none⟩) ∧ szOf P ty = some s ∧ Hold P σ w id b e C)
  | .tref xs, u => ∃ a us, u = .pointer (some a) ∧ RCl σ.L w xs us ∧ CA w a us ∧ (us ≠ [] → σ.L a.block = .pers)
  | .agg xs, u => ∃ us, u = .agg us.toArray ∧ RVl P σ w xs us
  | .tup xs, u => ∃ us, u = .tuple us.toArray ∧ RVl P σ w xs us
  | .map id, u => u = .map (some (σ.φ id)) ∧ isMap σ.st id
  | .fn f caps, u => ∃ us, u = .func f #[] us.toArray ∧ RVl P σ w caps us
  | .yl id, u => u = .func (.yield (σ.φ id)) #[] #[] ∧ isLoop σ.st id
  | .dead, _ => True
def RVl (P : Program) (σ : Sg) (w : World) : List V → List Value → Prop
  | [], us => us = []
  | x :: xs, us => ∃ u us', us = u :: us' ∧ RV P σ w x u ∧ RVl P σ w xs us'
end

def REs (P : Program) (σ : Sg) (w : World) : List (Value × V) → List MapEntry → Prop
  | [], es => es = []
  | (k, v) :: l, es => ∃ e es', es = e :: es' ∧ e.key = k ∧ RV P σ w v e.val ∧ REs P σ w l es'

def StB (l : List MapEntry) (c : Nat) : Prop := (∀ x ∈ l, x.born < c) ∧ (l.map (·.born)).Nodup
theorem StB.nil (c : Nat) : StB [] c := ⟨by simp, by simp⟩
theorem StB.set {l : List MapEntry} {c j : Nat} {e e' : MapEntry} (h : StB l c) (hj : l[j]? = some e) (hb : e'.born = e.born) : StB (l.set j e') c := by
  have hm : (l.set j e').map (·.born) = l.map (·.born) := by
    rw [List.map_set]
    apply List.ext_getElem?
    intro i
    by_cases hi : i = j
    · subst hi
      rw [List.getElem?_set_self (by rw [List.length_map]; exact (List.getElem?_eq_some_iff.1 hj).1), List.getElem?_map, hj, hb]; rfl
    · rw [List.getElem?_set_ne (Ne.symm hi)]
  refine ⟨fun x hx => ?_, by rw [hm]; exact h.2⟩
  rcases List.mem_or_eq_of_mem_set hx with h1 | rfl
  · exact h.1 x h1
  · rw [hb]; exact h.1 e (List.mem_of_getElem? hj)
theorem StB.push {l : List MapEntry} {c : Nat} {k v : Value} (h : StB l c) : StB (l ++ [{ key := k, val := v, born := c }]) (c + 1) := by
  refine ⟨fun x hx => ?_, ?_⟩
  · rcases List.mem_append.1 hx with h1 | h1
    · have := h.1 x h1; omega
    · simp only [List.mem_singleton] at h1; subst h1; simp
  · rw [List.map_append, List.nodup_append]
    refine ⟨h.2, by simp, fun a ha b hb => ?_⟩
    obtain ⟨x, hx, rfl⟩ := List.mem_map.1 ha
    simp only [List.map_cons, List.map_nil, List.mem_singleton] at hb
    subst hb
    have := h.1 x hx
    omega
theorem StB.sub {l l' : List MapEntry} {c : Nat} (h : StB l c) (k : l'.Sublist l) : StB l' c := ⟨fun x hx => h.1 x (k.subset hx), h.2.sublist (k.map _)⟩
def RO (P : Program) (σ : Sg) (w : World) (id : Nat) : Ob → Prop
  | .cells xs => ∃ us e, w.heap[σ.φ id]? = some (.cells us e (0, 0)) ∧ RVl P σ w xs us.toList ∧ (∀ u ∈ us.toList, u.oneCell' = true) ∧ σ.L (σ.φ id) = .obj id
  | .row e xs n lo fz => ∃ us s C, szOf P e = some s ∧ 0 < s ∧ w.heap[σ.φ id]? = some (.cells us e (0, 0)) ∧ us.size = C * s ∧ n ≤ C ∧ C ≤ maxLen ∧ xs.length = n * s ∧ lo ≤ n ∧
      RCl σ.L w xs (us.toList.take (n * s)) ∧ (fz = false → σ.L (σ.φ id) = .obj id) ∧ (fz = true → σ.L (σ.φ id) = .pers)
  | .map es => ∃ ens clock, w.heap[σ.φ id]? = some (.map ens clock) ∧ REs P σ w es ens.toList ∧ σ.L (σ.φ id) = .obj id ∧ StB ens.toList clock
  | .held es => ∃ ens clock, w.heap[σ.φ id]? = some (.map ens clock) ∧ REs P σ w es ens.toList ∧ σ.L (σ.φ id) = .frn ∧ StB ens.toList clock
  | .loop s pend pl t ps asg body => ∃ r, w.heap[σ.φ id]? = some (.loop r) ∧ r.state = s ∧ r.pending = pend ∧ RVl P σ w t r.tmps.toList ∧ r.params.toList = ps ∧ r.assign = asg ∧ r.body = body ∧ σ.L (σ.φ id) = .obj id ∧ codeOK pl true asg = true ∧ codeOK pl true body = true
  | .gone => True

def Good (P : Program) (σ : Sg) (w : World) : Prop := (∀ id o, σ.st[id]? = some o → RO P σ w id o) ∧ (∀ b id, σ.L b = .obj id → b < w.heap.size ∧ id < σ.st.length) ∧ (∀ b, w.heap.size ≤ b → σ.L b = .frn)

structure Stq (P : Program) (σ σ' : Sg) (w w' : World) : Prop where
  os : w'.os = w.os
  tape : w'.tape = w.tape
  output : w'.output = w.output
  size : w.heap.size ≤ w'.heap.size
  pers : ∀ b, σ.L b = .pers → σ'.L b = .pers ∧ w'.heap[b]? = w.heap[b]?
  cells : ∀ id xs, σ.st[id]? = some (.cells xs) → σ'.φ id = σ.φ id ∧ ∃ xs', σ'.st[id]? = some (.cells xs')
  map : ∀ id, isMap σ.st id → σ'.φ id = σ.φ id ∧ isMap σ'.st id
  loop : ∀ id, isLoop σ.st id → σ'.φ id = σ.φ id ∧ isLoop σ'.st id
  row : ∀ id e xs n lo fz, σ.st[id]? = some (.row e xs n lo fz) → ∃ xs' n' lo' fz', σ'.st[id]? = some (.row e xs' n' lo' fz') ∧ n ≤ n' ∧ lo ≤ lo' ∧ ∀ b k C, lo' ≤ k → k ≤ n → Hold P σ w id b k C → Hold P σ' w' id b k C
structure Stp (P : Program) (σ σ' : Sg) (w w' : World) : Prop extends Stq P σ σ' w w' where
  frn : ∀ b, b < w.heap.size → σ.L b = .frn → σ'.L b = .frn ∧ w'.heap[b]? = w.heap[b]?
  hld : ∀ id es, σ'.st[id]? = some (.held es) → σ.st[id]? = some (.held es) ∧ σ'.φ id = σ.φ id
theorem Stp.of {P : Program} {σ σ' : Sg} {w w' : World} (os : w'.os = w.os) (tape : w'.tape = w.tape) (output : w'.output = w.output) (size : w.heap.size ≤ w'.heap.size)
    (frn : ∀ b, b < w.heap.size → σ.L b = .frn → σ'.L b = .frn ∧ w'.heap[b]? = w.heap[b]?) (pers : ∀ b, σ.L b = .pers → σ'.L b = .pers ∧ w'.heap[b]? = w.heap[b]?)
    (cells : ∀ id xs, σ.st[id]? = some (.cells xs) → σ'.φ id = σ.φ id ∧ ∃ xs', σ'.st[id]? = some (.cells xs'))
    (map : ∀ id, isMap σ.st id → σ'.φ id = σ.φ id ∧ isMap σ'.st id)
    (loop : ∀ id, isLoop σ.st id → σ'.φ id = σ.φ id ∧ isLoop σ'.st id)
    (row : ∀ id e xs n lo fz, σ.st[id]? = some (.row e xs n lo fz) → ∃ xs' n' lo' fz', σ'.st[id]? = some (.row e xs' n' lo' fz') ∧ n ≤ n' ∧ lo ≤ lo' ∧ ∀ b k C, lo' ≤ k → k ≤ n → Hold P σ w id b k C → Hold P σ' w' id b k C)
    (hld : ∀ id es, σ'.st[id]? = some (.held es) → σ.st[id]? = some (.held es) ∧ σ'.φ id = σ.φ id) : Stp P σ σ' w w' :=
  ⟨⟨os, tape, output, size, pers, cells, map, loop, row⟩, frn, hld⟩
instance {P : Program} {σ σ' : Sg} {w w' : World} : CoeOut (Stp P σ σ' w w') (Stq P σ σ' w w') := ⟨Stp.toStq⟩

theorem cell_of_heap {w w' : World} {a : Addr} (h : w'.heap[a.block]? = w.heap[a.block]?) : w'.cell? a = w.cell? a := by simp [World.cell?, h]
theorem add_block (a : Addr) (j : Nat) : (a.add j).block = a.block := by unfold Addr.add; split <;> rfl
theorem add_at (b o j : Nat) : (⟨b, o, none⟩ : Addr).add j = ⟨b, o + j, none⟩ := by unfold Addr.add; split <;> simp_all
theorem add_add (a : Addr) (i j : Nat) : (a.add i).add j = a.add (i + j) := by
  unfold Addr.add
  by_cases hi : i = 0
  · subst hi; simp
  · by_cases hj : j = 0
    · subst hj; simp [hi]
    · simp [hi, hj]; omega

section
variable {P : Program} {σ σ' : Sg} {w w' : World} {L L' : Nat → Lb}

mutual
theorem RC.mono (h : ∀ b, L b = .pers → L' b = .pers ∧ w'.heap[b]? = w.heap[b]?) : ∀ {x : V} {u : Value}, RC L w x u → RC L' w' x u
  | .sc _, _, hr => by simpa [RC] using hr
  | .tsl xs len nil full, u, hr => by
    simp only [RC] at hr ⊢
    obtain ⟨A, c, us, h1, h2, h2', h3, h4, h5, h6, h7⟩ := hr
    refine ⟨A, c, us, h1, h2, h2', h3, h4, h5, RCl.mono h h6, fun a ha => ?_⟩
    obtain ⟨h8, h9⟩ := h7 a ha
    refine ⟨fun j u hj => ?_, fun hn => (h _ (h9 hn)).1⟩
    have hn : us ≠ [] := by rintro rfl; simp at hj
    exact (cell_of_heap (w := w) (w' := w') (by rw [add_block]; exact (h _ (h9 hn)).2)).trans (h8 j u hj)
  | .sl .., _, hr => by simp [RC] at hr
  | .ref .., _, hr => by simp [RC] at hr
  | .rref .., _, hr => by simp [RC] at hr
  | .tref .., _, hr => by simp [RC] at hr
  | .agg .., _, hr => by simp [RC] at hr
  | .tup .., _, hr => by simp [RC] at hr
  | .map .., _, hr => by simp [RC] at hr
  | .fn .., _, hr => by simp [RC] at hr
  | .yl _, _, hr => by simp [RC] at hr
  | .dead, _, hr => by simp [RC] at hr
theorem RCl.mono (h : ∀ b, L b = .pers → L' b = .pers ∧ w'.heap[b]? = w.heap[b]?) : ∀ {xs : List V} {us : List Value}, RCl L w xs us → RCl L' w' xs us
  | [], us, hr => by simpa [RCl] using hr
  | x :: xs, us, hr => by
    simp only [RCl] at hr ⊢
    obtain ⟨u, us', h1, h2, h3, h4⟩ := hr
    exact ⟨u, us', h1, h2, RC.mono h h3, RCl.mono h h4⟩
end

theorem RSl.mono (h : Stq P σ σ' w w') {id off len : Nat} {full : Bool} {g : Nat} {u : Value} (hr : RSl P σ w id off len full g u) : RSl P σ' w' id off len full g u := by
  obtain ⟨e, xs, n, lo, fz, s, h1, h2, h3, hs, h4⟩ := hr
  obtain ⟨xs', n', lo', fz', k1, k2, k3, k4⟩ := h.row id e xs n lo fz h1
  refine ⟨e, xs', n', lo', fz', s, k1, h2, by omega, hs, fun hlo => ?_⟩
  obtain ⟨b, c, C, h5, h6, h7⟩ := h4 (by omega)
  exact ⟨b, c, C, h5, k4 _ _ _ hlo h3.2 h6, h7⟩

mutual
theorem RV.mono (h : Stq P σ σ' w w') : ∀ {x : V} {u : Value}, RV P σ w x u → RV P σ' w' x u
  | .sc _, _, hr => by simpa [RV] using hr
  | .tsl .., _, hr => by simp only [RV] at hr ⊢; exact RC.mono h.pers hr
  | .sl .., _, hr => by simp only [RV] at hr ⊢; exact RSl.mono h hr
  | .ref id off, _, hr => by
    simp only [RV] at hr ⊢
    obtain ⟨rfl, xs, hx⟩ := hr
    obtain ⟨h1, h2⟩ := h.cells id xs hx
    exact ⟨by rw [h1], h2⟩
  | .rref id off e, u, hr => by
    simp only [RV] at hr ⊢
    obtain ⟨ty, xs, n, lo, fz, h1, h2, hs, h3⟩ := hr
    obtain ⟨xs', n', lo', fz', k1, k2, k3, k4⟩ := h.row id ty xs n lo fz h1
    refine ⟨ty, xs', n', lo', fz', k1, by omega, hs, fun hlo => ?_⟩
    obtain ⟨b, C, s, h4, h5, h7⟩ := h3 (by omega)
    exact ⟨b, C, s, h4, h5, k4 _ _ _ hlo h2 h7⟩
  | .tref xs, u, hr => by
    simp only [RV] at hr ⊢
    obtain ⟨a, us, h1, h2, h3, h4⟩ := hr
    refine ⟨a, us, h1, RCl.mono h.pers h2, fun j u hj => ?_, fun hn => (h.pers _ (h4 hn)).1⟩
    have hn : us ≠ [] := by rintro rfl; simp at hj
    exact (cell_of_heap (w := w) (w' := w') (by rw [add_block]; exact (h.pers _ (h4 hn)).2)).trans (h3 j u hj)
  | .agg xs, u, hr => by
    simp only [RV] at hr ⊢
    obtain ⟨us, h1, h2⟩ := hr
    exact ⟨us, h1, RVl.mono h h2⟩
  | .tup xs, u, hr => by
    simp only [RV] at hr ⊢
    obtain ⟨us, h1, h2⟩ := hr
    exact ⟨us, h1, RVl.mono h h2⟩
  | .map id, _, hr => by
    simp only [RV] at hr ⊢
    obtain ⟨rfl, hx⟩ := hr
    obtain ⟨h1, h2⟩ := h.map id hx
    exact ⟨by rw [h1], h2⟩
  | .fn f caps, u, hr => by
    simp only [RV] at hr ⊢
    obtain ⟨us, h1, h2⟩ := hr
    exact ⟨us, h1, RVl.mono h h2⟩
  | .yl id, _, hr => by
    simp only [RV] at hr ⊢
    obtain ⟨rfl, hx⟩ := hr
    obtain ⟨h1, h2⟩ := h.loop id hx
    exact ⟨by rw [h1], h2⟩
  | .dead, _, _ => by simp only [RV]
theorem RVl.mono (h : Stq P σ σ' w w') : ∀ {xs : List V} {us : List Value}, RVl P σ w xs us → RVl P σ' w' xs us
  | [], us, hr => by simpa [RVl] using hr
  | x :: xs, us, hr => by
    simp only [RVl] at hr ⊢
    obtain ⟨u, us', h1, h2, h3⟩ := hr
    exact ⟨u, us', h1, RV.mono h h2, RVl.mono h h3⟩
end

theorem Stp.refl : Stp P σ σ w w where
  os := rfl
  tape := rfl
  output := rfl
  size := Nat.le_refl _
  frn := fun _ _ h => ⟨h, rfl⟩
  hld := fun _ _ h => ⟨h, rfl⟩
  pers := fun _ h => ⟨h, rfl⟩
  cells := fun _ xs h => ⟨rfl, xs, h⟩
  map := fun _ h => ⟨rfl, h⟩
  loop := fun _ h => ⟨rfl, h⟩
  row := fun _ _ xs n lo fz h => ⟨xs, n, lo, fz, h, Nat.le_refl _, Nat.le_refl _, fun _ _ _ _ _ hh => hh⟩

theorem Stp.trans {σ2 : Sg} {w2 : World} (h : Stp P σ σ' w w') (k : Stp P σ' σ2 w' w2) : Stp P σ σ2 w w2 where
  os := k.os.trans h.os
  tape := k.tape.trans h.tape
  output := k.output.trans h.output
  size := Nat.le_trans h.size k.size
  hld := fun id es hi => by
    obtain ⟨k1, k2⟩ := k.hld id es hi
    obtain ⟨h1, h2⟩ := h.hld id es k1
    exact ⟨h1, k2.trans h2⟩
  frn := fun b hb hl => by
    obtain ⟨h1, h2⟩ := h.frn b hb hl
    obtain ⟨k1, k2⟩ := k.frn b (Nat.lt_of_lt_of_le hb h.size) h1
    exact ⟨k1, k2.trans h2⟩
  pers := fun b hl => by
    obtain ⟨h1, h2⟩ := h.pers b hl
    obtain ⟨k1, k2⟩ := k.pers b h1
    exact ⟨k1, k2.trans h2⟩
  cells := fun id xs hx => by
    obtain ⟨h1, xs', h2⟩ := h.cells id xs hx
    obtain ⟨k1, k2⟩ := k.cells id xs' h2
    exact ⟨k1.trans h1, k2⟩
  map := fun id hx => by
    obtain ⟨h1, h2⟩ := h.map id hx
    obtain ⟨k1, k2⟩ := k.map id h2
    exact ⟨k1.trans h1, k2⟩
  loop := fun id hx => by
    obtain ⟨h1, h2⟩ := h.loop id hx
    obtain ⟨k1, k2⟩ := k.loop id h2
    exact ⟨k1.trans h1, k2⟩
  row := fun id e xs n lo fz hx => by
    obtain ⟨xs', n', lo', fz', h1, h2, h3, h4⟩ := h.row id e xs n lo fz hx
    obtain ⟨xs2, n2, lo2, fz2, k1, k2, k3, k4⟩ := k.row id e xs' n' lo' fz' h1
    exact ⟨xs2, n2, lo2, fz2, k1, by omega, by omega, fun b j C hlo hj hh => k4 b j C hlo (by omega) (h4 b j C (by omega) hj hh)⟩

theorem REs.mono (h : Stq P σ σ' w w') : ∀ {es : List (Value × V)} {ens : List MapEntry}, REs P σ w es ens → REs P σ' w' es ens
  | [], ens, hr => by simpa [REs] using hr
  | (k, v) :: l, ens, hr => by
    simp only [REs] at hr ⊢
    obtain ⟨e, es', h1, h2, h3, h4⟩ := hr
    exact ⟨e, es', h1, h2, RV.mono h h3, REs.mono h h4⟩

theorem Stp.drew (q : Nat) : Stp P σ σ w { w with drawn := q } where
  os := rfl
  tape := rfl
  output := rfl
  size := Nat.le_refl _
  frn := fun _ _ h => ⟨h, rfl⟩
  hld := fun _ _ h => ⟨h, rfl⟩
  pers := fun _ h => ⟨h, rfl⟩
  cells := fun _ xs h => ⟨rfl, xs, h⟩
  map := fun _ h => ⟨rfl, h⟩
  loop := fun _ h => ⟨rfl, h⟩
  row := fun _ _ xs n lo fz h => ⟨xs, n, lo, fz, h, Nat.le_refl _, Nat.le_refl _, fun b k C _ _ hh => by
    obtain ⟨e, xs, n, lo, fz, s, us, fr, h1, h2, h3, h4, h5, h5', h6, h7, h8, h9⟩ := hh
    exact ⟨e, xs, n, lo, fz, s, us, fr, h1, h2, h3, h4, h5, h5', h6, h7, RCl.mono (L := σ.L) (L' := σ.L) (w := w) (w' := { w with drawn := q }) (fun _ hb => ⟨hb, rfl⟩) h8, h9⟩⟩
end
def over (ov : Nat → Option Ob) (st : List Ob) : List Ob := st.mapIdx fun i o => match o with
  | .gone => (ov i).getD .gone
  | o => o
def Fine (ov : Nat → Option Ob) (n : Nat) : Prop := (∀ (i : Nat), n ≤ i → ov i = none) ∧ ∀ (i : Nat), ov i ≠ some .gone
def KG1 (s s' : List Ob) : Prop := ∀ (i : Nat), s[i]? = some .gone → s'[i]? = some .gone
def RK (P : Program) (K : V → List Ob → Prop) (σ : Sg) (w : World) (e : Ending) (w' : World) : Prop := ∃ v u st' σ', e = .returned u ∧ K v st' ∧ σ'.st = st' ∧ Good P σ' w' ∧ Stp P σ σ' w w' ∧ RV P σ' w' v u
def Told (P : Program) (f : FuncId) (args : List V) (st : List Ob) (v : V) (st' : List Ob) : Prop := (∃ fn : Func, P.funcs[f]? = some fn ∧ fn.body.isNone = false) ∧ KG1 st st' ∧ st.length ≤ st'.length ∧
  ∀ ov, Fine ov st.length → ∀ (σ : Sg) (w : World) (us : List Value), σ.st = over ov st → Good P σ w → RVl P σ w args us → CallsIn Fence.wide 0 P f us.toArray w (RK P (fun v' s' => v' = v ∧ s' = over ov st') σ w)
def acallF (P : Program) (pl : Plans) : Nat → Nat → CallK
  | 0, _, _, _, _, _ => False
  | n + 1, m, f, args, st, K => match P.funcs[f]? with
    | some fn => (∃ v st', Told P f args st v st' ∧ K v st') ∨ (match prim pl f with
      | some (g, e) => match sortedK g e args st with
        | some (v, st') => K v st'
        | none => False
      | none => match fn.body with
      | some c => acode P (acallF P pl n m) m (pl f) c (fun e t st' => (e = .normal ∨ e = .ret) ∧ match ares P fn t st' with
        | some v => K v st'
        | none => False) (args ++ List.replicate (fn.ntmps - args.length) (.sc undef)) st
      | none => False)
    | none => if f = P.funcs.size then (match args with
      | .yl id :: as => around P (acallF P pl n m) m id as st K
      | _ => False) else False
end Go.M
