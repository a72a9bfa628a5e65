/- A new object at a place that was kept for it. -/
import Derived.Test.YtfndpnmdjblokaaM11e
set_option linter.unusedVariables false
set_option linter.unusedSimpArgs false
namespace Go.M
open Go Go.RowKit
section
variable {P : Program} {σ σ' : Sg} {w w' w1 : World}

def Sg.fill (σ : Sg) (id : Nat) (o : Ob) (b : Nat) : Sg := { st := σ.st.set id o, φ := fun i => if i = id then b else σ.φ i, L := fun k => if k = b then .obj id else σ.L k }

theorem fill_ne' {id i : Nat} {o : Ob} {b : Nat} (h : i ≠ id) : (σ.fill id o b).st[i]? = σ.st[i]? := by
  simp only [Sg.fill]; rw [List.getElem?_set_ne (Ne.symm h)]
theorem fill_self {id : Nat} {o : Ob} {b : Nat} (h : id < σ.st.length) : (σ.fill id o b).st[id]? = some o := by
  simp only [Sg.fill]; rw [List.getElem?_set_self h]
theorem fill_φ {id i : Nat} {o : Ob} {b : Nat} (h : i ≠ id) : (σ.fill id o b).φ i = σ.φ i := by simp [Sg.fill, h]

theorem Stp.fill (g : Good P σ w) {id : Nat} (hid : σ.st[id]? = some .gone) {ob : Obj} {o : Ob} (ho : w1.os = w.os) (ht : w1.tape = w.tape) (hu : w1.output = w.output) (hw : w1.heap = w.heap.push ob) :
    Stp P σ (σ.fill id o w.heap.size) w w1 := by
  have hp : ∀ b, σ.L b = .pers → (σ.fill id o w.heap.size).L b = .pers ∧ w1.heap[b]? = w.heap[b]? := fun b hb => by
    have := pers_lt g hb
    exact ⟨by simp only [Sg.fill]; rw [if_neg (by omega)]; exact hb, heap_push hw this⟩
  refine ⟨ho, ht, hu, by rw [hw]; simp, fun b hb hl => ⟨by simp only [Sg.fill]; rw [if_neg (by omega)]; exact hl, heap_push hw hb⟩, hp, fun i xs hx => ?_, fun i xs hx => ?_, fun i e xs n lo fz hx => ?_⟩
  · have hii : i ≠ id := by rintro rfl; rw [hid] at hx; cases hx
    exact ⟨fill_φ hii, xs, by rw [fill_ne' hii]; exact hx⟩
  · have hii : i ≠ id := by rintro rfl; rw [hid] at hx; cases hx
    exact ⟨fill_φ hii, xs, by rw [fill_ne' hii]; exact hx⟩
  · have hii : i ≠ id := by rintro rfl; rw [hid] at hx; cases hx
    refine ⟨xs, n, lo, fz, by rw [fill_ne' hii]; exact hx, Nat.le_refl _, Nat.le_refl _, fun b k C _ _ hh => ?_⟩
    obtain ⟨e, xs, n, lo, fz, s, us, fr, h1, h2, h3, h4, h5, h5', h6, h7, h8, h9, h10⟩ := hh
    have hb : b < w.heap.size := (Array.getElem?_eq_some_iff.1 h6).1
    refine ⟨e, xs, n, lo, fz, s, us, fr, by rw [fill_ne' hii]; exact h1, h2, h3, h4, h5, h5', by rw [heap_push hw hb]; exact h6, ?_, RCl.mono hp h8, h9, fun hk => by rw [fill_φ hii]; exact h10 hk⟩
    simp only [Sg.fill]
    rw [if_neg (by omega)]
    exact h7

theorem Good.fill (g : Good P σ w) {id : Nat} (hid : σ.st[id]? = some .gone) {ob : Obj} {o : Ob} (ho : w1.os = w.os) (ht : w1.tape = w.tape) (hu : w1.output = w.output) (hw : w1.heap = w.heap.push ob)
    (hn : RO P (σ.fill id o w.heap.size) w1 id o) : Good P (σ.fill id o w.heap.size) w1 := by
  have hs := Stp.fill (o := o) g hid ho ht hu hw
  have hlt := (List.getElem?_eq_some_iff.1 hid).1
  refine ⟨fun i o' h => ?_, fun b i h => ?_, fun b h => ?_⟩
  · by_cases hii : i = id
    · subst hii
      rw [fill_self hlt] at h
      cases h
      exact hn
    · rw [fill_ne' hii] at h
      have hr := g.1 i o' h
      by_cases hne : o' = .gone
      · subst hne; simp [RO]
      · have hφ : σ.φ i < w.heap.size := by
          cases o' with
          | cells xs => obtain ⟨us, e, h1, _⟩ := hr; exact (Array.getElem?_eq_some_iff.1 h1).1
          | row e xs n lo fz => obtain ⟨us, s, C, _, _, h1, _⟩ := hr; exact (Array.getElem?_eq_some_iff.1 h1).1
          | map es => simp [RO] at hr
          | gone => exact absurd rfl hne
        exact RO.mono hs (fill_φ hii) (by simp only [Sg.fill]; rw [if_neg (by omega)]) (heap_push hw hφ) hr
  · simp only [Sg.fill] at h
    split at h
    · rename_i hb
      subst hb
      cases h
      exact ⟨by rw [hw]; simp, by simp [Sg.fill]; exact hlt⟩
    · obtain ⟨h1, h2⟩ := g.2.1 b i h
      exact ⟨by rw [hw]; simp; omega, by simp [Sg.fill]; omega⟩
  · rw [hw] at h
    simp at h
    simp only [Sg.fill]
    rw [if_neg (by omega)]
    exact g.2.2 b (by omega)

theorem fill_newcells (g : Good P σ w) {id : Nat} (hid : σ.st[id]? = some .gone) {xs : List V} {us : List Value} (hr : RVl P σ w xs us) (h1 : ∀ u ∈ us, u.oneCell' = true) (e : TypeId) :
    Good P (σ.fill id (.cells xs) w.heap.size) (w.alloc (.cells us.toArray e)) ∧ Stp P σ (σ.fill id (.cells xs) w.heap.size) w (w.alloc (.cells us.toArray e)) := by
  have hs : Stp P σ (σ.fill id (.cells xs) w.heap.size) w (w.alloc (.cells us.toArray e)) := Stp.fill g hid rfl rfl rfl rfl
  refine ⟨Good.fill g hid rfl rfl rfl rfl ?_, hs⟩
  simp only [RO]
  refine ⟨us.toArray, e, by show (w.heap.push _)[_]? = _; simp [Sg.fill], ?_, by simpa using h1, by simp [Sg.fill]⟩
  simpa using RVl.mono hs hr

theorem fill_newrow (g : Good P σ w) {id : Nat} (hid : σ.st[id]? = some .gone) {xs : List V} {us : List Value} {e : TypeId} {s n : Nat} (ho : w1.os = w.os) (ht : w1.tape = w.tape) (hu : w1.output = w.output)
    (hw : w1.heap = w.heap.push (.cells us.toArray e)) (hs : szOf P e = some s) (h0 : 0 < s) (hr : RCl σ.L w xs us) (hl : xs.length = n * s) (hm : n ≤ maxLen) :
    Good P (σ.fill id (.row e xs n 0 false) w.heap.size) w1 ∧ Stp P σ (σ.fill id (.row e xs n 0 false) w.heap.size) w w1 ∧
      RV P (σ.fill id (.row e xs n 0 false) w.heap.size) w1 (.sl id 0 n false) (.slice (some ⟨w.heap.size, 0, none⟩) n n) := by
  have hlt := (List.getElem?_eq_some_iff.1 hid).1
  have hst : Stp P σ (σ.fill id (.row e xs n 0 false) w.heap.size) w w1 := Stp.fill g hid ho ht hu hw
  have hlen := RCl.length hr
  have hr1 : RCl (σ.fill id (.row e xs n 0 false) w.heap.size).L w1 xs us := RCl.mono hst.pers hr
  have hh : w1.heap[w.heap.size]? = some (.cells us.toArray e (0, 0)) := by rw [hw]; simp
  have htake : us.take (n * s) = us := List.take_of_length_le (by omega)
  have htake2 : xs.take (n * s) = xs := List.take_of_length_le (by omega)
  refine ⟨Good.fill g hid ho ht hu hw ?_, hst, ?_⟩
  · simp only [RO]
    refine ⟨us.toArray, s, n, hs, h0, by simp only [Sg.fill, if_true]; exact hh, by rw [List.size_toArray]; omega, Nat.le_refl _, hm, hl, Nat.zero_le _, ?_, fun _ => by simp [Sg.fill], fun h => by cases h⟩
    rw [List.toList_toArray, htake]
    exact hr1
  · simp only [RV]
    refine ⟨e, xs, n, 0, false, s, fill_self hlt, hs, by omega, ⟨_, _, rfl, Nat.le_refl _, hm, fun h => by cases h⟩, fun _ => ⟨w.heap.size, n, n, by simp, ?_, by omega, fun _ => by omega⟩⟩
    rw [Nat.zero_add]
    refine ⟨e, xs, n, 0, false, s, _, _, fill_self hlt, hs, h0, Nat.le_refl _, Nat.le_refl _, hm, hh, .inl (by simp [Sg.fill]), ?_, ?_, fun _ => ⟨by simp [Sg.fill], ?_⟩⟩
    · rw [List.toList_toArray, htake, htake2]
      exact hr1
    · rw [List.size_toArray, hlen, hl]; exact Nat.le_refl _
    · rw [List.size_toArray, hlen, hl]

variable {ρ : Operand → V} {ρ' : Operand → Value}

/-- A new object, at its place. -/
theorem aobj_sound (g : Good P σ w) (hρ : ∀ x, RV P σ w (ρ x) (ρ' x)) {id : Nat} (hid : σ.st[id]? = some .gone) {o : Oper} {v : V} {X : Ob} (h : aobj P ρ id o = some (v, X)) :
    ∃ u w', (execOp ρ' o).run P w = .ok (.value u) w' ∧ Good P (σ.fill id X w.heap.size) w' ∧ Stp P σ (σ.fill id X w.heap.size) w w' ∧ RV P (σ.fill id X w.heap.size) w' v u := by
  have hlt := (List.getElem?_eq_some_iff.1 hid).1
  obtain ⟨dst, op, ty, pos, after, gd⟩ := o
  cases op with
  | alloc t =>
    simp only [aobj] at h
    split at h
    · rename_i z hz
      split at h
      · rename_i h1
        cases h
        obtain ⟨h2, h3⟩ := fill_newcells (P := P) g hid (RVl.ofVals z.cells.toList) (fun u hu => (List.all_eq_true.1 h1) u hu) t
        refine ⟨.pointer (some ⟨w.heap.size, 0, none⟩), _, ?_, h2, h3, ?_⟩
        · simp [execOp, Instr.alloc, Sem.run_bind, zeroOf_run hz, newVar, newRow]
        · simp only [RV]
          exact ⟨by simp [Sg.fill], _, fill_self hlt⟩
      · cases h
    · cases h
  | box t x =>
    simp only [aobj] at h
    split at h
    · rename_i h1
      cases h
      obtain ⟨hr, ho⟩ := cells_sound (hρ x) h1
      obtain ⟨h2, h3⟩ := fill_newcells (P := P) g hid hr ho t
      refine ⟨.pointer (some ⟨w.heap.size, 0, none⟩), _, ?_, h2, h3, ?_⟩
      · simp [execOp, Instr.box, newVar, newRow]
      · simp only [RV]
        exact ⟨by simp [Sg.fill], _, fill_self hlt⟩
    · cases h
  | buildSlice t n ps =>
    simp only [aobj] at h
    split at h
    · rename_i e hu
      split at h
      · rename_i s z hs hz
        split at h
        · rename_i hc
          obtain ⟨hc0, hc1, hc2⟩ := hc
          split at h
          · rename_i cs hcs
            split at h
            · rename_i hcl
              cases h
              have hi : RVl P σ w ((List.range (n * s)).map fun i => M.ofVal (z.cells[i % z.cells.size]!)) ((Array.range (n * s)).map (z.cells[· % z.cells.size]!)).toList := by
                have := RVl.ofVals (P := P) (σ := σ) (w := w) ((List.range (n * s)).map fun i => z.cells[i % z.cells.size]!)
                simpa [Function.comp_def] using this
              obtain ⟨cs', h1, h2, h3⟩ := fill_sound (P := P) (σ := σ) (w := w) (us := (Array.range (n * s)).map (z.cells[· % z.cells.size]!)) (parts_fst (ρ := ρ) (ρ' := ρ') ps) (parts_snd hρ ps) hi hcs
              have hlen : cs.length = n * s := by rw [h3]; simp
              have hone := RVl.ones hcl.2 h2
              have hr : RCl σ.L w cs cs'.toList := RVl.RCl hcl.1 hone h2
              have hul := RCl.length hr
              unfold zeroOf at hz
              obtain ⟨ie, hie, hz'⟩ := Option.bind_eq_some_iff.1 hz
              have hsz : ie.size = s := by unfold szOf at hs; rw [hie] at hs; simpa using hs
              have hby : n ≤ maxLen := by
                have : n * 1 ≤ n * s := Nat.mul_le_mul_left _ hc0
                simp only [maxLen]; omega
              obtain ⟨k1, k2, k3⟩ := fill_newrow (P := P) (w1 := w.alloc (.cells cs' e)) (n := n) g hid rfl rfl rfl (by show w.heap.push _ = _; simp) hs hc0 hr hlen hby
              refine ⟨.slice (some ⟨w.heap.size, 0, none⟩) n n, _, ?_, k1, k2, k3⟩
              by_cases hpos : n * s = 0
              · have hcs0 : cs' = #[] := by
                  apply Array.eq_empty_of_size_eq_zero
                  rw [← Array.length_toList, hul, hlen, hpos]
                have h1' := h1
                rw [hpos, show Array.range 0 = #[] from rfl, Array.map_empty] at h1'
                simp only [execOp]
                refine run_v (α := Unit) ?_
                subst hsz
                simp [Instr.buildSlice, run_underlying hu, sizeOf, typeInfo, zeroValue, hie, hz', hpos, newRow]
                rw [show Array.range 0 = #[] from rfl, Array.map_empty]
                simp only [Array.toList_map] at h1'
                simp [h1']
              · simp only [execOp]
                refine run_v (α := Unit) ?_
                subst hsz
                exact run_buildSlice (P := P) w t e n _ cs' ie z hu hie hz' (by omega) hpos h1
            · cases h
          · cases h
        · cases h
      · cases h
    · cases h
  | _ => simp [aobj] at h
end
end Go.M
