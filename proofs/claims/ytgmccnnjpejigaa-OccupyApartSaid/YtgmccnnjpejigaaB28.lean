/- Lists of one's own that grow. -/
import Derived.Test.YtgmccnnjpejigaaB27
set_option linter.unusedVariables false
set_option linter.unusedSimpArgs false
set_option maxRecDepth 10000
namespace Go.Proofs.Ytgmccnnjpejigaa
open Go Go.M Go.RowKit
attribute [local congr] acallF_cong aloop_cong bcase_cong resK_cong valK_cong wantK_cong callK_cong xputK_cong qputK_cong resM_cong rfK_cong
attribute [local irreducible] seqK blockK loopK nextK bcase resK valK wantK funK putK dputK xputK qputK callK aops aop acode adraw aloop acallF acall invK resM rfK rfEnd rdEnd rdMid around
def rowOf : V → Option Nat
  | .sl id _ _ _ _ => some id
  | _ => none
/-- A list of one's own, whole: none, or a row. -/
def Gl (s : List Ob) (e : TypeId) (v : V) (xs : List V) (n : Nat) : Prop :=
  (v = .tsl [] 0 true true ∧ xs = [] ∧ n = 0) ∨ ∃ id lo, v = .sl id 0 n false n ∧ s[id]? = some (.row e xs n lo false) ∧ lo ≤ n
theorem Gl.of {s s' : List Ob} {e : TypeId} {v : V} {xs : List V} {n : Nat} (h : Gl s e v xs n) (k : ∀ j o, rowOf v = some j → s[j]? = some o → s'[j]? = some o) : Gl s' e v xs n := by
  rcases h with h | ⟨id, lo, rfl, h1, h2⟩
  · exact .inl h
  · exact .inr ⟨id, lo, rfl, k _ _ rfl h1, h2⟩
theorem Gl.grw {s s' : List Ob} {e : TypeId} {v : V} {xs : List V} {n : Nat} (h : Gl s e v xs n) (k : Grw s s') : Gl s' e v xs n := h.of fun j o _ => k j o
theorem Gl.rd {P : Program} {s : List Ob} {e : TypeId} {v : V} {xs : List V} {n sz : Nat} (h : Gl s e v xs n) (hs : szOf P e = some sz) (hl : xs.length = n * sz) : Rd P s e v xs n := by
  rcases h with ⟨rfl, rfl, rfl⟩ | ⟨id, lo, rfl, h1, h2⟩
  · exact ⟨rfl, ⟨fun b hb => (by cases hb), fun _ => rfl⟩, fun s' hs' => by simp⟩
  · refine ⟨?_, ⟨fun b hb => (by cases hb), fun hh => by cases hh⟩, fun s' hs' => by rw [hs] at hs'; cases hs'; exact hl⟩
    simp only [elems, h1, hs]
    rw [if_pos ⟨trivial, h2, by omega⟩, Nat.zero_mul, List.drop_zero, ← hl, List.take_length]
theorem Gl.cut {P : Program} {s : List Ob} {e : TypeId} {v : V} {xs : List V} {n sz : Nat} (h : Gl s e v xs n) (hs : szOf P e = some sz) (hl : xs.length = n * sz) : Cut P s e v xs n := by
  refine ⟨h.rd hs hl, ?_, ?_⟩
  · rcases h with ⟨rfl, rfl, rfl⟩ | ⟨id, lo, rfl, h1, h2⟩
    · exact .inl ⟨_, _, _, _, rfl⟩
    · exact .inr ⟨_, _, _, _, rfl⟩
  · rcases h with ⟨rfl, rfl, rfl⟩ | ⟨id, lo, rfl, h1, h2⟩
    · exact fun _ => rfl
    · exact fun h => by cases h
theorem Gl.one {s : List Ob} {e : TypeId} {v : V} {xs : List V} {n : Nat} (h : Gl s e v xs n) : M.one v = true ∧ cellsV v = [v] := by
  rcases h with ⟨rfl, rfl, rfl⟩ | ⟨id, lo, rfl, h1, h2⟩ <;> exact ⟨rfl, rfl⟩
/-- One's own row has turned, nothing else. -/
def Tr (v : V) (s s' : List Ob) : Prop := s.length ≤ s'.length ∧ ∀ j o, rowOf v ≠ some j → s[j]? = some o → s'[j]? = some o
theorem gl_app {P : Program} {s : List Ob} {e t : TypeId} {v x : V} {xs zs : List V} {n k : Nat} (h : Gl s e v xs n) (ht : P.underlying t = some (.slice e)) {sz by_ : Nat} {z : Value} (hs : szOf P e = some sz) (hb : bytesOf P e = some by_) (hz : zeroOf P e = some z) (h0 : 0 < sz) (hzs : z.cells.size = sz)
    (hl0 : xs.length = n * sz) (hx : elems P s e x = some (zs, k)) (hc : closedL zs = true) (hl : zs.length = k * sz) (h1 : (n + k) * by_ ≤ 140737488355328) (h2 : n + k ≤ 9223372036854775807) :
    ∃ v' s', aappend P s t v x = some (v', s') ∧ Gl s' e v' (xs ++ zs) (n + k) ∧ Tr v s s' ∧ (∀ j, rowOf v' = some j → rowOf v = some j ∨ s.length ≤ j) := by
  rcases h with ⟨rfl, rfl, rfl⟩ | ⟨id, lo, rfl, e1, e2⟩
  · have hr : Rd P s e (.tsl [] 0 true true) [] 0 := ⟨rfl, ⟨fun b hb => (by cases hb), fun _ => rfl⟩, fun s' hs' => by simp⟩
    by_cases hk : k = 0
    · subst hk
      have : zs = [] := by simpa using hl
      subst this
      exact ⟨_, _, append_full0 hr rfl ht hs hb hz h0 hzs hx (by omega) (by omega), .inl ⟨rfl, rfl, rfl⟩, ⟨Nat.le_refl _, fun j o _ h => h⟩, fun j h => .inl h⟩
    · refine ⟨_, _, append_full hr rfl ht hs hb hz h0 hzs hx hc hl h1 h2 (by omega), .inr ⟨_, 0, rfl, get_new0 _ _, Nat.zero_le _⟩, ⟨by simp, fun j o _ h => Grw.push s _ _ _ h⟩, fun j h => .inr ?_⟩
      simp only [rowOf, Option.some.injEq] at h
      omega
  · have hlt := (List.getElem?_eq_some_iff.1 e1).1
    refine ⟨_, _, append_own e1 e2 ht hs hb hz h0 hzs hx hc hl h1 h2, .inr ⟨id, lo, rfl, get_set e1 _, by omega⟩, ⟨by rw [List.length_set]; exact Nat.le_refl _, fun j o hj h => ?_⟩, fun j h => .inl h⟩
    rw [List.getElem?_set_ne (fun he => hj (by rw [he]; rfl))]
    exact h
theorem Gl.ncells {s : List Ob} {e : TypeId} {v : V} {xs cs : List V} {n j : Nat} (h : Gl s e v xs n) (hj : s[j]? = some (.cells cs)) : rowOf v ≠ some j := by
  rcases h with ⟨rfl, rfl, rfl⟩ | ⟨id, lo, rfl, h1, h2⟩
  · intro h; cases h
  · intro h
    simp only [rowOf, Option.some.injEq] at h
    subst h
    rw [h1] at hj; cases hj
theorem Gl.nmap {s : List Ob} {e : TypeId} {v : V} {xs : List V} {es : List (Value × V)} {n j : Nat} (h : Gl s e v xs n) (hj : s[j]? = some (.map es)) : rowOf v ≠ some j := by
  rcases h with ⟨rfl, rfl, rfl⟩ | ⟨id, lo, rfl, h1, h2⟩
  · intro h; cases h
  · intro h
    simp only [rowOf, Option.some.injEq] at h
    subst h
    rw [h1] at hj; cases hj
theorem Gl.lt {s : List Ob} {e : TypeId} {v : V} {xs : List V} {n : Nat} (h : Gl s e v xs n) : ∀ j, rowOf v = some j → j < s.length := by
  intro j hj
  rcases h with ⟨rfl, _, _⟩ | ⟨id, lo, rfl, h1, _⟩
  · cases hj
  · simp only [rowOf, Option.some.injEq] at hj
    have := (List.getElem?_eq_some_iff.1 h1).1
    omega
theorem aputs_two {n p q : Nat} {f : Nat → V} {v w : V} (h : p < n) (h2 : q < n) : aputs (ofF n f) [p, q] [v, w] = ofF n (fu (fu f p v) q w) := by
  show aput (aput (ofF n f) (some p) v) (some q) w = _
  rw [aput_ofF h, aput_ofF h2]
end Go.Proofs.Ytgmccnnjpejigaa
