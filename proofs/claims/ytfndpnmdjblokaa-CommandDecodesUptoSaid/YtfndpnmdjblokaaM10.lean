/- The built-in append, len, min and max. -/
import Derived.Test.YtfndpnmdjblokaaM9
set_option linter.unusedVariables false
set_option linter.unusedSimpArgs false
namespace Go.M
open Go Go.RowKit
section
variable {P : Program} {σ σ' : Sg} {w w' w1 : World} {L L' : Nat → Lb}

/-- An append that makes a new array. -/
theorem append_grow {t t' ty e : TypeId} {d : TypeDesc} {i : TypeInfo} {z : Value} (ht : P.underlying t = some (.slice e)) (ht' : P.underlying t' = some d) (hd : (∃ e', d = .slice e') ∨ d = .string) (hi : P.info? e = some i) (hz : i.zero = some z)
    {A : Option Addr} {n c m : Nat} {x : Value} {olds vs : List Value} (hL : ∀ W : World, (Builtin.lenOf x).run P W = .ok m W) (hF : (Builtin.firstCells i.size m x).run P w.drew = .ok vs.toArray w.drew)
    (hO : (Builtin.firstCells i.size n (.slice A n c)).run P w.drew = .ok olds.toArray w.drew) (hg : c < n + m) (h63 : n + m ≤ 9223372036854775807) (hb : (n + m) * i.bytes ≤ 140737488355328) :
    (Builtin.append_ #[t, t'] ty #[.slice A n c, x]).run P w =
      .ok (.slice (some ⟨w.heap.size, 0, none⟩) (n + m) (grownCap w (n + m) c e)) (w.drew.alloc (.cells (olds ++ vs ++ (Builtin.zeroCells z.cells (grownCap w (n + m) c e - (n + m))).toList).toArray e)) := by
  have hn : ¬ (n + m ≤ c) := by omega
  have h63' : ¬ (9223372036854775807 < ((n : Int) + (m : Int))) := by omega
  have h48' : ¬ (281474976710656 < Builtin.nextslicecap (n + m) c * i.bytes) := by have := growslice_fits hg hb; omega
  rcases hd with ⟨e', rfl⟩ | rfl
  · simp [Builtin.append_, run_underlying ht, run_underlying ht', sizeOf, typeInfo, zeroValue, hi, hz, hL, hn, h63', h48', Question.forced, hF, hO, newRow, grownCap]
    congr 2
    apply Array.ext'
    simp [List.append_assoc]
  · simp [Builtin.append_, run_underlying ht, run_underlying ht', sizeOf, typeInfo, zeroValue, hi, hz, hL, hn, h63', h48', Question.forced, hF, hO, newRow, grownCap]
    congr 2
    apply Array.ext'
    simp [List.append_assoc]

/-- An append into the room that is there. -/
theorem append_room {t t' ty e : TypeId} {d : TypeDesc} {i : TypeInfo} (ht : P.underlying t = some (.slice e)) (ht' : P.underlying t' = some d) (hd : (∃ e', d = .slice e') ∨ d = .string) (hi : P.info? e = some i)
    {g n c m : Nat} {x : Value} {vs : List Value} {us : Array Value} (hL : ∀ W : World, (Builtin.lenOf x).run P W = .ok m W) (hF : (Builtin.firstCells i.size m x).run P w = .ok vs.toArray w)
    (hg : w.heap[g]? = some (.cells us e (0, 0))) (hroom : n + m ≤ c) (hfit : n * i.size + vs.length ≤ us.size) (h1 : ∀ u ∈ vs, u.oneCell' = true) :
    (Builtin.append_ #[t, t'] ty #[.slice (some ⟨g, 0, none⟩) n c, x]).run P w =
      .ok (.slice (some ⟨g, 0, none⟩) (n + m) c) (w.setRow g (us.toList.take (n * i.size) ++ vs ++ us.toList.drop (n * i.size + vs.length)).toArray) := by
  have hst := run_storeCells_at P g (n * i.size) e vs 0 us w hg (by simpa using hfit) h1
  simp only [Nat.add_zero] at hst
  rcases hd with ⟨e', rfl⟩ | rfl
  · simp [Builtin.append_, run_underlying ht, run_underlying ht', sizeOf, typeInfo, hi, hL, hroom, hF, Addr.add_lit, hst]
  · simp [Builtin.append_, run_underlying ht, run_underlying ht', sizeOf, typeInfo, hi, hL, hroom, hF, Addr.add_lit, hst]

/-- An append of nothing. -/
theorem append_none {t t' ty e : TypeId} {d : TypeDesc} {i : TypeInfo} (ht : P.underlying t = some (.slice e)) (ht' : P.underlying t' = some d) (hd : (∃ e', d = .slice e') ∨ d = .string) (hi : P.info? e = some i)
    {A : Option Addr} {n c : Nat} {x : Value} (hL : ∀ W : World, (Builtin.lenOf x).run P W = .ok 0 W) (hF : (Builtin.firstCells i.size 0 x).run P w = .ok #[] w) (hc : n ≤ c) :
    (Builtin.append_ #[t, t'] ty #[.slice A n c, x]).run P w = .ok (.slice A n c) w := by
  rcases hd with ⟨e', rfl⟩ | rfl
  · cases A <;> simp [Builtin.append_, run_underlying ht, run_underlying ht', sizeOf, typeInfo, hi, hL, hc, hF, storeCells]
  · cases A <;> simp [Builtin.append_, run_underlying ht, run_underlying ht', sizeOf, typeInfo, hi, hL, hc, hF, storeCells]

/-- What is appended. -/
theorem source_sound {e : TypeId} {x : V} {u : Value} {xs : List V} {n s : Nat} (hr : RV P σ w x u) (h : elems P σ.st e x = some (xs, n)) (hl : xs.length = n * s) :
    ∃ us, RCl σ.L w xs us ∧ (∀ W : World, (Builtin.lenOf u).run P W = .ok n W) ∧ (Builtin.firstCells s n u).run P w = .ok us.toArray w ∧ (Builtin.firstCells s n u).run P w.drew = .ok us.toArray w.drew := by
  by_cases hb : ∃ b, x = .sc (.string b)
  · obtain ⟨b, rfl⟩ := hb
    simp only [elems] at h
    cases h
    simp only [RV] at hr
    subst hr
    have hx : b.extract 0 b.size = b := by
      apply ByteArray.ext
      rw [ByteArray.data_extract]
      exact Array.extract_size
    refine ⟨b.data.toList.map (fun c => Value.int .u8 c.toNat), ?_, fun W => by simp [Builtin.lenOf], ?_, ?_⟩
    · generalize b.data.toList = l
      induction l with
      | nil => simp [RCl]
      | cons c l ih => simp only [List.map_cons, RCl]; exact ⟨_, _, rfl, rfl, rfl, ih⟩
    · simp [Builtin.firstCells, hx]
      rw [← Array.toList_map, Array.toArray_toList]
    · simp [Builtin.firstCells, hx]
      rw [← Array.toList_map, Array.toArray_toList]
  · obtain ⟨A, c, us, rfl, h1, h2, h3, h4⟩ := elems_sound hr h (fun b hb' => hb ⟨b, hb'⟩)
    have hlen := RCl.length h2
    refine ⟨us, h2, fun W => by simp [Builtin.lenOf], ?_, ?_⟩
    · cases A with
      | none =>
        obtain ⟨rfl, _, _⟩ := h4 rfl
        simp at hlen
        subst hlen
        exact run_firstCells_none w s n n c
      | some a => exact run_firstCells_some w s n a n c us (by omega) (h3 a rfl)
    · cases A with
      | none =>
        obtain ⟨rfl, _, _⟩ := h4 rfl
        simp at hlen
        subst hlen
        exact run_firstCells_none w.drew s n n c
      | some a => exact run_firstCells_some w.drew s n a n c us (by omega) (fun j u hj => h3 a rfl j u hj)
end
end Go.M
