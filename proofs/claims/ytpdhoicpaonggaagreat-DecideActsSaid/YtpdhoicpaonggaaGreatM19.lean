/- Frames as functions: what a temporary holds is looked up among the last turns, not along a list. -/
import Derived.Test.YtpdhoicpaonggaaGreatM18
import Derived.IntWalk
set_option linter.unusedVariables false
set_option linter.unusedSimpArgs false
namespace Go.M
open Go Go.RowKit
def fu (f : Nat → V) (d : Nat) (v : V) : Nat → V := fun i => if i = d then v else f i
def ofF (n : Nat) (f : Nat → V) : List V := (List.range n).map f
def argF : List V → Nat → V
  | [], _ => .sc undef
  | a :: _, 0 => a
  | _ :: l, i + 1 => argF l i
theorem fu_eq (f : Nat → V) (d : Nat) (v : V) : fu f d v d = v := by simp [fu]
theorem fu_ne {f : Nat → V} {d i : Nat} {v : V} (h : i ≠ d) : fu f d v i = f i := by simp [fu, h]
theorem argF_zero (a : V) (l : List V) : argF (a :: l) 0 = a := id rfl
theorem argF_succ (a : V) (l : List V) (i : Nat) : argF (a :: l) (i + 1) = argF l i := id rfl
theorem argF_nil (i : Nat) : argF [] i = .sc undef := id rfl
theorem ofF_len (n : Nat) (f : Nat → V) : (ofF n f).length = n := by simp [ofF]
theorem ofF_getD {n i : Nat} {f : Nat → V} (h : i < n) : (ofF n f).getD i .dead = f i := by
  simp [ofF, List.getD, List.getElem?_map, List.getElem?_range, h]
theorem aput_ofF {n d : Nat} {f : Nat → V} {v : V} (h : d < n) : aput (ofF n f) (some d) v = ofF n (fu f d v) := by
  simp only [aput]
  apply List.ext_getElem?
  intro i
  rw [List.getElem?_set]
  simp only [ofF, List.length_map, List.length_range, List.getElem?_map]
  by_cases hi : i < n
  · rw [List.getElem?_range hi]
    by_cases hd : d = i
    · subst hd; simp [fu, hi]
    · rw [if_neg hd]; simp [fu, Ne.symm hd]
  · rw [List.getElem?_eq_none (by simpa using hi)]
    simp
    intro e
    omega
theorem aput_none (t : List V) (v : V) : aput t none v = t := id rfl
theorem init_ofF {N : Nat} {args : List V} (h : args.length ≤ N) : args ++ List.replicate (N - args.length) (.sc undef) = ofF N (argF args) := by
  apply List.ext_getElem?
  intro i
  have key : ∀ (l : List V) (i : Nat), argF l i = (l[i]?).getD (.sc undef) := by
    intro l
    induction l with
    | nil => intro i; simp [argF]
    | cons a l ih =>
      intro i
      cases i with
      | zero => simp [argF]
      | succ i => simp [argF, ih]
  simp only [ofF, List.getElem?_map]
  by_cases hi : i < N
  · rw [List.getElem?_range hi, Option.map_some, key]
    by_cases ha : i < args.length
    · rw [List.getElem?_append_left ha, List.getElem?_eq_getElem ha]; rfl
    · rw [List.getElem?_append_right (by omega), List.getElem?_replicate, if_pos (by omega), List.getElem?_eq_none (by omega)]; rfl
  · rw [List.getElem?_append_right (by omega), List.getElem?_replicate, if_neg (by omega), List.getElem?_eq_none (by simpa using hi)]; rfl
theorem acallF_inF {P : Program} {pl : Plans} {n m f N : Nat} {fn : Func} {c : Code} (hf : P.funcs[f]? = some fn) (hp : prim pl f = none) (hb : fn.body = some c) (hn : fn.ntmps = N) {args : List V} {st : List Ob} {K : V → List Ob → Prop} (ha : args.length ≤ N)
    (h : acode P (acallF P pl n m) m (pl f) c (funK P fn K) (ofF N (argF args)) st) : acallF P pl (n + 1) m f args st K := by
  refine acallF_of hf hp hb ?_
  rw [hn, init_ofF ha]
  exact h
theorem acallF_prim {P : Program} {pl : Plans} {n m f : Nat} {fn : Func} {g : List Nat} {e : Nat} (hf : P.funcs[f]? = some fn) (hp : prim pl f = some (g, e)) {args : List V} {st st' : List Ob} {v : V} {K : V → List Ob → Prop} (hs : sortedK g e args st = some (v, st')) (hK : K v st') : acallF P pl (n + 1) m f args st K := by
  simp only [acallF, hf, hp, hs]; exact .inr hK
theorem wi64 {n : Int} (h1 : -9223372036854775808 ≤ n) (h2 : n < 9223372036854775808) : IntKind.i64.wrap n = n := IntWalk.i64_in _ (by omega)
theorem aloop_forF {P : Program} {pl : Plans} {pf : Nat → Option (List PI)} {n m k N : Nat} {b : Code} {K : ExK} {f : Nat → V} {st : List Ob} (I : Nat → (Nat → V) → List Ob → Prop) (h0 : I k f st)
    (step : ∀ I' : Nat → List V → List Ob → Prop, (∀ k f s, I k f s → I' k (ofF N f) s) → ∀ k f st, I k f st → ∃ j, k = j + 1 ∧ acode P (acallF P pl n m) m pf b (invK (I' j) K) (ofF N f) st) : aloop (acode P (acallF P pl n m) m pf b) k K (ofF N f) st := by
  refine aloop_for (fun k t s => ∃ f, t = ofF N f ∧ I k f s) ⟨f, rfl, h0⟩ ?_
  rintro I' hI' k t s ⟨f, rfl, h⟩
  exact step I' (fun k f s h => hI' _ _ _ ⟨f, rfl, h⟩) k f s h
end Go.M
