/- A law's arguments: how they are read, as values of the plain machine; the call's end. -/
import Derived.Test.YtpdhoicpaonggaaGreatM15
import Derived.Test.YtpdhoicpaonggaaGreatRows
import Derived.ProofKit
import Derived.OpenShut
import Derived.ShutString
import Derived.ChangeOld
import Derived.Below
import Derived.Carry
import Derived.SizedLaws
import Derived.JoinedCond
import Derived.Deep.CondSized
set_option linter.unusedVariables false
set_option linter.unusedSimpArgs false
namespace Go.M
open Go Go.RowKit Go.ChangeShapes Go.WideShapes Go.ChangeAt
open Go.Proofs.YtpdhoicpaonggaaGreat (Rows.uptoBulk Rows.uptoBulkAll)

def TVn (T : List V → Prop) : Nat → List V → Prop
  | 0, xs => xs = []
  | n + 1, xs => ∃ ys zs, xs = ys ++ zs ∧ T ys ∧ TVn T n zs
def TVs (T : TypeId → List V → Prop) : List TypeId → List V → Prop
  | [], xs => xs = []
  | t :: ts, xs => ∃ ys zs, xs = ys ++ zs ∧ T t ys ∧ TVs T ts zs

def TV (P : Program) : Nat → TypeId → List V → Prop
  | 0, _, _ => False
  | k + 1, t, xs => match P.underlying t with
    | some .bool => ∃ b, xs = [.sc (.bool b)]
    | some (.int i) => ∃ n, xs = [.sc (.int i n)] ∧ (Lit.int i n).wf = true
    | some .string => ∃ s : ByteArray, xs = [.sc (.string s)] ∧ s.size ≤ reachBytes
    | some (.slice e) => ∃ ys n nil full, xs = [.tsl ys n nil full] ∧ TVn (TV P k e) n ys ∧ n * P.bytesOf e ≤ reachBytes ∧ (nil = true → n = 0 ∧ full = true)
    | some (.struct fs) => TVs (TV P k) (fs.toList.map (·.type)) xs
    | some (.array n e) => TVn (TV P k e) n xs
    | _ => False

def offs (P : Program) : Nat → List Field → Option Nat
  | o, [] => some o
  | o, f :: fs => if f.offset = o then offs P (o + P.cellsOf f.type) fs else none

def plainT (P : Program) : Nat → TypeId → Bool
  | 0, _ => false
  | k + 1, t => match P.underlying t with
    | some .bool => true
    | some (.int _) => true
    | some .string => true
    | some (.slice e) => plainT P k e
    | some (.struct fs) => offs P 0 fs.toList == some (P.cellsOf t) && fs.toList.all fun f => plainT P k f.type
    | some (.array n e) => P.cellsOf t == n * P.cellsOf e && plainT P k e
    | _ => false

mutual
def bulkV : V → Nat
  | .sc (.string b) => b.size + 1
  | .sc _ => 1
  | .tsl xs _ _ _ => bulkVl xs + 1
  | .agg xs => bulkVl xs
  | _ => 0
def bulkVl : List V → Nat
  | [] => 0
  | x :: xs => bulkV x + bulkVl xs
end
theorem bulkVl_append : ∀ (xs ys : List V), bulkVl (xs ++ ys) = bulkVl xs + bulkVl ys
  | [], ys => by simp [bulkVl]
  | x :: xs, ys => by simp only [List.cons_append, bulkVl, bulkVl_append xs ys]; omega

section
variable {P : Program} {W : World} {H : Type} {enc : TypeId × Value → H}

theorem CA.app {w : World} {a : Addr} {us vs : List Value} (h : CA w a us) (k : CA w (a.add us.length) vs) : CA w a (us ++ vs) := fun j u hj => by
  by_cases hl : j < us.length
  · rw [List.getElem?_append_left hl] at hj; exact h j u hj
  · rw [List.getElem?_append_right (by omega)] at hj
    have := k _ _ hj
    rw [add_add, show us.length + (j - us.length) = j by omega] at this
    exact this
theorem CA.cells {w : World} {b : Nat} {a : Addr} {n : Nat} {cs : List Value} (h : w.cells? b a n = some cs) : CA w a cs ∧ cs.length = n := by
  unfold World.cells? at h
  split at h
  · refine ⟨fun j u hj => ?_, by simpa using mapM_some_length h⟩
    have hl := mapM_some_length h
    rw [List.length_range] at hl
    have := mapM_some_get h j j (by have := (List.getElem?_eq_some_iff.1 hj).1; rw [List.getElem?_range (by omega)])
    rw [this, hj]
  · cases h
theorem CA.lt {w : World} {a : Addr} {us : List Value} (h : CA w a us) (hn : us ≠ []) : a.block < w.heap.size := by
  cases us with
  | nil => exact absurd rfl hn
  | cons u us =>
    have := h 0 u rfl
    unfold World.cell? at this
    rw [show (a.add 0).block = a.block from add_block a 0] at this
    cases hb : w.heap[a.block]? with
    | none => rw [hb] at this; cases this
    | some o => exact (Array.getElem?_eq_some_iff.1 hb).1

theorem bulkAll_part (l : List (DataW H)) (i : Nat) (x : DataW H) (h : l[i]? = some x) : Rows.uptoBulkAll (l.drop i) = Rows.uptoBulk x + Rows.uptoBulkAll (l.drop (i + 1)) := by
  rw [List.drop_eq_getElem_cons (List.getElem?_eq_some_iff.1 h).1]
  simp only [Rows.uptoBulkAll]
  rw [(List.getElem?_eq_some_iff.1 h).2]
theorem weightsAll_mem {e : TypeId} {n : Nat} : ∀ {l : List (DataW H)} {x : DataW H}, x ∈ l → n ∈ x.weights P e → n ∈ DataW.weightsAll P e l
  | y :: l, x, hx, hn => by
    simp only [DataW.weightsAll, List.mem_append]
    rcases List.mem_cons.1 hx with rfl | hx
    · exact .inl hn
    · exact .inr (weightsAll_mem hx hn)

theorem elems_TV {T : List V → Prop} {S : Nat} {len : Nat} {ds : List (DataW H)} (hlen : ds.length = len) {a : Addr}
    (h : ∀ i, i < len → ∃ xs cs, CA W (a.add (i * S)) cs ∧ cs.length = S ∧ T xs ∧ RCl (Sg.start W).L W xs cs ∧ ∀ d, ds[i]? = some d → bulkVl xs ≤ Rows.uptoBulk d) :
    ∀ m, m ≤ len → ∃ ys us, TVn T m ys ∧ RCl (Sg.start W).L W ys us ∧ us.length = m * S ∧ CA W (a.add ((len - m) * S)) us ∧ bulkVl ys ≤ Rows.uptoBulkAll (ds.drop (len - m))
  | 0, _ => ⟨[], [], rfl, rfl, by simp, fun j u hj => by simp at hj, by simp [bulkVl]⟩
  | m + 1, hm => by
    obtain ⟨ys, us, h1, h2, h3, h4, h5⟩ := elems_TV hlen h m (by omega)
    obtain ⟨xs, cs, k1, k2, k3, k4, k5⟩ := h (len - (m + 1)) (by omega)
    refine ⟨xs ++ ys, cs ++ us, ⟨xs, ys, rfl, k3, h1⟩, k4.app h2, by rw [List.length_append, h3, k2, Nat.succ_mul]; omega, k1.app ?_, ?_⟩
    · rw [add_add, k2, show (len - (m + 1)) * S + S = (len - m) * S by rw [show len - m = len - (m + 1) + 1 by omega, Nat.succ_mul]]
      exact h4
    · obtain ⟨d, hd⟩ : ∃ d, ds[len - (m + 1)]? = some d := ⟨_, List.getElem?_eq_getElem (by omega)⟩
      rw [bulkVl_append, bulkAll_part ds _ d hd, show len - (m + 1) + 1 = len - m by omega]
      have := k5 d hd
      omega

theorem arr_TV {T : List V → Prop} {S : Nat} {len : Nat} {cs : List Value} (hcs : cs.length = len * S) {ds : List (DataW H)} (hlen : ds.length = len)
    (h : ∀ i, i < len → ∃ xs, T xs ∧ RCl (Sg.start W).L W xs ((cs.drop (i * S)).take S) ∧ ∀ d, ds[i]? = some d → bulkVl xs ≤ Rows.uptoBulk d) :
    ∀ m, m ≤ len → ∃ ys, TVn T m ys ∧ RCl (Sg.start W).L W ys (cs.drop ((len - m) * S)) ∧ bulkVl ys ≤ Rows.uptoBulkAll (ds.drop (len - m))
  | 0, _ => ⟨[], rfl, by simp only [RCl]; rw [Nat.sub_zero, ← hcs, List.drop_length], by simp [bulkVl]⟩
  | m + 1, hm => by
    obtain ⟨ys, h1, h2, h5⟩ := arr_TV hcs hlen h m (by omega)
    obtain ⟨xs, k3, k4, k5⟩ := h (len - (m + 1)) (by omega)
    refine ⟨xs ++ ys, ⟨xs, ys, rfl, k3, h1⟩, ?_, ?_⟩
    · have e : cs.drop ((len - (m + 1)) * S) = (cs.drop ((len - (m + 1)) * S)).take S ++ cs.drop ((len - m) * S) := by
        rw [show (len - m) * S = (len - (m + 1)) * S + S by rw [show len - m = len - (m + 1) + 1 by omega, Nat.succ_mul], ← List.drop_drop, List.take_append_drop]
      rw [e]
      exact k4.app h2
    · obtain ⟨d, hd⟩ : ∃ d, ds[len - (m + 1)]? = some d := ⟨_, List.getElem?_eq_getElem (by omega)⟩
      rw [bulkVl_append, bulkAll_part ds _ d hd, show len - (m + 1) + 1 = len - m by omega]
      have := k5 d hd
      omega

theorem fields_TV {T : TypeId → List V → Prop} {cs : List Value} : ∀ {fs : List Field} {o : Nat} {ds : List (DataW H)}, offs P o fs = some cs.length → ds.length = fs.length →
    (∀ (i : Nat) (f : Field), fs[i]? = some f → ∃ xs, T f.type xs ∧ RCl (Sg.start W).L W xs ((cs.drop f.offset).take (P.cellsOf f.type)) ∧ ∀ d, ds[i]? = some d → bulkVl xs ≤ Rows.uptoBulk d) →
    ∃ ys, TVs T (fs.map (·.type)) ys ∧ RCl (Sg.start W).L W ys (cs.drop o) ∧ bulkVl ys ≤ Rows.uptoBulkAll ds
  | [], o, ds, ho, hl, h => by
    simp only [offs, Option.some.injEq] at ho
    exact ⟨[], rfl, by simp only [RCl]; rw [ho, List.drop_length], by simp [bulkVl]⟩
  | f :: fs, o, [], ho, hl, h => by simp at hl
  | f :: fs, o, d :: ds, ho, hl, h => by
    simp only [offs] at ho
    split at ho
    · rename_i hf
      obtain ⟨ys, h1, h2, h3⟩ := fields_TV (ds := ds) ho (by simpa using hl) fun i f hf => h (i + 1) f (by simpa using hf)
      obtain ⟨xs, k1, k2, k3⟩ := h 0 f rfl
      refine ⟨xs ++ ys, ⟨xs, ys, rfl, k1, h1⟩, ?_, ?_⟩
      · rw [hf] at k2
        have e : cs.drop o = (cs.drop o).take (P.cellsOf f.type) ++ cs.drop (o + P.cellsOf f.type) := by rw [← List.drop_drop, List.take_append_drop]
        rw [e]
        exact k2.app h2
      · rw [bulkVl_append]
        simp only [Rows.uptoBulkAll]
        have := k3 d rfl
        omega
    · cases ho

theorem weightsEach_mem' {n : Nat} : ∀ {ts : List TypeId} {l : List (DataW H)} {i : Nat} {t : TypeId} {x : DataW H}, ts[i]? = some t → l[i]? = some x → n ∈ x.weights P t → n ∈ DataW.weightsEach P ts l
  | [], _, i, t, x, ht, _, _ => by simp at ht
  | _ :: _, [], i, t, x, _, hx, _ => by simp at hx
  | t' :: ts, y :: l, 0, t, x, ht, hx, hn => by
    simp at ht hx; subst ht hx
    simp only [DataW.weightsEach, List.mem_append]
    exact .inl hn
  | t' :: ts, y :: l, i + 1, t, x, ht, hx, hn => by
    simp only [DataW.weightsEach, List.mem_append]
    exact .inr (weightsEach_mem' (i := i) (by simpa using ht) (by simpa using hx) hn)

theorem trod_TV : ∀ (k : Nat) (t : TypeId) (fuel : Nat) (cs : List Value) (x : DataW H × List MemPlace), plainT P k t = true → DataW.trod enc P W 0 (fun _ => true) true fuel t cs = some x →
    (∀ n ∈ x.1.weights P t, n ≤ reachBytes) → ∃ xs, TV P k t xs ∧ RCl (Sg.start W).L W xs cs ∧ bulkVl xs ≤ Rows.uptoBulk x.1
  | 0, t, fuel, cs, x, hp, h, hw => by simp [plainT] at hp
  | k + 1, t, fuel, cs, x, hp, h, hw => by
    unfold plainT at hp
    unfold TV
    split at hp
    · rename_i hu
      obtain ⟨b, rfl, rfl⟩ := DataW.trod_bool hu h
      refine ⟨_, ⟨b, rfl⟩, ⟨_, _, rfl, rfl, rfl, rfl⟩, by simp [bulkVl, bulkV, Rows.uptoBulk]⟩
    · rename_i i hu
      obtain ⟨n, rfl, rfl, hn⟩ := DataW.trod_int hu h
      refine ⟨_, ⟨n, rfl, hn⟩, ⟨_, _, rfl, rfl, rfl, rfl⟩, by simp [bulkVl, bulkV, Rows.uptoBulk]⟩
    · rename_i hu
      obtain ⟨s, rfl, rfl, hs⟩ := DataW.trod_string hu h
      refine ⟨_, ⟨s, rfl, ?_⟩, ⟨_, _, rfl, rfl, rfl, rfl⟩, by simp [bulkVl, bulkV, Rows.uptoBulk]⟩
      have := hw s.data.toList.length (by simp [DataW.weights])
      simpa using this
    · rename_i e hu
      rcases DataW.trod_slice hu h with ⟨rfl, rfl⟩ | ⟨a, len, cap, es, rest, n, rfl, rfl, rfl, _, hl, hm, hlen, hel, _, _⟩
      · refine ⟨_, ⟨[], 0, true, true, rfl, rfl, by simp [reachBytes], fun _ => ⟨rfl, rfl⟩⟩, ⟨_, _, rfl, rfl, ?_, rfl⟩, by simp [bulkVl, bulkV, Rows.uptoBulk]⟩
        exact ⟨none, 0, [], rfl, Nat.le_refl _, by simp [maxLen], fun _ => rfl, fun _ => ⟨rfl, rfl, rfl⟩, fun h => (by cases h), rfl, fun a ha => (by cases ha)⟩
      · have hds : (es.map (·.1)).length = len := by simpa using hlen
        obtain ⟨ys, us, h1, h2, h3, h4, h5⟩ := elems_TV (W := W) (T := TV P k e) (S := P.cellsOf e) (a := a) hds (fun i hi => by
          obtain ⟨y, hy⟩ : ∃ y, es[i]? = some y := ⟨_, List.getElem?_eq_getElem (by omega)⟩
          have := hel i hi
          rw [hy, Option.bind_eq_some_iff] at this
          obtain ⟨ci, hc, ht⟩ := this
          obtain ⟨k1, k2⟩ := CA.cells hc
          obtain ⟨xs, k3, k4, k5⟩ := trod_TV k e n ci y hp ht (fun m hm' => hw m (by
            simp only [DataW.weights, hu, List.mem_cons, List.mem_append]
            exact .inr (.inl (weightsAll_mem (List.mem_map.2 ⟨y, List.mem_of_getElem? hy, rfl⟩) hm'))))
          exact ⟨xs, ci, k1, k2, k3, k4, fun d hd => by simp [hy] at hd; subst hd; exact k5⟩) len (Nat.le_refl _)
        rw [Nat.sub_self] at h4 h5
        rw [Nat.zero_mul] at h4
        have h4' : CA W a us := fun j u hj => by have := h4 j u hj; rw [add_add, Nat.zero_add] at this; exact this
        refine ⟨_, ⟨ys, len, false, false, rfl, h1, ?_, fun h => (by cases h)⟩, ⟨_, _, rfl, rfl, ?_, rfl⟩, ?_⟩
        · have := hw _ (by simp only [DataW.weights, hu]; exact List.mem_cons_self ..)
          rw [List.length_map, hlen] at this
          exact Nat.le_trans (Nat.mul_le_mul_right _ (Nat.le_add_right _ _)) this
        · exact ⟨some a, cap, us, rfl, hl, hm, fun h => (by cases h), fun h => (by cases h), fun _ => (by simp), h2, fun b hb => by
            cases hb
            exact ⟨h4', fun hn => by simp only [Sg.start]; rw [if_pos (h4'.lt hn)]⟩⟩
        · simp only [bulkVl, bulkV, Rows.uptoBulk]
          simp only [List.drop_zero] at h5
          omega
    · rename_i fs hu
      simp only [Bool.and_eq_true, beq_iff_eq, List.all_eq_true] at hp
      obtain ⟨hp1, hp2⟩ := hp
      obtain ⟨zs, n, rfl, rfl, hl, hz, hf⟩ := DataW.trod_struct hu h
      obtain ⟨ys, h1, h2, h3⟩ := fields_TV (W := W) (P := P) (T := TV P k) (cs := cs) (fs := fs.toList) (o := 0) (ds := zs.map (·.1)) (by rw [hp1, hl]) (by simpa using hz) (fun i f hfi => by
        have hfi' : fs[i]? = some f := by simpa using hfi
        obtain ⟨y, hy⟩ : ∃ y, zs[i]? = some y := ⟨_, List.getElem?_eq_getElem (by have := (Array.getElem?_eq_some_iff.1 hfi').1; omega)⟩
        have ht := hf i f hfi'
        rw [hy] at ht
        obtain ⟨xs, k3, k4, k5⟩ := trod_TV k f.type n _ y (hp2 f (List.mem_of_getElem? hfi)) ht (fun m hm' => hw m (by
            simp only [DataW.weights, hu]
            exact weightsEach_mem' (i := i) (t := f.type) (x := y.1) (by rw [List.getElem?_map, hfi]; rfl) (by rw [List.getElem?_map, hy]; rfl) hm'))
        exact ⟨xs, k3, k4, fun d hd => by simp [hy] at hd; subst hd; exact k5⟩)
      exact ⟨ys, h1, by simpa using h2, by simp only [Rows.uptoBulk]; omega⟩
    · rename_i n e hu
      simp only [Bool.and_eq_true, beq_iff_eq] at hp
      obtain ⟨hp1, hp2⟩ := hp
      cases fuel with
      | zero => simp [DataW.trod] at h
      | succ fuel =>
        unfold DataW.trod at h
        rw [hu] at h
        simp only at h
        split at h
        · rename_i hcs
          obtain ⟨zs, hz, rfl⟩ := Option.map_eq_some_iff.1 h
          have hzl := mapM_some_length hz
          rw [List.length_range] at hzl
          obtain ⟨ys, h1, h2, h3⟩ := arr_TV (W := W) (T := TV P k e) (S := P.cellsOf e) (len := n) (cs := cs) (by rw [hcs, hp1]) (ds := zs.map (·.1)) (by simpa using hzl) (fun i hi => by
            obtain ⟨y, hy⟩ : ∃ y, zs[i]? = some y := ⟨_, List.getElem?_eq_getElem (by omega)⟩
            have ht := mapM_some_get hz i i (by simp [hi])
            rw [hy] at ht
            obtain ⟨xs, k3, k4, k5⟩ := trod_TV k e fuel _ y hp2 ht (fun m hm' => hw m (by
              simp only [DataW.weights, hu]
              exact weightsAll_mem (List.mem_map.2 ⟨y, List.mem_of_getElem? hy, rfl⟩) hm'))
            exact ⟨xs, k3, k4, fun d hd => by simp [hy] at hd; subst hd; exact k5⟩) n (Nat.le_refl _)
          simp only [Nat.sub_self, Nat.zero_mul, List.drop_zero] at h2 h3
          exact ⟨ys, h1, h2, by simp only [Rows.uptoBulk]; omega⟩
        · cases h
    · cases hp

theorem tv_int {k : Nat} {t : TypeId} {i : IntKind} {xs : List V} (h : TV P k t xs) (hu : P.underlying t = some (.int i)) : ∃ n, xs = [.sc (.int i n)] ∧ (Lit.int i n).wf = true := by
  cases k with
  | zero => exact h.elim
  | succ k => unfold TV at h; rw [hu] at h; exact h
theorem tv_bool {k : Nat} {t : TypeId} {xs : List V} (h : TV P k t xs) (hu : P.underlying t = some .bool) : ∃ b, xs = [.sc (.bool b)] := by
  cases k with
  | zero => exact h.elim
  | succ k => unfold TV at h; rw [hu] at h; exact h
theorem tv_slice {k : Nat} {t e : TypeId} {xs : List V} (h : TV P (k + 1) t xs) (hu : P.underlying t = some (.slice e)) : ∃ ys n nil full, xs = [.tsl ys n nil full] ∧ TVn (TV P k e) n ys ∧ n * P.bytesOf e ≤ reachBytes ∧ (nil = true → n = 0 ∧ full = true) := by
  unfold TV at h; rw [hu] at h; exact h
theorem tv_struct {k : Nat} {t : TypeId} {fs : Array Field} {xs : List V} (h : TV P (k + 1) t xs) (hu : P.underlying t = some (.struct fs)) : TVs (TV P k) (fs.toList.map (·.type)) xs := by
  unfold TV at h; rw [hu] at h; exact h
theorem tv_array {k : Nat} {t e : TypeId} {n : Nat} {xs : List V} (h : TV P (k + 1) t xs) (hu : P.underlying t = some (.array n e)) : TVn (TV P k e) n xs := by
  unfold TV at h; rw [hu] at h; exact h

def argOf (P : Program) (t : TypeId) (xs : List V) : V := match P.underlying t with
  | some (.struct _) => .agg xs
  | some (.array ..) => .agg xs
  | _ => xs.headD .dead
def TA (P : Program) : List TypeId → List V → Prop
  | [], vs => vs = []
  | t :: ts, vs => ∃ xs vs', vs = argOf P t xs :: vs' ∧ TV P 16 t xs ∧ TA P ts vs'

theorem arg_TV {t : TypeId} {v : Value} {d : DataW H} {ps : List MemPlace} {r : Reach} {base : Nat} (hp : plainT P 16 t = true) (hv : Value.okWide P W r base t v) (h : DataW.Trod enc P W 0 (fun _ => true) true t v d ps)
    (hw : ∀ n ∈ d.weights P t, n ≤ reachBytes) : ∃ xs, TV P 16 t xs ∧ RV P (Sg.start W) W (argOf P t xs) v ∧ bulkV (argOf P t xs) ≤ Rows.uptoBulk d := by
  obtain ⟨fuel, hf⟩ := h
  obtain ⟨xs, h1, h2, h3⟩ := trod_TV 16 t fuel _ (d, ps) hp hf hw
  refine ⟨xs, h1, ?_⟩
  have one : ∀ x u, xs = [x] → v.cells.toList = [u] → v = u → RV P (Sg.start W) W (xs.headD .dead) v ∧ bulkV (xs.headD .dead) ≤ Rows.uptoBulk d := by
    rintro x u rfl hc rfl
    rw [hc] at h2
    obtain ⟨u', us', he, _, hx, _⟩ := h2
    cases he
    exact ⟨hx.RV, by simpa [bulkVl] using h3⟩
  unfold plainT at hp
  unfold TV at h1
  unfold argOf
  split at hp
  · rename_i hu
    rw [hu] at h1 ⊢
    obtain ⟨b, rfl⟩ := h1
    obtain ⟨b', rfl⟩ := okWide_bool hu hv
    exact one _ _ rfl rfl rfl
  · rename_i i hu
    rw [hu] at h1 ⊢
    obtain ⟨n, rfl, _⟩ := h1
    obtain ⟨b', rfl⟩ := okWide_int hu hv
    exact one _ _ rfl rfl rfl
  · rename_i hu
    rw [hu] at h1 ⊢
    obtain ⟨n, rfl, _⟩ := h1
    obtain ⟨b', rfl⟩ := okWide_string hu hv
    exact one _ _ rfl rfl rfl
  · rename_i e hu
    rw [hu] at h1 ⊢
    obtain ⟨ys, n, nil, full, rfl, _⟩ := h1
    obtain ⟨a, len, cap, rfl⟩ := okWide_slice hu hv
    exact one _ _ rfl rfl rfl
  · rename_i fs hu
    rw [hu] at h1 ⊢
    obtain ⟨cs, rfl, _⟩ := okWide_struct hu hv
    exact ⟨⟨cs.toList, by simp, h2.RVl⟩, by simpa [bulkV] using h3⟩
  · rename_i n e hu
    rw [hu] at h1 ⊢
    simp only [Value.okWide, hu] at hv
    obtain ⟨cs, rfl, _⟩ := hv
    exact ⟨⟨cs.toList, by simp, h2.RVl⟩, by simpa [bulkV] using h3⟩
  · cases hp

theorem args_TV {r : Reach} {base : Nat} : ∀ {ts : List TypeId} {vs : List Value} {ds : List (DataW H)} {ps : List MemPlace}, ts.all (plainT P 16) = true →
    (∀ (j : Nat) t v, ts[j]? = some t → vs[j]? = some v → Value.okWide P W r base t v) → DataW.TrodAll enc P W 0 (fun _ => true) true ts vs ds ps → (∀ n ∈ DataW.weightsEach P ts ds, n ≤ reachBytes) →
    ∃ xs, TA P ts xs ∧ RVl P (Sg.start W) W xs vs ∧ bulkVl xs ≤ Rows.uptoBulkAll ds
  | [], [], [], ps, hp, hv, h, hw => ⟨[], rfl, rfl, by simp [bulkVl]⟩
  | t :: ts, v :: vs, d :: ds, ps, hp, hv, h, hw => by
    simp only [List.all_cons, Bool.and_eq_true] at hp
    obtain ⟨p, q, h1, h2, rfl⟩ := h
    simp only [DataW.weightsEach, List.mem_append] at hw
    obtain ⟨xs, k1, k2, k3⟩ := arg_TV hp.1 (hv 0 t v rfl rfl) h1 fun n hn => hw n (.inl hn)
    obtain ⟨ys, j1, j2, j3⟩ := args_TV hp.2 (fun j t v ht hv' => hv (j + 1) t v (by simpa using ht) (by simpa using hv')) h2 fun n hn => hw n (.inr hn)
    exact ⟨_, ⟨xs, ys, rfl, k1, j1⟩, ⟨v, vs, rfl, k2, j2⟩, by simp only [bulkVl, Rows.uptoBulkAll]; omega⟩
  | [], _ :: _, _, _, _, _, h, _ => h.elim
  | [], [], _ :: _, _, _, _, h, _ => h.elim
  | _ :: _, [], _, _, _, _, h, _ => h.elim
  | _ :: _, _ :: _, [], _, _, _, h, _ => h.elim

theorem trodAll_below (hl : laidOutB P = true) {W' : World} (hb : Below W.heap.size W W') : ∀ {ts : List TypeId} {vs : List Value} {ds : List (DataW H)} {ps : List MemPlace}, (ts.all fun t => P.readableRec t && decide (t < P.types.size)) = true →
    DataW.TrodAll enc P W 0 (fun _ => true) true ts vs ds ps → DataW.TrodAll enc P W' 0 (fun b => decide (b < W.heap.size)) true ts vs ds ps
  | [], [], [], ps, hp, h => h
  | t :: ts, v :: vs, d :: ds, ps, hp, h => by
    simp only [List.all_cons, Bool.and_eq_true, decide_eq_true_eq] at hp
    obtain ⟨p, q, h1, h2, rfl⟩ := h
    exact ⟨p, q, Below.trod hl hp.1.1 hp.1.2 h1 hb (by obtain ⟨m, hm⟩ := h1; exact DataW.trod_lt m _ _ _ hm), trodAll_below hl hb (by simpa using hp.2) h2, rfl⟩
  | [], _ :: _, _, _, _, h => h.elim
  | [], [], _ :: _, _, _, h => h.elim
  | _ :: _, [], _, _, _, h => h.elim
  | _ :: _, _ :: _, [], _, _, h => h.elim

theorem trodAll_length {sp : Nat → Bool} : ∀ {ts : List TypeId} {vs : List Value} {ds : List (DataW H)} {ps : List MemPlace}, DataW.TrodAll enc P W 0 sp true ts vs ds ps → ds.length = ts.length
  | [], [], [], ps, h => rfl
  | t :: ts, v :: vs, d :: ds, ps, h => by obtain ⟨p, q, h1, h2, rfl⟩ := h; simp [trodAll_length h2]
  | [], _ :: _, _, _, h => h.elim
  | [], [], _ :: _, _, h => h.elim
  | _ :: _, [], _, _, h => h.elim
  | _ :: _, _ :: _, [], _, h => h.elim

theorem law_contract (hm : P.follows .mixedOrders = true) (hN : ∀ (f : FuncId) (fn : Func), P.funcs[f]? = some fn → (fn.name == "runtime.NumGoroutine") = false) {pl : Plans} (hD : plansOK P pl = true) (hP : PrimOK P pl) (hl : laidOutB P = true)
    {f : FuncId} {fn : Func} {s : ChangeSpec} {rt : TypeId} {k m : Nat} {B : Nat → Prop} (hp : fn.params.toList.all (plainT P 16) = true) (hr : (fn.params.toList.all fun t => P.readableRec t && decide (t < P.types.size)) = true) (hrt : fn.resultTypes = #[rt]) (hb : P.underlying rt = some .bool)
    (hvars : s.vars = []) (hs : ∀ (ds : List (DataW H)), ds.length = fn.params.toList.length → s.fn H ds = { results := [.lit (.bool true)], args := ds })
    (h : ∀ vs, TA P fn.params.toList vs → (∃ b, B b ∧ bulkVl vs ≤ b) → acallF P pl k m f vs [] fun v _ => v = .sc (.bool true))
    {base : Nat} {args : Array Value} {ds gs : List (DataW H)} {before : List MemPlace}
    (hval : ∀ (j : Nat) t v, fn.params[j]? = some t → args[j]? = some v → Value.okWide P W .any base t v)
    (hW : DataW.Whole enc P fn.params.toList s.vars false W args.toList ds gs before)
    (hw : (DataW.weightsEach P (fn.params.toList ++ s.plain.varTypes P) (ds ++ gs)).all (· ≤ reachBytes) = true) (hB : B (Rows.uptoBulkAll (ds ++ gs))) :
    Calls P f args W fun e W' => ∃ v, e = .returned v ∧ s.post enc P fn false true false false W args v W' := by
  have hW' := hW
  obtain ⟨p, q, hA, hV, rfl, hfz, hnd⟩ := hW
  rw [hvars] at hV
  obtain ⟨rfl, rfl⟩ := trodVars_none hV
  have hvt : s.plain.varTypes P = [] := by simp [ChangeSpec.plain, DataSpec.varTypes, hvars]
  rw [hvt] at hw
  simp only [List.append_nil] at hw hB
  obtain ⟨xs, h1, h2, h3⟩ := args_TV (P := P) (W := W) (r := .any) (base := base) hp (fun j t v ht hv => hval j t v (by simpa using ht) (by simpa using hv)) hA (by simpa using hw)
  have hc := law_calls hm hN hD hP h2 (h xs h1 ⟨_, hB, h3⟩)
  rw [show args.toList.toArray = args by simp] at hc
  refine hc.mono fun e W' ⟨he, bel⟩ => ?_
  subst he
  have hd := trodAll_length hA
  refine ⟨_, rfl, ds, [], _, [], p, [], hW', ?_, ?_, ?_, bel.frame _, fun h => by cases h⟩
  · rw [List.append_nil, hs ds hd, hrt]
    exact trodAll_mk1 (shut_bool hb _)
  · rw [List.append_nil, hs ds hd]
    exact trodAll_below hl bel hr hA
  · rw [List.append_nil, hs ds hd, hvars]
    rfl
end
end Go.M
