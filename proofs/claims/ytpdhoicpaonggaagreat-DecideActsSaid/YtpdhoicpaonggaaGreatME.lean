/- Maps: what the machine tells is what the run yields. -/
import Derived.Test.YtpdhoicpaonggaaGreatMB
set_option linter.unusedVariables false
set_option linter.unusedSimpArgs false
namespace Go.M
open Go Go.RowKit
section
variable {P : Program} {σ σ' : Sg} {w w' w1 : World} {L L' : Nat → Lb}
variable {ρ : Operand → V} {ρ' : Operand → Value} {st' : List Ob} {v : V} {dst : Option Tmp} {ty : TypeId} {pos : String} {after : Array Edge} {gd : Option (Nat × Bool)}
theorem pr_bd {α β : Type} (f : α → Sem β) : ∀ (s : Sem α), pureRun P (s >>= f) = (pureRun P s).bind fun a => pureRun P (f a)
  | .pure a => rfl
  | .program k => by show pureRun P ((k P) >>= f) = _; rw [pr_bd f (k P)]; rfl
  | .mark m k => by show pureRun P (k >>= f) = _; rw [pr_bd f k]; rfl
  | .load .. => rfl
  | .store .. => rfl
  | .new .. => rfl
  | .shape .. => rfl
  | .freeze .. => rfl
  | .frozen .. => rfl
  | .getObj .. => rfl
  | .setObj .. => rfl
  | .choose .. => rfl
  | .sys .. => rfl
  | .halt .. => rfl
def sameKeys : List MapEntry → List MapEntry → Prop
  | [], [] => True
  | a :: l, b :: r => a.key = b.key ∧ sameKeys l r
  | _, _ => False
theorem REs.keys : ∀ {es : List (Value × V)} {ens : List MapEntry}, REs P σ w es ens → sameKeys (keysOf es) ens
  | [], ens, h => by simp only [REs] at h; subst h; trivial
  | (k, v) :: l, ens, h => by
    simp only [REs] at h
    obtain ⟨e, es', rfl, h2, h3, h4⟩ := h
    exact ⟨h2.symm, REs.keys h4⟩
theorem REs.length : ∀ {es : List (Value × V)} {ens : List MapEntry}, REs P σ w es ens → ens.length = es.length
  | [], ens, h => by simp only [REs] at h; subst h; rfl
  | (k, v) :: l, ens, h => by
    simp only [REs] at h
    obtain ⟨e, es', rfl, h2, h3, h4⟩ := h
    simp [REs.length h4]
theorem REs.get : ∀ {es : List (Value × V)} {ens : List MapEntry} {i : Nat} {x : Value × V}, REs P σ w es ens → es[i]? = some x → ∃ e, ens[i]? = some e ∧ e.key = x.1 ∧ RV P σ w x.2 e.val
  | [], ens, i, x, h, hx => by simp at hx
  | (k, v) :: l, ens, 0, x, h, hx => by
    simp only [REs] at h
    obtain ⟨e, es', rfl, h2, h3, h4⟩ := h
    simp only [List.getElem?_cons_zero, Option.some.injEq] at hx
    subst hx
    exact ⟨e, rfl, h2, h3⟩
  | (k, v) :: l, ens, i + 1, x, h, hx => by
    simp only [REs] at h
    obtain ⟨e, es', rfl, h2, h3, h4⟩ := h
    simp only [List.getElem?_cons_succ] at hx ⊢
    exact REs.get h4 hx
theorem REs.push : ∀ {es : List (Value × V)} {ens : List MapEntry} {k : Value} {v : V} {e : MapEntry}, REs P σ w es ens → e.key = k → RV P σ w v e.val → REs P σ w (es ++ [(k, v)]) (ens ++ [e])
  | [], ens, k, v, e, h, h1, h2 => by
    simp only [REs] at h
    subst h
    simp only [List.nil_append, REs]
    exact ⟨e, [], rfl, h1, h2, rfl⟩
  | (k', v') :: l, ens, k, v, e, h, h1, h2 => by
    simp only [REs] at h
    obtain ⟨e', es', rfl, h3, h4, h5⟩ := h
    simp only [List.cons_append, REs]
    exact ⟨e', _, rfl, h3, h4, REs.push h5 h1 h2⟩
theorem REs.set : ∀ {es : List (Value × V)} {ens : List MapEntry} {i : Nat} {k : Value} {v : V} {e : MapEntry}, REs P σ w es ens → e.key = k → RV P σ w v e.val → REs P σ w (es.set i (k, v)) (ens.set i e)
  | [], ens, i, k, v, e, h, h1, h2 => by simp only [REs] at h; subst h; simp [REs]
  | (k', v') :: l, ens, 0, k, v, e, h, h1, h2 => by
    simp only [REs] at h
    obtain ⟨e', es', rfl, h3, h4, h5⟩ := h
    simp only [List.set_cons_zero, REs]
    exact ⟨e, _, rfl, h1, h2, h5⟩
  | (k', v') :: l, ens, i + 1, k, v, e, h, h1, h2 => by
    simp only [REs] at h
    obtain ⟨e', es', rfl, h3, h4, h5⟩ := h
    simp only [List.set_cons_succ, REs]
    exact ⟨e', _, rfl, h3, h4, REs.set h5 h1 h2⟩
theorem REs.erase : ∀ {es : List (Value × V)} {ens : List MapEntry} {i : Nat}, REs P σ w es ens → REs P σ w (es.eraseIdx i) (ens.eraseIdx i)
  | [], ens, i, h => by simp only [REs] at h; subst h; simp [REs]
  | (k', v') :: l, ens, 0, h => by
    simp only [REs] at h
    obtain ⟨e', es', rfl, h3, h4, h5⟩ := h
    simpa using h5
  | (k', v') :: l, ens, i + 1, h => by
    simp only [REs] at h
    obtain ⟨e', es', rfl, h3, h4, h5⟩ := h
    simp only [List.eraseIdx_cons_succ, REs]
    exact ⟨e', _, rfl, h3, h4, REs.erase h5⟩
theorem findNow_keys {kd : TypeDesc} {k : Value} : ∀ {l r : List MapEntry} {i : Nat}, sameKeys l r → (Instr.findNow kd k l i = none → Instr.findNow kd k r i = none) ∧ (Instr.findNow kd k l i = some none → Instr.findNow kd k r i = some none) ∧
    ∀ j x, Instr.findNow kd k l i = some (some (j, x)) → i ≤ j ∧ ∃ e, r[j - i]? = some e ∧ Instr.findNow kd k r i = some (some (j, e.val))
  | [], [], i, _ => ⟨fun h => h, fun h => h, fun j x h => by simp [Instr.findNow] at h⟩
  | a :: l, b :: r, i, ⟨h1, h2⟩ => by
    obtain ⟨k1, k2, k3⟩ := findNow_keys (kd := kd) (k := k) (i := i + 1) h2
    unfold Instr.findNow
    rw [h1]
    cases Instr.sameNow kd k b.key with
    | none => exact ⟨fun h => rfl, fun h => (by simp at h), fun j x h => by simp at h⟩
    | some q =>
      cases q with
      | true =>
        refine ⟨fun h => (by simp at h), fun h => (by simp at h), fun j x h => ?_⟩
        simp only [Option.some.injEq, Prod.mk.injEq] at h
        obtain ⟨rfl, rfl⟩ := h
        exact ⟨Nat.le_refl _, b, by simp, rfl⟩
      | false =>
        refine ⟨k1, k2, fun j x h => ?_⟩
        obtain ⟨h3, e, h4, h5⟩ := k3 j x h
        refine ⟨by omega, e, ?_, h5⟩
        obtain ⟨d, hd⟩ : ∃ d, j - i = d + 1 := ⟨j - (i + 1), by omega⟩
        rw [hd, List.getElem?_cons_succ]
        rw [show j - (i + 1) = d by omega] at h4
        exact h4
  | [], _ :: _, _, h => h.elim
  | _ :: _, [], _, h => h.elim
theorem findAsking_keys {kt : TypeId} {k : Value} : ∀ {l r : List MapEntry} {i : Nat} {res : Option (Nat × Value)}, sameKeys l r → pureRun P (Instr.findAsking kt k l i) = some res →
    ∃ res', pureRun P (Instr.findAsking kt k r i) = some res' ∧ res'.map (·.1) = res.map (·.1) ∧ ∀ j x, res' = some (j, x) → i ≤ j ∧ ∃ e, r[j - i]? = some e ∧ x = e.val
  | [], [], i, res, _, h => by
    simp only [Instr.findAsking] at h ⊢
    exact ⟨none, rfl, by cases h; rfl, fun j x hx => by cases hx⟩
  | a :: l, b :: r, i, res, ⟨h1, h2⟩, h => by
    unfold Instr.findAsking at h ⊢
    rw [pr_bd] at h ⊢
    rw [h1] at h
    obtain ⟨q, hq, h3⟩ := Option.bind_eq_some_iff.1 h
    rw [hq, Option.bind_some]
    cases q with
    | true =>
      simp only [if_true] at h3 ⊢
      cases h3
      refine ⟨_, rfl, rfl, fun j x hx => ?_⟩
      simp only [Option.some.injEq, Prod.mk.injEq] at hx
      obtain ⟨rfl, rfl⟩ := hx
      exact ⟨Nat.le_refl _, b, by simp, rfl⟩
    | false =>
      simp only [Bool.false_eq_true, if_false] at h3 ⊢
      obtain ⟨res', k1, k2, k3⟩ := findAsking_keys h2 h3
      refine ⟨res', k1, k2, fun j x hx => ?_⟩
      obtain ⟨h4, e, h5, h6⟩ := k3 j x hx
      refine ⟨by omega, e, ?_, h6⟩
      obtain ⟨d, hd⟩ : ∃ d, j - i = d + 1 := ⟨j - (i + 1), by omega⟩
      rw [hd, List.getElem?_cons_succ]
      rw [show j - (i + 1) = d by omega] at h5
      exact h5
  | [], _ :: _, _, _, h, _ => h.elim
  | _ :: _, [], _, _, h, _ => h.elim
theorem find_keys {kt : TypeId} {k : Value} {es : List (Value × V)} {r : List MapEntry} {res : Option Nat} (hk : sameKeys (keysOf es) r) (h : afind P kt k es = some res) (w : World) :
    ∃ res', (Instr.findKey kt k r).run P w = .ok res' w ∧ res'.map (·.1) = res ∧ ∀ j x, res' = some (j, x) → ∃ e, r[j]? = some e ∧ x = e.val := by
  unfold afind at h
  obtain ⟨r0, h0, rfl⟩ := Option.map_eq_some_iff.1 h
  unfold Instr.findKey at h0
  rw [pr_bd] at h0
  obtain ⟨d, hd, h1⟩ := Option.bind_eq_some_iff.1 h0
  have hd' := pureRun_sound hd w
  obtain ⟨n1, n2, n3⟩ := findNow_keys (kd := d) (k := k) (i := 0) hk
  unfold Instr.findKey
  rw [Sem.run_bind, hd', Result.andThen_ok]
  cases hn : Instr.findNow d k (keysOf es) 0 with
  | none =>
    rw [hn] at h1
    simp only at h1
    rw [n1 hn]
    simp only
    obtain ⟨res', k1, k2, k3⟩ := findAsking_keys hk h1
    refine ⟨res', pureRun_sound k1 w, k2, fun j x hx => ?_⟩
    obtain ⟨_, e, h5, h6⟩ := k3 j x hx
    exact ⟨e, by simpa using h5, h6⟩
  | some q =>
    rw [hn] at h1
    simp only at h1
    cases q with
    | none =>
      rw [n2 hn]
      refine ⟨none, by simp, ?_, fun j x hx => by cases hx⟩
      cases h1; rfl
    | some y =>
      obtain ⟨j, x⟩ := y
      obtain ⟨_, e, h5, h6⟩ := n3 j x hn
      rw [h6]
      refine ⟨some (j, e.val), by simp, ?_, fun j' x' hx => ?_⟩
      · cases h1; rfl
      · simp only [Option.some.injEq, Prod.mk.injEq] at hx
        obtain ⟨rfl, rfl⟩ := hx
        exact ⟨e, by simpa using h5, rfl⟩
theorem run_getMap {r : Nat} {es : Array MapEntry} {c : Nat} (h : w.heap[r]? = some (.map es c)) : (getObj r).run P w = .ok (.map es c) w := by simp [getObj, Sem.run, h]
theorem run_setMap {r : Nat} {es : Array MapEntry} {c : Nat} (o : Obj) (h : w.heap[r]? = some (.map es c)) : (setObj r o).run P w = .ok () { w with heap := w.heap.setIfInBounds r o } := by simp [setObj, Sem.run, h]
theorem azero_sound {e : TypeId} {z : V} (h : azero P e = some z) : ∃ u, (zeroValue e).run P w = .ok u w ∧ RV P σ w z u := by
  unfold azero at h
  have key : ∀ u, zeroOf P e = some u → (zeroValue e).run P w = .ok u w := fun u hu => by
    unfold zeroOf at hu
    obtain ⟨i, hi, hz⟩ := Option.bind_eq_some_iff.1 hu
    simp [zeroValue, typeInfo, hi, hz]
  split at h
  · rename_i cs hz
    cases h
    refine ⟨_, key _ hz, ?_⟩
    simp only [RV]
    exact ⟨cs.toList, by simp, RVl.ofVals _⟩
  · rename_i u hn hz
    split at h
    · cases h
      exact ⟨_, key _ hz, RV.ofVal u⟩
    · cases h
  · cases h
theorem y_lookup (g : Good P σ w) (hρ : ∀ x, RV P σ w (ρ x) (ρ' x)) {t : TypeId} {x k : Operand} {c : Bool} (h : aval P ρ σ.st ⟨dst, .lookup t x k c, ty, pos, after, gd⟩ = some (v, st')) : YieldS P σ ρ' w ⟨dst, .lookup t x k c, ty, pos, after, gd⟩ v st' := by
  simp only [aval] at h
  obtain ⟨y, hy, hh⟩ := Option.map_eq_some_iff.1 h
  simp only [Prod.mk.injEq] at hh
  obtain ⟨rfl, rfl⟩ := hh
  unfold alookup at hy
  have hx := hρ x
  split at hy
  · rename_i kt e kv hu hkv
    have hk := toVal_sound hkv (hρ k)
    simp only at hy
    have fin : ∀ (v0 : Value) (q : Bool) (z : V), RV P σ w z v0 → y = (if c then .tup [z, .sc (.bool q)] else z) → RV P σ w y (if c then .tuple #[v0, .bool q] else v0) := fun v0 q z hz hy => by
      subst hy
      cases c
      · exact hz
      · simp only [if_true, RV]
        exact ⟨[v0, .bool q], rfl, by simp only [RVl]; exact ⟨_, _, rfl, hz, _, _, rfl, by simp only [RV], rfl⟩⟩
    split at hy
    · rename_i id hid
      rw [hid] at hx
      simp only [RV] at hx
      obtain ⟨hxe, es0, hes0⟩ := hx
      split at hy
      · rename_i es hes
        split at hy
        · rename_i u0 r hck hfd
          have hro := g.1 _ _ hes
          simp only [RO] at hro
          obtain ⟨ens, clock, h1, h2, h3⟩ := hro
          obtain ⟨res, f1, f2, f3⟩ := find_keys h2.keys hfd w
          have hemp : ens.isEmpty = es.isEmpty := by
            have := h2.length
            rw [Array.length_toList] at this
            cases es with
            | nil => simp at this; simp [this]
            | cons a l => simp at this; simp only [List.isEmpty_cons]; rw [Array.isEmpty_eq_false_iff]; intro he; simp [he] at this
          have hck' := pureRun_sound hck w
          have hrun : ∀ v0 q, (match res with | some (_, v1) => (v1, true) = (v0, q) | none => (zeroValue e).run P w = .ok v0 w ∧ q = false) → (Instr.lookup t (ρ' x) (ρ' k) c).run P w = .ok (if c then .tuple #[v0, .bool q] else v0) w := by
            intro v0 q hres
            unfold Instr.lookup
            simp only [hxe, hk, Sem.run_bind, run_underlying hu, Result.andThen_ok, run_getMap h1, Sem.run_pure, hemp, hck', f1]
            cases res with
            | none =>
              obtain ⟨hz, rfl⟩ := hres
              simp only [Sem.run_bind, hz, Result.andThen_ok, Sem.run_pure]
            | some y1 =>
              simp only [Prod.mk.injEq] at hres
              obtain ⟨rfl, rfl⟩ := hres
              simp only [Sem.run_bind, Sem.run_pure, Result.andThen_ok]
          cases res with
          | none =>
            simp only [Option.map_none] at f2
            subst f2
            simp only at hy
            obtain ⟨z, hz, rfl⟩ := Option.map_eq_some_iff.1 hy
            obtain ⟨u, hu1, hu2⟩ := azero_sound (P := P) (σ := σ) (w := w) hz
            exact ⟨rfl, _, by simp only [execOp]; exact run_v (α := Unit) (hrun u false ⟨hu1, rfl⟩), fin u false z hu2 rfl⟩
          | some y1 =>
            obtain ⟨j, x1⟩ := y1
            simp only [Option.map_some] at f2
            subst f2
            simp only at hy
            obtain ⟨en, hen, rfl⟩ := Option.map_eq_some_iff.1 hy
            obtain ⟨e1, k1, k2⟩ := f3 j x1 rfl
            obtain ⟨e2, k3, k4, k5⟩ := h2.get hen
            rw [k1] at k3
            cases k3
            subst k2
            exact ⟨rfl, _, by simp only [execOp]; exact run_v (α := Unit) (hrun e1.val true rfl), fin _ true _ k5 rfl⟩
        · cases hy
      · cases hy
    · rename_i hid
      rw [hid] at hx
      simp only [RV] at hx
      split at hy
      · rename_i u0 hck
        have hck' := pureRun_sound hck w
        obtain ⟨z, hz, rfl⟩ := Option.map_eq_some_iff.1 hy
        obtain ⟨u, hu1, hu2⟩ := azero_sound (P := P) (σ := σ) (w := w) hz
        have hfk : (Instr.findKey kt kv []).run P w = .ok none w := by
          have : ∃ d, (underlying kt).run P w = .ok d w := by
            unfold akey at hck
            unfold Instr.checkKey at hck
            rw [pr_bd] at hck
            obtain ⟨d, hd, _⟩ := Option.bind_eq_some_iff.1 hck
            exact ⟨d, pureRun_sound hd w⟩
          obtain ⟨d, hd⟩ := this
          unfold Instr.findKey
          rw [Sem.run_bind, hd, Result.andThen_ok]
          simp [Instr.findNow]
        have hrun : (Instr.lookup t (ρ' x) (ρ' k) c).run P w = .ok (if c then .tuple #[u, .bool false] else u) w := by
          unfold Instr.lookup
          simp only [hx, hk, Sem.run_bind, run_underlying hu, Result.andThen_ok, Sem.run_pure, List.isEmpty_toArray, List.isEmpty_nil, hck', hfk, hu1]
        exact ⟨rfl, _, by simp only [execOp]; exact run_v (α := Unit) hrun, fin u false z hu2 rfl⟩
      · cases hy
    · cases hy
  · cases hy
theorem closedL_app : ∀ xs ys : List V, closedL (xs ++ ys) = (closedL xs && closedL ys)
  | [], ys => by simp [closedL]
  | x :: xs, ys => by rw [List.cons_append, closedL, closedL, closedL_app xs ys, Bool.and_assoc]
theorem made_flat (z : Array Value) : ∀ n : Nat, ((Array.range (n * z.size)).map (z[· % z.size]!)).toList = (List.replicate n z.toList).flatten := by
  intro n
  rw [Array.toList_map, Array.toList_range]
  induction n with
  | zero => simp
  | succ n ih =>
    rw [Nat.succ_mul, List.range_add, List.map_append, ih, List.replicate_succ', List.flatten_append]
    congr 1
    rw [List.map_map, List.flatten_singleton]
    apply List.ext_getElem?
    intro i
    rw [List.getElem?_map]
    by_cases hi : i < z.size
    · simp [List.getElem?_range hi, Nat.mod_eq_of_lt hi, hi]
    · simp [hi]
theorem RVl.flats {xs : List V} {us : List Value} (h : RVl P σ w xs us) : ∀ n : Nat, RVl P σ w (List.replicate n xs).flatten (List.replicate n us).flatten
  | 0 => by simp [RVl]
  | n + 1 => by rw [List.replicate_succ, List.replicate_succ, List.flatten_cons, List.flatten_cons]; exact RVl.app h (RVl.flats h n)
theorem y_makeSlice (g : Good P σ w) (hρ : ∀ x, RV P σ w (ρ x) (ρ' x)) {t : TypeId} {l c : Operand} (h : aval P ρ σ.st ⟨dst, .makeSlice t l c, ty, pos, after, gd⟩ = some (v, st')) : Yield P σ ρ' w ⟨dst, .makeSlice t l c, ty, pos, after, gd⟩ v st' := by
  simp only [aval] at h
  split at h
  · rename_i e n m hu hn hm
    split at h
    · rename_i s by_ z hs hby hz
      split at h
      · rename_i hc
        obtain ⟨rfl, h0, hs0, hzs, hb, h63, hcl, hone⟩ := hc
        cases h
        obtain ⟨i, hi, hsz'⟩ := Option.map_eq_some_iff.1 hs
        subst hsz'
        have hby' : i.bytes = by_ := by unfold bytesOf at hby; rw [hi] at hby; simpa using hby
        subst hby'
        have hiz : i.zero = some z := by unfold zeroOf at hz; rw [hi] at hz; simpa using hz
        obtain ⟨k, rfl⟩ := Int.eq_ofNat_of_zero_le h0
        simp only [Int.toNat_natCast] at hb ⊢
        obtain ⟨q1, hq1⟩ := asI_sound hn (hρ l)
        obtain ⟨q2, hq2⟩ := asI_sound hm (hρ c)
        have hb' : (i.bytes : Int) * (k : Int) ≤ 281474976710656 := by
          have h : ((k * i.bytes : Nat) : Int) ≤ 281474976710656 := by omega
          rw [Int.natCast_mul, Int.mul_comm] at h
          exact h
        have hrun := run_make (P := P) w t e i z hu hi hiz q1 q2 k k (by omega) (Int.le_refl _) hb' (by omega)
        simp only [Int.toNat_natCast] at hrun
        have hv : RVl P σ w (List.replicate k (z.cells.toList.map M.ofVal)).flatten (madeCells z.cells (k * i.size)).toList := by
          unfold madeCells
          rw [← hzs, made_flat]
          exact RVl.flats (RVl.ofVals _) k
        have ho : ∀ u ∈ (madeCells z.cells (k * i.size)).toList, u.oneCell' = true := by
          unfold madeCells
          rw [← hzs, made_flat]
          intro u hu'
          obtain ⟨l', h1, h2⟩ := List.mem_flatten.1 hu'
          obtain ⟨_, rfl⟩ := List.mem_replicate.1 h1
          exact List.all_eq_true.1 hone u h2
        have hcl' : ∀ k : Nat, closedL (List.replicate k (z.cells.toList.map M.ofVal)).flatten = true := by
          intro k
          induction k with
          | zero => rfl
          | succ k ih => rw [List.replicate_succ, List.flatten_cons, closedL_app]; simp [hcl, ih]
        have hr := RVl.RCl (hcl' k) ho hv
        have hul := RCl.length hr
        have hsz := size_madeCells z.cells (k * i.size)
        obtain ⟨k1, k2, k3⟩ := new_row (P := P) (rest := []) (w1 := w.alloc (.cells (madeCells z.cells (k * i.size)) e)) (n := k) (C := k) g rfl rfl rfl (by show w.heap.push _ = _; simp) hs hs0 hr (by rw [← hul, Array.length_toList, hsz]) (by simp [hsz]) (Nat.le_refl _) (by simp only [maxLen]; omega)
        exact ⟨_, _, _, _, by simp only [execOp, hq1, hq2]; exact run_v (α := Unit) hrun, .inl rfl, rfl, k1, k2, k3⟩
      · cases h
    · cases h
  · cases h
theorem y_makeMap (g : Good P σ w) (hρ : ∀ x, RV P σ w (ρ x) (ρ' x)) {t : TypeId} {r : Option Operand} (h : aval P ρ σ.st ⟨dst, .makeMap t r, ty, pos, after, gd⟩ = some (v, st')) : Yield P σ ρ' w ⟨dst, .makeMap t r, ty, pos, after, gd⟩ v st' := by
  have key : v = .map σ.st.length → st' = σ.st ++ [.map []] → (Instr.makeMap t (r.map ρ')).run P w = .ok (.map (some w.heap.size)) (w.alloc (.map #[] 0)) → Yield P σ ρ' w ⟨dst, .makeMap t r, ty, pos, after, gd⟩ v st' := by
    rintro rfl rfl hrun
    have hst : Stp P σ (σ.push (.map []) w.heap.size (.obj σ.st.length)) w (w.alloc (.map #[] 0)) := Stp.push g (by simp) rfl rfl rfl (by show w.heap.push _ = _; rfl)
    refine ⟨_, .map (some w.heap.size), w.alloc (.map #[] 0), σ.push (.map []) w.heap.size (.obj σ.st.length), by simp only [execOp]; exact run_v (α := Unit) hrun, .inl rfl, rfl, Good.push g (by simp) rfl rfl rfl (by show w.heap.push _ = _; rfl) (.inl rfl) ?_, hst, ?_⟩
    · simp only [RO]
      exact ⟨#[], 0, by show (w.heap.push _)[_]? = _; simp [Sg.push], by simp [REs], by simp [Sg.push], StB.nil _⟩
    · simp only [RV]
      exact ⟨by simp [Sg.push], [], .inl push_new⟩
  simp only [aval] at h
  split at h
  · cases h
    exact key rfl rfl (by simp [Instr.makeMap, Sem.run_bind, run_newObj_alloc])
  · rename_i x kt e hu
    split at h
    · rename_i i hi
      cases h
      obtain ⟨q, hq⟩ := asI_sound hi (hρ x)
      exact key rfl rfl (by simp [Instr.makeMap, Sem.run_bind, run_newObj_alloc, run_underlying hu, hq, asInt, asIntOf])
    · cases h
  · cases h
theorem modify_at {α : Type} (f : α → α) : ∀ (l : List α) (i : Nat) (e : α), l[i]? = some e → l.modify i f = l.set i (f e)
  | [], i, e, h => by simp at h
  | a :: l, 0, e, h => by simp at h; subst h; simp
  | a :: l, i + 1, e, h => by simp at h ⊢; exact modify_at f l i e h
theorem map_set (g : Good P σ w) {id : Nat} {es es' : List (Value × V)} {ens ens' : Array MapEntry} {c c' : Nat} (hid : σ.st[id]? = some (.map es)) (h1 : w.heap[σ.φ id]? = some (.map ens c)) (hl : σ.L (σ.φ id) = .obj id) (hr : REs P σ w es' ens'.toList) (hsb : StB ens'.toList c') :
    Good P (σ.set id (.map es')) { w with heap := w.heap.setIfInBounds (σ.φ id) (.map ens' c') } ∧ Stp P σ (σ.set id (.map es')) w { w with heap := w.heap.setIfInBounds (σ.φ id) (.map ens' c') } := by
  have hlt := (Array.getElem?_eq_some_iff.1 h1).1
  have helse : ∀ b, b ≠ σ.φ id → ({ w with heap := w.heap.setIfInBounds (σ.φ id) (.map ens' c') } : World).heap[b]? = w.heap[b]? := fun b hb => by
    simp [Array.getElem?_setIfInBounds_ne (Ne.symm hb)]
  -- the relation of what lies in the map does not look at the map
  have hst : Stq P σ (σ.set id (.map es')) w { w with heap := w.heap.setIfInBounds (σ.φ id) (.map ens' c') } := by
    have g0 := set_kind (w1 := { w with heap := w.heap.setIfInBounds (σ.φ id) (.map ens' c') }) (o' := .map es') g hid trivial rfl rfl rfl (by simp) helse
    have hlt' := g.lt hid
    refine ⟨rfl, rfl, rfl, by simp, fun b hb => ⟨hb, helse b (fun he => by rw [he, hl] at hb; cases hb)⟩, fun i ys hi => ⟨rfl, ?_⟩, fun i hi => ⟨rfl, ?_⟩, fun i hi => ⟨rfl, ?_⟩, fun i ty ys n lo fz hi => ?_⟩
    · by_cases hii : i = id
      · subst hii; rw [hid] at hi; cases hi
      · exact ⟨_, (set_ne hii).trans hi⟩
    · by_cases hii : i = id
      · subst hii; exact ⟨_, .inl (set_same hlt')⟩
      · exact hi.keep (set_ne hii)
    · obtain ⟨s', p', pl', t', ps', a', b', hi⟩ := hi
      by_cases hii : i = id
      · subst hii; rw [hid] at hi; cases hi
      · exact ⟨s', p', pl', t', ps', a', b', (set_ne hii).trans hi⟩
    · by_cases hii : i = id
      · subst hii; rw [hid] at hi; cases hi
      · refine ⟨ys, n, lo, fz, (set_ne hii).trans hi, Nat.le_refl _, Nat.le_refl _, fun b k C _ _ hh => ?_⟩
        obtain ⟨e, xs, n, lo, fz, s, us, fr, k1, k2, k3, k4, k5, k5', k6, k7, k8, k9, k10⟩ := hh
        refine ⟨e, xs, n, lo, fz, s, us, fr, (set_ne hii).trans k1, k2, k3, k4, k5, k5', ?_, k7, RCl.mono (L := σ.L) (L' := σ.L) (fun b hb => ⟨hb, helse b (fun he => by rw [he, hl] at hb; cases hb)⟩) k8, k9, k10⟩
        rw [helse b (fun he => by rw [he] at k7; rcases k7 with k7 | ⟨_, k7⟩ <;> rw [hl] at k7 <;> cases k7; exact hii rfl)]
        exact k6
  exact set_kind (w1 := { w with heap := w.heap.setIfInBounds (σ.φ id) (.map ens' c') }) (o' := .map es') g hid trivial rfl rfl rfl (by simp) helse (by
    simp only [RO]
    exact ⟨ens', c', by show (w.heap.setIfInBounds _ _)[_]? = _; simp [Sg.set, hlt], REs.mono hst hr, hl, hsb⟩)
theorem y_mapUpdate (g : Good P σ w) (hρ : ∀ x, RV P σ w (ρ x) (ρ' x)) {t : TypeId} {x k y : Operand} (h : aval P ρ σ.st ⟨dst, .mapUpdate t x k y, ty, pos, after, gd⟩ = some (v, st')) : Yield P σ ρ' w ⟨dst, .mapUpdate t x k y, ty, pos, after, gd⟩ v st' := by
  simp only [aval] at h
  obtain ⟨st2, hs, hh⟩ := Option.map_eq_some_iff.1 h
  simp only [Prod.mk.injEq] at hh
  obtain ⟨rfl, rfl⟩ := hh
  unfold aupdate at hs
  have hx := hρ x
  split at hs
  · rename_i kt e kv id hu hkv hid
    have hk := toVal_sound hkv (hρ k)
    rw [hid] at hx
    simp only [RV] at hx
    obtain ⟨hxe, _⟩ := hx
    split at hs
    · rename_i es hes
      split at hs
      · rename_i hheld
        have hro := g.1 _ _ hes
        simp only [RO] at hro
        obtain ⟨ens, clock, h1, h2, h3⟩ := hro
        split at hs
        · rename_i u0 i hck hfd
          have hck' := pureRun_sound hck w
          obtain ⟨res, f1, f2, f3⟩ := find_keys h2.keys hfd w
          split at hs
          · rename_i en hen
            split at hs
            · rename_i hsame
              cases hs
              obtain ⟨⟨j, v1⟩, rfl, rfl⟩ := Option.map_eq_some_iff.1 f2
              obtain ⟨e2, k3, k4, k5⟩ := h2.get hen
              have hget : ens[j]? = some e2 := by rw [← Array.getElem?_toList]; exact k3
              obtain ⟨q1, q2⟩ := map_set (es' := es.set j (kv, ρ y)) (ens' := ens.modify j fun e => { e with key := kv, val := ρ' y }) (c' := clock) g hes h1 h3.1 (by
                have : (ens.modify j fun e => { e with key := kv, val := ρ' y }).toList = ens.toList.set j { e2 with key := kv, val := ρ' y } := by
                  rw [Array.toList_modify, modify_at _ _ _ _ k3]
                rw [this]
                exact h2.set rfl (hρ y)) (by
                have : (ens.modify j fun e => { e with key := kv, val := ρ' y }).toList = ens.toList.set j { e2 with key := kv, val := ρ' y } := by
                  rw [Array.toList_modify, modify_at _ _ _ _ k3]
                rw [this]
                exact h3.2.set k3 rfl)
              refine ⟨.skip, undef, _, _, ?_, .inr ⟨rfl, rfl⟩, rfl, q1, q2, by simp only [RV]⟩
              simp only [execOp]
              unfold Instr.mapUpdate
              simp only [hxe, hk, Sem.run_bind, run_underlying hu, Result.andThen_ok, run_getMap h1, hck', f1, Instr.keyThatStays, hget, Option.map_some, Option.getD_some, k4, hsame, if_true, Sem.run_pure, run_setMap _ h1]
            · cases hs
          · cases hs
        · rename_i u0 hck hfd
          have hck' := pureRun_sound hck w
          obtain ⟨res, f1, f2, f3⟩ := find_keys h2.keys hfd w
          cases hs
          cases res with
          | some y1 => simp at f2
          | none =>
            obtain ⟨q1, q2⟩ := map_set (es' := es ++ [(kv, ρ y)]) (ens' := ens.push { key := kv, val := ρ' y, born := clock }) (c' := clock + 1) g hes h1 h3.1 (by
              rw [Array.toList_push]
              exact h2.push rfl (hρ y)) (by rw [Array.toList_push]; exact h3.2.push)
            refine ⟨.skip, undef, _, _, ?_, .inr ⟨rfl, rfl⟩, rfl, q1, q2, by simp only [RV]⟩
            simp only [execOp]
            unfold Instr.mapUpdate
            simp only [hxe, hk, Sem.run_bind, run_underlying hu, Result.andThen_ok, run_getMap h1, hck', f1, Sem.run_pure, run_setMap _ h1]
        · cases hs
      · cases hs
    · cases hs
  · cases hs
theorem run_builtin_delete {ts : Array TypeId} {ty : TypeId} {cs : Array Bool} {us : Array Value} {u : Value} {w w' : World} (h : (Builtin.delete_ ts ty us).run P w = .ok u w') : (builtin .delete ts ty cs us).run P w = .ok (.value u) w' := by
  simp only [builtin]
  exact run_v (α := Unit) h
theorem y_delete (g : Good P σ w) {t t' ty : TypeId} {cs : Array Bool} {x k : V} {ux uk : Value} (hx : RV P σ w x ux) (hk : RV P σ w k uk) {v : V} {st' : List Ob} (h : abuiltin P σ.st .delete #[t, t'] [x, k] = some (v, st')) :
    ∃ u w' σ', (builtin .delete #[t, t'] ty cs [ux, uk].toArray).run P w = .ok (.value u) w' ∧ σ'.st = st' ∧ Good P σ' w' ∧ Stp P σ σ' w w' ∧ RV P σ' w' v u := by
  simp only [abuiltin] at h
  split at h
  · rename_i kt e kv id hu hkv
    have hk := toVal_sound hkv hk
    simp only [RV] at hx
    obtain ⟨hxe, _⟩ := hx
    split at h
    · rename_i es hes
      have hro := g.1 _ _ hes
      simp only [RO] at hro
      obtain ⟨ens, clock, h1, h2, h3⟩ := hro
      have hemp : ens.isEmpty = es.isEmpty := by
        have := h2.length
        rw [Array.length_toList] at this
        cases es with
        | nil => simp at this; simp [this]
        | cons a l => simp at this; simp only [List.isEmpty_cons]; rw [Array.isEmpty_eq_false_iff]; intro he; simp [he] at this
      split at h
      · rename_i u0 i hck hfd
        cases h
        have hck' := pureRun_sound hck w
        obtain ⟨res, f1, f2, f3⟩ := find_keys h2.keys hfd w
        obtain ⟨⟨j, v1⟩, rfl, rfl⟩ := Option.map_eq_some_iff.1 f2
        obtain ⟨q1, q2⟩ := map_set (es' := es.eraseIdx j) (ens' := ens.eraseIdxIfInBounds j) (c' := clock) g hes h1 h3.1 (by
          rw [Array.eraseIdxIfInBounds]
          split
          · rw [Array.toList_eraseIdx]; exact h2.erase
          · rename_i hj
            have : ens.toList.eraseIdx j = ens.toList := List.eraseIdx_of_length_le (by rw [Array.length_toList]; omega)
            rw [← this]
            exact h2.erase) (by
          rw [Array.eraseIdxIfInBounds]
          split
          · rw [Array.toList_eraseIdx]; exact h3.2.sub (List.eraseIdx_sublist _ _)
          · exact h3.2)
        refine ⟨.tuple #[], _, _, run_builtin_delete ?_, rfl, q1, q2, by simp only [RV]; exact ⟨[], rfl, by simp [RVl]⟩⟩
        unfold Builtin.delete_
        simp [hxe, hk, Sem.run_bind, run_underlying hu, run_getMap h1, hemp, hck', f1, run_setMap _ h1]
      · rename_i u0 hck hfd
        cases h
        have hck' := pureRun_sound hck w
        obtain ⟨res, f1, f2, f3⟩ := find_keys h2.keys hfd w
        cases res with
        | some y1 => simp at f2
        | none =>
          obtain ⟨q1, q2⟩ := map_set (es' := es) (ens' := ens) (c' := clock) g hes h1 h3.1 h2 h3.2
          have hst : (σ.set id (.map es)).st = σ.st := by
            simp only [Sg.set]
            apply List.ext_getElem?
            intro i
            by_cases hi : i = id
            · subst hi; rw [List.getElem?_set_self (g.lt hes)]; exact hes.symm
            · rw [List.getElem?_set_ne (Ne.symm hi)]
          refine ⟨.tuple #[], _, _, run_builtin_delete ?_, hst, q1, q2, by simp only [RV]; exact ⟨[], rfl, by simp [RVl]⟩⟩
          unfold Builtin.delete_
          simp [hxe, hk, Sem.run_bind, run_underlying hu, run_getMap h1, hemp, hck', f1, run_setMap _ h1]
      · cases h
    · cases h
  · rename_i kt e kv hu hkv
    have hk := toVal_sound hkv hk
    simp only [RV] at hx
    obtain ⟨y, hy, hh⟩ := Option.map_eq_some_iff.1 h
    cases hh
    have hck' := pureRun_sound hy w
    refine ⟨.tuple #[], w, σ, run_builtin_delete ?_, rfl, g, .refl, by simp only [RV]; exact ⟨[], rfl, by simp [RVl]⟩⟩
    unfold Builtin.delete_
    simp [hx, hk, Sem.run_bind, run_underlying hu, hck']
  · cases h
theorem y_clear (g : Good P σ w) {t ty : TypeId} {cs : Array Bool} {x : V} {ux : Value} (hx : RV P σ w x ux) {v : V} {st' : List Ob} (h : abuiltin P σ.st .clear #[t] [x] = some (v, st')) :
    ∃ u w' σ', (builtin .clear #[t] ty cs [ux].toArray).run P w = .ok (.value u) w' ∧ σ'.st = st' ∧ Good P σ' w' ∧ Stp P σ σ' w w' ∧ RV P σ' w' v u := by
  simp only [abuiltin] at h
  split at h
  · rename_i kt e id hu
    simp only [RV] at hx
    obtain ⟨hxe, _⟩ := hx
    split at h
    · rename_i es hes
      cases h
      have hro := g.1 _ _ hes
      simp only [RO] at hro
      obtain ⟨ens, clock, h1, h2, h3⟩ := hro
      obtain ⟨q1, q2⟩ := map_set (es' := []) (ens' := #[]) (c' := clock) g hes h1 h3.1 (by simp [REs]) (StB.nil _)
      refine ⟨.tuple #[], _, _, ?_, rfl, q1, q2, by simp only [RV]; exact ⟨[], rfl, by simp [RVl]⟩⟩
      simp only [builtin]
      refine run_v (α := Unit) ?_
      unfold Builtin.clear_
      simp [hxe, Sem.run_bind, run_underlying hu, run_getMap h1, run_setMap _ h1]
    · cases h
  · cases h
theorem y_mlen (g : Good P σ w) {b : Builtin} {ts : Array TypeId} {ty : TypeId} {cs : Array Bool} {args : List V} {us : List Value} {v : V} (hr : RVl P σ w args us) (h : mlen P σ.st b ts args = some v) :
    b = .len ∧ ∃ u, (builtin b ts ty cs us.toArray).run P w = .ok (.value u) w ∧ RV P σ w v u := by
  unfold mlen at h
  split at h
  · rename_i t x hts
    have hts' : ts = #[t] := by rw [← Array.toArray_toList (xs := ts), hts]
    subst hts'
    simp only [RVl] at hr
    obtain ⟨u1, _, rfl, hx, rfl⟩ := hr
    refine ⟨rfl, ?_⟩
    have key : ∀ n : Nat, (Builtin.len_ #[t] ty #[u1]).run P w = .ok (goInt n) w → v = .sc (.int .i64 n) → (∃ u, (builtin .len #[t] ty cs [u1].toArray).run P w = .ok (.value u) w ∧ RV P σ w v u) := by
      intro n hn hv
      exact ⟨goInt n, by simp only [builtin]; exact run_v (α := Unit) hn, by subst hv; simp only [RV, goInt]⟩
    split at h
    · rename_i kt e hu
      cases h
      simp only [RV] at hx
      exact key 0 (by simp [Builtin.len_, Sem.run_bind, run_underlying hu, hx]) rfl
    · rename_i kt e id hu
      simp only [RV] at hx
      obtain ⟨hxe, _⟩ := hx
      split at h
      · rename_i es hes
        cases h
        have hro := g.1 _ _ hes
        simp only [RO] at hro
        obtain ⟨ens, clock, h1, h2, h3⟩ := hro
        have hl := h2.length
        rw [Array.length_toList] at hl
        exact key es.length (by simp [Builtin.len_, Sem.run_bind, run_underlying hu, hxe, run_getMap h1, hl]) rfl
      · cases h
    · cases h
  · cases h
end
end Go.M
