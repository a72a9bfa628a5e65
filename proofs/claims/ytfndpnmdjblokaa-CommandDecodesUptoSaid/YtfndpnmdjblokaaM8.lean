/- Operations that are no calls, the last of them, and all together. -/
import Derived.Test.YtfndpnmdjblokaaM7
set_option linter.unusedVariables false
set_option linter.unusedSimpArgs false
namespace Go.M
open Go Go.RowKit
section
variable {P : Program} {σ σ' : Sg} {w w' w1 : World} {L L' : Nat → Lb}
variable {ρ : Operand → V} {ρ' : Operand → Value} {st' : List Ob} {v : V} {dst : Option Tmp} {ty : TypeId} {pos : String} {after : Array Edge} {gd : Option (Nat × Bool)}

theorem y_move (g : Good P σ w) (hρ : ∀ x, RV P σ w (ρ x) (ρ' x)) {x : Operand} (h : aval P ρ σ.st ⟨dst, .move x, ty, pos, after, gd⟩ = some (v, st')) : YieldS P σ ρ' w ⟨dst, .move x, ty, pos, after, gd⟩ v st' := by
  simp only [aval] at h
  cases h
  exact Yield.same (u := ρ' x) g (by simp [execOp]) (hρ x)
theorem y_assign (g : Good P σ w) (hρ : ∀ x, RV P σ w (ρ x) (ρ' x)) {x : Operand} (h : aval P ρ σ.st ⟨dst, .assign x, ty, pos, after, gd⟩ = some (v, st')) : YieldS P σ ρ' w ⟨dst, .assign x, ty, pos, after, gd⟩ v st' := by
  simp only [aval] at h
  cases h
  exact Yield.same (u := ρ' x) g (by simp [execOp]) (hρ x)

theorem y_unOp (g : Good P σ w) (hρ : ∀ x, RV P σ w (ρ x) (ρ' x)) {op : UnOp} {t : TypeId} {x : Operand} (h : aval P ρ σ.st ⟨dst, .unOp op t x, ty, pos, after, gd⟩ = some (v, st')) : YieldS P σ ρ' w ⟨dst, .unOp op t x, ty, pos, after, gd⟩ v st' := by
  simp only [aval] at h
  split at h
  · rename_i a ha
    obtain ⟨u, hu, hh⟩ := Option.map_eq_some_iff.1 h
    cases hh
    have := pureRun_sound hu w
    rw [← toVal_sound ha (hρ x)] at this
    exact Yield.same g (by simp only [execOp]; exact run_v (α := Unit) this) (by simp only [RV])
  · cases h

theorem elems_sound {e : TypeId} {x : V} {u : Value} {xs : List V} {n : Nat} (hr : RV P σ w x u) (h : elems P σ.st e x = some (xs, n)) (hs : ∀ b, x ≠ .sc (.string b)) :
    ∃ A c us, u = .slice A n c ∧ n ≤ c ∧ RCl σ.L w xs us ∧ (∀ a, A = some a → CA w a us) ∧ (A = none → xs = [] ∧ n = 0 ∧ c = 0) := by
  cases x with
  | tsl xs' len nil full =>
    simp only [elems] at h
    cases h
    simp only [RV, RC] at hr
    obtain ⟨A, c, us, rfl, h1, _, _, h4, h5, h6, h7⟩ := hr
    refine ⟨A, c, us, rfl, h1, h6, fun a ha => (h7 a ha).1, fun ha => ?_⟩
    cases nil with
    | true => obtain ⟨_, h8, h9⟩ := h4 (by simp); exact ⟨h9, by omega, h8⟩
    | false => exact absurd ha (h5 (by simp))
  | sl id off len full =>
    simp only [elems] at h
    split at h
    · rename_i e' ys n' lo fz s hst hsz
      split at h
      · rename_i hc
        obtain ⟨rfl, hlo⟩ := hc
        cases h
        simp only [RV, RSl] at hr
        obtain ⟨e2, ys2, n2, lo2, fz2, s2, k1, k2, k3, ⟨a5, c5, k5, k6, _⟩, k4⟩ := hr
        rw [hst] at k1; cases k1
        rw [hsz] at k2; cases k2
        obtain ⟨b, c, C, rfl, hh, _⟩ := k4 hlo
        have h7 : n ≤ c := by cases k5; exact k6
        obtain ⟨e3, xs3, n3, lo3, fz3, s3, us, fr, q1, q2, q3, q4, q5, q5', q6, q7, q8, q9, q10⟩ := hh
        rw [hst] at q1; cases q1
        rw [hsz] at q2; cases q2
        have hd := RCl.drop (k := off * s) q8
        have hm : (off + n) * s = off * s + n * s := Nat.add_mul ..
        rw [List.drop_take, List.drop_take, hm, Nat.add_sub_cancel_left] at hd
        refine ⟨_, c, _, rfl, h7, hd, fun a ha j u hj => ?_, fun ha => by cases ha⟩
        cases ha
        rw [add_at]
        simp only [World.cell?, q6]
        rw [List.getElem?_take] at hj
        split at hj
        · rw [List.getElem?_drop] at hj
          simpa using hj
        · cases hj
      · cases h
    · cases h
  | sc v =>
    cases v <;> simp only [elems] at h <;> try cases h
    exact absurd rfl (hs _)
  | _ => simp [elems] at h

theorem allByte_sound : ∀ {xs : List V} {us : List Value} {bs : List UInt8}, RCl L w xs us → allByte xs = some bs → ∃ ns : List Int, us = ns.map (Value.int .u8) ∧ bs = ns.map fun n => UInt8.ofNat n.toNat
  | [], us, bs, hr, h => by
    simp only [RCl] at hr
    simp [allByte] at h
    exact ⟨[], by simp [hr], by simp [← h]⟩
  | x :: xs, us, bs, hr, h => by
    simp only [RCl] at hr
    obtain ⟨u, us', rfl, _, h1, h2⟩ := hr
    unfold allByte at h
    split at h
    · rename_i heq; cases heq
    rotate_left
    · cases h
    rename_i n xs' heq
    cases heq
    obtain ⟨bs', hb, rfl⟩ := Option.map_eq_some_iff.1 h
    obtain ⟨ns, h3, h4⟩ := allByte_sound h2 hb
    simp only [RC] at h1
    exact ⟨n :: ns, by simp [h1, h3], by simp [h4]⟩

theorem push_bytes : ∀ (ns : List Int) (s : ByteArray), ns.foldl (fun r n => r.push (UInt8.ofNat n.toNat)) s = ⟨(s.data.toList ++ ns.map fun n => UInt8.ofNat n.toNat).toArray⟩
  | [], s => by simp
  | n :: ns, s => by
    rw [List.foldl_cons, push_bytes ns]
    simp [ByteArray.push]

theorem y_convert (g : Good P σ w) (hρ : ∀ x, RV P σ w (ρ x) (ρ' x)) {s d : TypeId} {x : Operand} (h : aval P ρ σ.st ⟨dst, .convert s d x, ty, pos, after, gd⟩ = some (v, st')) : YieldS P σ ρ' w ⟨dst, .convert s d x, ty, pos, after, gd⟩ v st' := by
  simp only [aval, aconvert] at h
  split at h
  · rename_i a ha
    simp only [Option.map_map] at h
    obtain ⟨u, hu, hh⟩ := Option.map_eq_some_iff.1 h
    cases hh
    have := pureRun_sound hu w
    rw [← toVal_sound ha (hρ x)] at this
    exact Yield.same g (by simp only [execOp]; exact run_v (α := Unit) this) (by simp only [RV])
  · rename_i hnv
    split at h
    · rename_i e hs hd
      split at h
      · rename_i he
        split at h
        · rename_i xs n hel
          obtain ⟨v0, hv0, hh⟩ := Option.map_eq_some_iff.1 h
          cases hh
          split at hv0
          rotate_left
          · cases hv0
          rename_i hxl
          obtain ⟨bs, hb, rfl⟩ := Option.map_eq_some_iff.1 hv0
          obtain ⟨A, c, us, hu, hnc, hr, hca, hnone⟩ := elems_sound (P := P) (hρ x) hel (fun b hb => by rw [hb] at hnv; simp [toVal] at hnv)
          obtain ⟨ns, rfl, rfl⟩ := allByte_sound hr hb
          refine Yield.same (u := .string ⟨(ns.map fun n => UInt8.ofNat n.toNat).toArray⟩) g ?_ (by simp only [RV])
          simp only [execOp]
          refine run_v (α := Unit) ?_
          rw [hu, show (convert s d (.slice A n c)).run P w = (Conv.bytesToString (.slice A n c)).run P w by simp [convert, run_underlying hs, run_underlying hd, run_underlying he]]
          cases A with
          | none =>
            obtain ⟨h1, h2, h3⟩ := hnone rfl
            subst h1
            have := RCl.length hr
            simp at this
            subst this
            rfl
          | some a =>
            have hl := run_loadCells_list (P := P) w a _ (hca a rfl)
            have hlen : (ns.map (Value.int .u8)).length = n := by rw [RCl.length hr, hxl]
            rw [hlen] at hl
            rw [run_bytesToString w a n c ns hl, push_bytes]
            rfl
        · cases h
      · cases h
    · cases h

theorem y_makeFunc (g : Good P σ w) (hρ : ∀ x, RV P σ w (ρ x) (ρ' x)) {f : Fn} {first caps : Array Operand} (h : aval P ρ σ.st ⟨dst, .makeFunc f first caps, ty, pos, after, gd⟩ = some (v, st')) : YieldS P σ ρ' w ⟨dst, .makeFunc f first caps, ty, pos, after, gd⟩ v st' := by
  simp only [aval] at h
  split at h
  · rename_i h0
    cases h
    refine Yield.same (u := .func f #[] (caps.map ρ')) g ?_ ?_
    · have : first = #[] := Array.eq_empty_of_size_eq_zero h0
      subst this
      simp [execOp, Instr.makeFunc]
    · simp only [RV]
      refine ⟨caps.toList.map ρ', by rw [← Array.toList_map, Array.toArray_toList], ?_⟩
      generalize caps.toList = l
      induction l with
      | nil => simp [RVl]
      | cons x l ih => simp only [List.map_cons, RVl]; exact ⟨_, _, rfl, hρ x, ih⟩
  · cases h

theorem fieldOf_sound {t : TypeId} {i off s : Nat} {ft : TypeId} (h : fieldOf P t i = some (off, s, ft)) : ∃ fs f, P.underlying t = some (.struct fs) ∧ fs[i]? = some f ∧ f.offset = off ∧ f.type = ft ∧ szOf P ft = some s := by
  unfold fieldOf at h
  split at h
  · rename_i fs hu
    split at h
    · rename_i f hf
      obtain ⟨s', hs, hh⟩ := Option.map_eq_some_iff.1 h
      cases hh
      exact ⟨fs, f, hu, hf, rfl, rfl, hs⟩
    · cases h
  · cases h

theorem fieldAt_run {t : TypeId} {i off s : Nat} {ft : TypeId} (h : fieldOf P t i = some (off, s, ft)) (h0 : s ≠ 0) (a : Addr) : (Instr.fieldAt t (.pointer (some a)) i).run P w = .ok (.pointer (some (a.add off))) w := by
  obtain ⟨fs, f, h1, h2, rfl, rfl, h3⟩ := fieldOf_sound h
  simp [Instr.fieldAt, run_underlying h1, h2, Instr.sureAddr, fieldPlace, Sem.run_bind, szOf_run h3, h0]

theorem CA.drop {a : Addr} {us : List Value} {k : Nat} (h : CA w a us) : CA w (a.add k) (us.drop k) := fun j u hj => by
  rw [List.getElem?_drop] at hj
  rw [add_add]
  exact h _ _ hj

theorem y_fieldAddr (g : Good P σ w) (hρ : ∀ x, RV P σ w (ρ x) (ρ' x)) {t : TypeId} {x : Operand} {i : Nat} (h : aval P ρ σ.st ⟨dst, .fieldAddr t x i, ty, pos, after, gd⟩ = some (v, st')) : YieldS P σ ρ' w ⟨dst, .fieldAddr t x i, ty, pos, after, gd⟩ v st' := by
  have hx := hρ x
  simp only [aval] at h
  split at h
  · rename_i off s ft hf
    split at h
    · cases h
    · rename_i h0
      split at h
      · rename_i id o hxx
        cases h
        rw [hxx] at hx
        simp only [RV] at hx
        refine Yield.same (u := .pointer (some ⟨σ.φ id, o + off, none⟩)) g ?_ (by unfold RV; exact ⟨rfl, hx.2⟩)
        simp only [execOp]
        refine run_v (α := Unit) ?_
        rw [hx.1, fieldAt_run hf h0, add_at]
      · rename_i id o e hxx
        cases h
        rw [hxx] at hx
        simp only [RV] at hx
        obtain ⟨ty2, xs, n, lo, fz, k1, k2, ⟨a, ha⟩, k3⟩ := hx
        refine Yield.same (u := .pointer (some (a.add off))) g ?_ ?_
        · simp only [execOp]
          refine run_v (α := Unit) ?_
          rw [ha, fieldAt_run hf h0]
        · simp only [RV]
          refine ⟨ty2, xs, n, lo, fz, k1, k2, ⟨_, rfl⟩, fun hlo => ?_⟩
          obtain ⟨b, C, s', h1, h2, h3⟩ := k3 hlo
          rw [ha] at h1
          cases h1
          exact ⟨b, C, s', by rw [add_at], h2, h3⟩
      · rename_i xs hxx
        cases h
        rw [hxx] at hx
        simp only [RV] at hx
        obtain ⟨a, us, h1, h2, h3, h4⟩ := hx
        refine Yield.same (u := .pointer (some (a.add off))) g ?_ ?_
        · simp only [execOp]
          refine run_v (α := Unit) ?_
          rw [h1, fieldAt_run hf h0]
        · simp only [RV]
          exact ⟨_, us.drop off, rfl, RCl.drop h2, CA.drop h3, fun hn => by rw [add_block]; exact h4 (by rintro rfl; simp at hn)⟩
      · cases h
  · cases h

theorem y_field (g : Good P σ w) (hρ : ∀ x, RV P σ w (ρ x) (ρ' x)) {t : TypeId} {x : Operand} {i : Nat} (h : aval P ρ σ.st ⟨dst, .field t x i, ty, pos, after, gd⟩ = some (v, st')) : YieldS P σ ρ' w ⟨dst, .field t x i, ty, pos, after, gd⟩ v st' := by
  have hx := hρ x
  simp only [aval] at h
  split at h
  · rename_i off s ft hf
    split at h
    · rename_i xs hxx
      rw [hxx] at hx
      simp only [RV] at hx
      obtain ⟨us, hu, hr⟩ := hx
      obtain ⟨v0, hv, hh⟩ := Option.map_eq_some_iff.1 h
      cases hh
      obtain ⟨u, h1, h2⟩ := part_sound off hr hv
      obtain ⟨fs, f, k1, k2, rfl, rfl, _⟩ := fieldOf_sound hf
      refine Yield.same g ?_ h2
      simp only [execOp]
      refine run_v (α := Unit) ?_
      rw [hu]
      simp [Instr.field, Sem.run_bind, run_underlying k1, k2, asAgg, h1]
    · cases h
  · cases h

theorem y_extract (g : Good P σ w) (hρ : ∀ x, RV P σ w (ρ x) (ρ' x)) {x : Operand} {i : Nat} (h : aval P ρ σ.st ⟨dst, .extract x i, ty, pos, after, gd⟩ = some (v, st')) : YieldS P σ ρ' w ⟨dst, .extract x i, ty, pos, after, gd⟩ v st' := by
  have hx := hρ x
  simp only [aval] at h
  split at h
  · rename_i xs hxx
    rw [hxx] at hx
    simp only [RV] at hx
    obtain ⟨us, hu, hr⟩ := hx
    obtain ⟨v0, hv, hh⟩ := Option.map_eq_some_iff.1 h
    cases hh
    obtain ⟨u, h1, h2⟩ := RVl.get hr hv
    refine Yield.same g ?_ h2
    simp only [execOp]
    refine run_v (α := Unit) ?_
    rw [hu]
    simp [Instr.extract, h1]
  · cases h

theorem y_index (g : Good P σ w) (hρ : ∀ x, RV P σ w (ρ x) (ρ' x)) {t : TypeId} {x y : Operand} (h : aval P ρ σ.st ⟨dst, .index t x y, ty, pos, after, gd⟩ = some (v, st')) : YieldS P σ ρ' w ⟨dst, .index t x y, ty, pos, after, gd⟩ v st' := by
  have hx := hρ x
  simp only [aval] at h
  split at h
  · rename_i j hj
    obtain ⟨k, hk⟩ := asI_sound hj (hρ y)
    split at h
    · rename_i n e xs hu hxx
      rw [hxx] at hx
      simp only [RV] at hx
      obtain ⟨us, hus, hr⟩ := hx
      split at h
      · rename_i s hs
        split at h
        · rename_i hc
          obtain ⟨v0, hv, hh⟩ := Option.map_eq_some_iff.1 h
          cases hh
          obtain ⟨u, h1, h2⟩ := part_sound (j.toNat * s) hr hv
          refine Yield.same g ?_ h2
          simp only [execOp]
          refine run_v (α := Unit) ?_
          rw [hus, hk]
          simp [Instr.index, asIntOf, Sem.run_bind, run_underlying hu, hc, szOf_run hs, h1]
        · cases h
      · cases h
    · rename_i b hu hxx
      rw [hxx] at hx
      simp only [RV] at hx
      split at h
      · rename_i h0
        obtain ⟨c, hc, hh⟩ := Option.map_eq_some_iff.1 h
        cases hh
        refine Yield.same (u := .int .u8 c.toNat) g ?_ (by simp only [RV])
        simp only [execOp]
        refine run_v (α := Unit) ?_
        rw [hx, hk]
        have hlt : j.toNat < b.size := by
          have := (List.getElem?_eq_some_iff.1 hc).1
          rw [Array.length_toList] at this
          exact this
        have hb : b[j.toNat]? = some c := by
          rw [← hc]
          rw [Array.getElem?_toList]
          rfl
        simp [Instr.index, asIntOf, Sem.run_bind, run_underlying hu, h0, hb]
      · cases h
    · cases h
  · cases h

theorem y_indexAddr (g : Good P σ w) (hρ : ∀ x, RV P σ w (ρ x) (ρ' x)) {t : TypeId} {x y : Operand} (h : aval P ρ σ.st ⟨dst, .indexAddr t x y, ty, pos, after, gd⟩ = some (v, st')) : YieldS P σ ρ' w ⟨dst, .indexAddr t x y, ty, pos, after, gd⟩ v st' := by
  have hx := hρ x
  simp only [aval] at h
  split at h
  · rename_i j hj
    obtain ⟨k, hk⟩ := asI_sound hj (hρ y)
    split at h
    · rename_i n e id o hu hxx
      rw [hxx] at hx
      simp only [RV] at hx
      split at h
      · rename_i s hs
        split at h
        · rename_i hc
          cases h
          refine Yield.same (u := .pointer (some ⟨σ.φ id, o + j.toNat * s, none⟩)) g ?_ (by unfold RV; exact ⟨rfl, hx.2⟩)
          simp only [execOp]
          refine run_v (α := Unit) ?_
          rw [hx.1, hk]
          simp [Instr.indexAt, asIntOf, Sem.run_bind, run_underlying hu, hc, szOf_run hs, Instr.sureAddr, add_at]
        · cases h
      · cases h
    · rename_i e id off len full hu hxx
      rw [hxx] at hx
      simp only [RV, RSl] at hx
      split at h
      · rename_i e' xs n lo fz s hst hs
        split at h
        · rename_i hc
          obtain ⟨rfl, h0, h1, hlo⟩ := hc
          cases h
          obtain ⟨e2, xs2, n2, lo2, fz2, s2, k1, k2, k3, _, k4⟩ := hx
          rw [hst] at k1; cases k1
          rw [hs] at k2; cases k2
          obtain ⟨b, c, C, hu2, hh, _⟩ := k4 hlo
          refine Yield.same (u := .pointer (some ⟨b, (off + j.toNat) * s, none⟩)) g ?_ ?_
          · simp only [execOp]
            refine run_v (α := Unit) ?_
            rw [hu2, hk]
            simp [Instr.indexAt, asIntOf, Sem.run_bind, run_underlying hu, h0, h1, szOf_run hs, add_at, Nat.add_mul]
          · unfold RV
            exact ⟨e', xs, n, lo, fz, hst, k3, ⟨_, rfl⟩, fun _ => ⟨b, _, s, rfl, hs, hh⟩⟩
        · cases h
      · cases h
    · rename_i e xs len nil full hu hxx
      rw [hxx] at hx
      simp only [RV, RC] at hx
      split at h
      · rename_i s hs
        split at h
        · rename_i hc
          obtain ⟨h0, h1⟩ := hc
          cases h
          obtain ⟨A, c, us, hA, h2, _, _, h4, h5, h6, h7⟩ := hx
          cases nil with
          | true => obtain ⟨_, h8, _⟩ := h4 (by simp); exfalso; omega
          | false =>
            cases A with
            | none => exact absurd rfl (h5 (by simp))
            | some a =>
              obtain ⟨h8, h9⟩ := h7 a rfl
              refine Yield.same (u := .pointer (some (a.add (j.toNat * s)))) g ?_ ?_
              · simp only [execOp]
                refine run_v (α := Unit) ?_
                rw [hA, hk]
                simp [Instr.indexAt, asIntOf, Sem.run_bind, run_underlying hu, h0, h1, szOf_run hs]
              · unfold RV
                exact ⟨_, us.drop (j.toNat * s), rfl, RCl.drop h6, CA.drop h8, fun hn => by rw [add_block]; exact h9 (by rintro rfl; simp at hn)⟩
        · cases h
      · cases h
    · cases h
  · cases h

theorem abound_sound {x : Option Operand} {dflt most i : Nat} (hρ : ∀ x, RV P σ w (ρ x) (ρ' x)) (h : abound (x.map ρ) dflt most = some i) : (x = none ∧ i = dflt) ∨ ∃ o k, x = some o ∧ ρ' o = .int k i ∧ i ≤ most := by
  cases x with
  | none => simp [abound] at h; exact .inl ⟨rfl, h.symm⟩
  | some o =>
    simp only [abound, Option.map_some] at h
    split at h
    · rename_i j hj
      split at h
      · rename_i hc
        cases h
        obtain ⟨k, hk⟩ := asI_sound hj (hρ o)
        exact .inr ⟨o, k, rfl, by rw [hk]; congr; omega, by omega⟩
      · cases h
    · cases h

theorem sliceBound_run {i : Nat} {k : IntKind} {y : Nat} {c : BoundsCode} (h : i ≤ y) : (Instr.sliceBound (.int k i) y c).run P w = .ok i w := by
  simp [Instr.sliceBound, asIntOf, Sem.run_bind, h]

/-- The bounds of a cut, as the run finds them. -/
theorem bounds_run (hρ : ∀ x, RV P σ w (ρ x) (ρ' x)) {lo hi mx : Option Operand} {n cap h l m : Nat} {b : Bool} (hn : n ≤ cap) (h1 : abound (hi.map ρ) n n = some h) (h2 : abound (lo.map ρ) 0 h = some l) (h3 : abound (mx.map ρ) h n = some m) (hm : m = h) (hmx : mx ≠ none → hi ≠ none) :
    (Instr.sliceBounds b n cap (lo.map ρ') (hi.map ρ') (mx.map ρ')).run P w = .ok (l, h, if mx.isSome then h else cap) w ∧ l ≤ h ∧ h ≤ n := by
  subst hm
  have hl : l ≤ m := by rcases abound_sound hρ h2 with ⟨_, e⟩ | ⟨_, _, _, _, e⟩ <;> omega
  have hh : m ≤ n := by rcases abound_sound hρ h1 with ⟨_, e⟩ | ⟨_, _, _, _, e⟩ <;> omega
  refine ⟨?_, hl, hh⟩
  rcases abound_sound hρ h3 with ⟨rfl, _⟩ | ⟨o3, k3, rfl, e3, e3'⟩
  · rcases abound_sound hρ h1 with ⟨rfl, rfl⟩ | ⟨o1, k1, rfl, e1, _⟩
    · rcases abound_sound hρ h2 with ⟨rfl, rfl⟩ | ⟨o2, k2, rfl, e2, _⟩
      · simp [Instr.sliceBounds]
      · simp [Instr.sliceBounds, e2, Sem.run_bind, sliceBound_run hl]
    · have hmc : m ≤ cap := by omega
      rcases abound_sound hρ h2 with ⟨rfl, rfl⟩ | ⟨o2, k2, rfl, e2, _⟩
      · simp [Instr.sliceBounds, e1, Sem.run_bind, sliceBound_run hmc]
      · simp [Instr.sliceBounds, e1, e2, Sem.run_bind, sliceBound_run hmc, sliceBound_run hl]
  · have hmc : m ≤ cap := by omega
    rcases abound_sound hρ h1 with ⟨rfl, rfl⟩ | ⟨o1, k1, rfl, e1, _⟩
    · exact absurd rfl (hmx (by simp))
    · rcases abound_sound hρ h2 with ⟨rfl, rfl⟩ | ⟨o2, k2, rfl, e2, _⟩
      · simp [Instr.sliceBounds, e1, e3, Sem.run_bind, sliceBound_run hmc, sliceBound_run (Nat.le_refl m)]
      · simp [Instr.sliceBounds, e1, e2, e3, Sem.run_bind, sliceBound_run hmc, sliceBound_run (Nat.le_refl m), sliceBound_run hl]
end
end Go.M
