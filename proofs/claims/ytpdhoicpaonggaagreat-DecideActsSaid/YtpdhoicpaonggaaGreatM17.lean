/- What may grow behind what is looked at; arguments' lists, read one by one. -/
import Derived.Test.YtpdhoicpaonggaaGreatM16
set_option linter.unusedVariables false
set_option linter.unusedSimpArgs false
namespace Go.M
open Go Go.RowKit
section
variable {P : Program} {st st' st'' : List Ob} {e : TypeId} {v w x : V} {xs ys : List V} {n k : Nat}

def Gro (st st' : List Ob) : Prop := ∀ (i : Nat) (o : Ob), st[i]? = some o → st'[i]? = some o ∨ ∃ e xs n lo fz ys n' fz', o = .row e xs n lo fz ∧ st'[i]? = some (.row e (xs ++ ys) n' lo fz')
theorem Grw.gro (h : Grw st st') : Gro st st' := fun i o hi => .inl (h i o hi)
theorem Gro.refl (st : List Ob) : Gro st st := fun i o hi => .inl hi
theorem Gro.trans (h : Gro st st') (k : Gro st' st'') : Gro st st'' := fun i o hi => by
  rcases h i o hi with h1 | ⟨e, xs, n, lo, fz, ys, n', fz', rfl, h1⟩
  · exact k i o h1
  · rcases k i _ h1 with h2 | ⟨e2, xs2, n2, lo2, fz2, ys2, n2', fz2', h3, h2⟩
    · exact .inr ⟨e, xs, n, lo, fz, ys, n', fz', rfl, h2⟩
    · cases h3
      exact .inr ⟨e, xs, n, lo, fz, ys ++ ys2, n2', fz2', rfl, by rw [← List.append_assoc]; exact h2⟩
theorem Gro.cells (h : Gro st st') {i : Nat} {cs : List V} (hi : st[i]? = some (.cells cs)) : st'[i]? = some (.cells cs) := by
  rcases h i _ hi with h1 | ⟨e, xs, n, lo, fz, ys, n', fz', h2, h1⟩
  · exact h1
  · cases h2
theorem Gro.le (h : Gro st st') : st.length ≤ st'.length := by
  cases st with
  | nil => simp
  | cons x a =>
    rcases h (x :: a).length.pred (((x :: a)[(x :: a).length.pred]'(by simp))) (List.getElem?_eq_getElem (by simp)) with h1 | ⟨_, _, _, _, _, _, _, _, _, h1⟩ <;>
    · have := (List.getElem?_eq_some_iff.1 h1).1
      simp at this ⊢
      omega
theorem Rd.gro (h : Rd P st e v xs n) (k : Gro st st') : Rd P st' e v xs n := by
  rcases h.cases with ⟨nil, full, rfl⟩ | ⟨id, off, full, gg, ys, m, lo, fz, s, rfl, h1, h2, h3, hxs⟩
  · exact ⟨rfl, h.2⟩
  · refine ⟨?_, h.2⟩
    rcases k _ _ h1 with h4 | ⟨e', xs', n', lo', fz', ys', n'', fz'', h5, h4⟩
    · simp only [elems, h4, h2]
      rw [if_pos ⟨trivial, h3⟩, hxs]
    · cases h5
      simp only [elems, h4, h2]
      rw [if_pos ⟨trivial, h3⟩, hxs]
      have hl := h.2.2 s h2
      rw [hxs, List.length_take, List.length_drop] at hl
      by_cases hn : n * s = 0
      · rw [hn]; simp
      · rw [List.drop_append_of_le_length (by omega), List.take_append_of_le_length (by rw [List.length_drop]; omega)]
end

theorem get_set {st : List Ob} {i : Nat} {o : Ob} (h : st[i]? = some o) (x : Ob) : (st.set i x)[i]? = some x := List.getElem?_set_self (List.getElem?_eq_some_iff.1 h).1
def Trn (st : List Ob) (i : Nat) (cs : List V) (s : List Ob) : Prop := s[i]? = some (.cells cs) ∧ ∀ j o, j ≠ i → st[j]? = some o → s[j]? = some o
section
variable {P : Program} {st s s' : List Ob} {i : Nat} {c c' c0 : List V} {e t : TypeId} {v : V} {xs : List V} {n : Nat}
theorem Trn.set (h : st[i]? = some (.cells c0)) : Trn st i c (st.set i (.cells c)) := ⟨get_set h _, fun j o hj ho => by rw [List.getElem?_set_ne (Ne.symm hj)]; exact ho⟩
theorem Trn.same (h : st[i]? = some (.cells c)) : Trn st i c st := ⟨h, fun _ _ _ h => h⟩
theorem Trn.trans (h : Trn st i c s) (k : Trn s i c' s') : Trn st i c' s' := ⟨k.1, fun j o hj ho => k.2 j o hj (h.2 j o hj ho)⟩
theorem Trn.grw (h : Trn st i c s) (k : Grw s s') : Trn st i c s' := ⟨k _ _ h.1, fun j o hj ho => k _ _ (h.2 j o hj ho)⟩
theorem Grw.trn (h : Grw st s) (k : Trn s i c s') : Trn st i c s' := ⟨k.1, fun j o hj ho => k.2 j o hj (h _ _ ho)⟩
theorem Rd.trn (h : Rd P st e v xs n) (h0 : st[i]? = some (.cells c0)) (k : Trn st i c s) : Rd P s e v xs n := by
  rcases h.cases with ⟨nil, full, rfl⟩ | ⟨id, off, full, gg, ys, m, lo, fz, s', rfl, h1, h2, h3, hxs⟩
  · exact ⟨rfl, h.2⟩
  · refine ⟨?_, h.2⟩
    have hne : id ≠ i := fun he => by subst he; rw [h0] at h1; cases h1
    simp only [elems, k.2 _ _ hne h1, h2]
    rw [if_pos ⟨trivial, h3⟩, hxs]

def cutV (st : List Ob) (v : V) : Prop := (∃ xs n nil f, v = .tsl xs n nil f) ∨ ∃ id off n g, v = .sl id off n false g
theorem cutV.gro {st s : List Ob} {v : V} (h : cutV st v) (k : Gro st s) : cutV s v := h
theorem cutV.trn {st s : List Ob} {v : V} {i : Nat} {c c0 : List V} (h : cutV st v) (h0 : st[i]? = some (.cells c0)) (k : Trn st i c s) : cutV s v := h
def Cut (P : Program) (st : List Ob) (e : TypeId) (v : V) (xs : List V) (n : Nat) : Prop := Rd P st e v xs n ∧ cutV st v ∧ (nilV v = true → n = 0)
theorem Cut.grw (h : Cut P st e v xs n) (k : Grw st s) : Cut P s e v xs n := ⟨h.1.grw k, h.2.1.gro k.gro, h.2.2⟩
theorem Cut.gro (h : Cut P st e v xs n) (k : Gro st s) : Cut P s e v xs n := ⟨h.1.gro k, h.2.1.gro k, h.2.2⟩
theorem Cut.trn (h : Cut P st e v xs n) (h0 : st[i]? = some (.cells c0)) (k : Trn st i c s) : Cut P s e v xs n := ⟨h.1.trn h0 k, h.2.1.trn h0 k, h.2.2⟩
theorem abound_none (d m : Nat) : abound none d m = some d := rfl
theorem slice_mid (h : Cut P st e v xs n) (ht : P.underlying t = some (.slice e)) {s : Nat} (hs : szOf P e = some s) {lo hi : Nat} (h1 : lo ≤ hi) (h2 : hi ≤ n) :
    ∃ v', aslice P st t v (some (.sc (.int .i64 lo))) (some (.sc (.int .i64 hi))) none = some v' ∧ Cut P st e v' ((xs.drop (lo * s)).take ((hi - lo) * s)) (hi - lo) := by
  obtain ⟨h, hc, hn⟩ := h
  have hlen := h.2.2 s hs
  have hb : ((xs.drop (lo * s)).take ((hi - lo) * s)).length = (hi - lo) * s := by
    rw [List.length_take, List.length_drop, hlen, Nat.min_eq_left]
    rw [Nat.sub_mul]
    have := Nat.mul_le_mul_right s h2
    omega
  have hr : ∀ nil full, (nil = true → hi - lo = 0) → Rd P st e (.tsl ((xs.drop (lo * s)).take ((hi - lo) * s)) (hi - lo) nil full) ((xs.drop (lo * s)).take ((hi - lo) * s)) (hi - lo) := fun nil full hnn => ⟨rfl, ⟨fun b hb => (by cases hb), hnn⟩, fun s' hs' => by rw [hs] at hs'; cases hs'; exact hb⟩
  rcases h.cases with ⟨nil, full, rfl⟩ | ⟨id, off, full, gg, ys, m, l0, fz, s', rfl, k1, k2, k3, hxs⟩
  · simp only [aslice, ht, hs, abound_nat _ _ _ _ h2, abound_nat _ _ _ _ h1, abound_none, if_true]
    refine ⟨_, rfl, ?_⟩
    by_cases he : hi = lo
    · subst he
      simp only [if_true]
      have := hr nil (nil || Option.isSome (none : Option V) || full && hi == n) (fun _ => Nat.sub_self _)
      rw [Nat.sub_self, Nat.zero_mul, List.take_zero] at this ⊢
      exact ⟨this, .inl ⟨_, _, _, _, rfl⟩, fun _ => rfl⟩
    · rw [if_neg he]
      exact ⟨hr _ _ (fun hn' => by have := hn hn'; omega), .inl ⟨_, _, _, _, rfl⟩, fun hn' => by have := hn hn'; omega⟩
  · rw [hs] at k2; cases k2
    obtain rfl : full = false := by
      rcases hc with ⟨_, _, _, _, hc⟩ | ⟨id', off', n', g', hc⟩
      · cases hc
      · cases hc; rfl
    simp only [aslice, ht, k1, hs, abound_nat _ _ _ _ h2, abound_nat _ _ _ _ h1, abound_none, if_true]
    by_cases he : hi = lo
    · subst he
      simp only [if_true]
      refine ⟨_, rfl, ?_⟩
      have := hr false (Option.isSome (none : Option V) || false && hi == n) (fun hh => by cases hh)
      rw [Nat.sub_self, Nat.zero_mul, List.take_zero] at this ⊢
      exact ⟨this, .inl ⟨_, _, _, _, rfl⟩, fun _ => rfl⟩
    · rw [if_neg he]
      simp only [Bool.false_eq_true, false_and, if_false, Option.isSome_none, Bool.false_or, Bool.false_and]
      refine ⟨_, rfl, ⟨?_, ⟨fun b hb => (by cases hb), fun hh => by cases hh⟩, fun s' hs' => by rw [hs] at hs'; cases hs'; exact hb⟩, .inr ⟨_, _, _, _, rfl⟩, fun hh => by cases hh⟩
      simp only [elems, k1, hs]
      rw [if_pos ⟨trivial, k3.1, by omega⟩, hxs, List.drop_take, List.drop_drop, List.take_take, Nat.min_eq_left (by rw [Nat.sub_mul]; have := Nat.mul_le_mul_right s h2; omega), Nat.add_mul]
theorem slice_end (h : Cut P st e v xs n) (ht : P.underlying t = some (.slice e)) {s : Nat} (hs : szOf P e = some s) {lo : Nat} (h1 : lo ≤ n) :
    ∃ v', aslice P st t v (some (.sc (.int .i64 lo))) none none = some v' ∧ Cut P st e v' (xs.drop (lo * s)) (n - lo) := by
  obtain ⟨v', k1, k2⟩ := slice_mid h ht hs h1 (Nat.le_refl n)
  have hlen := h.1.2.2 s hs
  rw [List.take_of_length_le (by rw [List.length_drop, hlen, Nat.sub_mul]; omega)] at k2
  refine ⟨v', ?_, k2⟩
  rw [← k1]
  rcases h.1.cases with ⟨nil, full, rfl⟩ | ⟨id, off, full, gg, ys, m, l0, fz, s', rfl, _, _, _, _⟩
  · simp only [aslice, abound_nat _ _ _ _ (Nat.le_refl n)]; rfl
  · simp only [aslice, abound_nat _ _ _ _ (Nat.le_refl n)]; rfl
theorem abin_nileq (h : Rd P st e v xs n) (ht : P.underlying t = some (.slice e)) (x y : Operand) (xs' : List V) (n' : Nat) (f : Bool) : abin P .eql t x y v (.tsl xs' n' true f) = some (.sc (.bool (nilV v))) := by
  rcases h.cases with ⟨nil, full, rfl⟩ | ⟨id, off, full, gg, ys, m, l0, fz, s', rfl, _, _, _, _⟩ <;> simp [abin, toVal, eqNil, ht, sortV, sortT, nilV]
end

theorem rng1 : List.range 1 = [0] := rfl
theorem rng2 : List.range 2 = [0, 1] := rfl
theorem rng3 : List.range 3 = [0, 1, 2] := rfl
theorem rng4 : List.range 4 = [0, 1, 2, 3] := rfl
theorem rng5 : List.range 5 = [0, 1, 2, 3, 4] := rfl
theorem rng6 : List.range 6 = [0, 1, 2, 3, 4, 5] := rfl
theorem rng7 : List.range 7 = [0, 1, 2, 3, 4, 5, 6] := rfl
theorem rng8 : List.range 8 = [0, 1, 2, 3, 4, 5, 6, 7] := rfl
theorem grw_self (s : List Ob) : Grw s s := .refl s
theorem grw_push (s X : List Ob) : Grw s (s ++ X) := .push s X
def wantB (v : V) (w : Bool) : Option Bool := match v with
  | .sc (.bool b) => some (b == w)
  | .sc (.tuple _) => some false
  | _ => none
section
variable {P : Program} {ρ : Operand → V} {st : List Ob} {dst : Option Tmp} {ty : TypeId} {pos : String} {after : Array Edge} {gd : Option (Nat × Bool)}
theorem av_move (x : Operand) : aval P ρ st ({ dst := dst, op := .move x, type := ty, pos := pos, after := after, guard := gd } : Oper) = some (ρ x, st) := id rfl
theorem av_assign (x : Operand) : aval P ρ st ({ dst := dst, op := .assign x, type := ty, pos := pos, after := after, guard := gd } : Oper) = some (ρ x, st) := id rfl
theorem av_bin (op : BinOp) (t : TypeId) (x y : Operand) (t2 : TypeId) : aval P ρ st ({ dst := dst, op := .binOp op t x y t2, type := ty, pos := pos, after := after, guard := gd } : Oper) = (abin P op t x y (ρ x) (ρ y)).map (·, st) := id rfl
theorem av_conv (s d : TypeId) (x : Operand) : aval P ρ st ({ dst := dst, op := .convert s d x, type := ty, pos := pos, after := after, guard := gd } : Oper) = (aconvert P st s d (ρ x)).map (·, st) := id rfl
theorem av_un (op : UnOp) (t : TypeId) (x : Operand) : aval P ρ st ({ dst := dst, op := .unOp op t x, type := ty, pos := pos, after := after, guard := gd } : Oper) = match toVal (ρ x) with
    | some a => (pureRun P (Op.unary op a)).map fun v => (.sc v, st)
    | none => none := id rfl
theorem av_pick (c a b : Operand) : aval P ρ st ({ dst := dst, op := .pick c a b, type := ty, pos := pos, after := after, guard := gd } : Oper) = match ρ c with
    | .sc (.bool t) => some (if t then ρ a else ρ b, st)
    | _ => none := id rfl
theorem av_ext (x : Operand) (i : Nat) : aval P ρ st ({ dst := dst, op := .extract x i, type := ty, pos := pos, after := after, guard := gd } : Oper) = match ρ x with
    | .tup xs => (xs[i]?).map (·, st)
    | _ => none := id rfl
theorem av_nil (x : Operand) : aval P ρ st ({ dst := dst, op := .nilCheck x, type := ty, pos := pos, after := after, guard := gd } : Oper) = match ρ x with
    | .ref id off => some (.ref id off, st)
    | .rref id off e => some (.rref id off e, st)
    | .tref xs => some (.tref xs, st)
    | .fn f cs => match f with
      | .func g => some (.fn (.func g) cs, st)
      | _ => none
    | _ => none := id rfl
theorem av_alloc (t : TypeId) : aval P ρ st ({ dst := dst, op := .alloc t, type := ty, pos := pos, after := after, guard := gd } : Oper) = match zeroOf P t with
    | some z => if z.cells.toList.all Value.oneCell' then some (.ref st.length 0, st ++ [.cells (z.cells.toList.map ofVal)]) else none
    | none => none := id rfl
theorem av_box (t : TypeId) (x : Operand) : aval P ρ st ({ dst := dst, op := .box t x, type := ty, pos := pos, after := after, guard := gd } : Oper) = if (cellsV (ρ x)).all one then some (.ref st.length 0, st ++ [.cells (cellsV (ρ x))]) else none := id rfl
theorem av_build (t : TypeId) (ps : Array (Nat × Operand)) : aval P ρ st ({ dst := dst, op := .build t ps, type := ty, pos := pos, after := after, guard := gd } : Oper) = match zeroOf P t, places P t with
    | some z, some pl => match afill pl (z.cells.toList.map ofVal) (ps.toList.map fun (i, x) => (i, ρ x)) with
      | some cs => some (.agg cs, st)
      | none => none
    | _, _ => none := id rfl
def asto (P : Program) (st : List Ob) (t : TypeId) (a x : V) : Option (V × List Ob) := match a with
    | .ref id off => match st[id]? with
      | some (.cells xs) => if some (cellsV x).length = szOf P t ∧ off + (cellsV x).length ≤ xs.length ∧ (cellsV x).all one = true then some (.sc undef, st.set id (.cells (splice xs (cellsV x) off))) else none
      | _ => none
    | .rref id off e => match st[id]? with
      | some (.row ty xs n _ fz) => if some (cellsV x).length = szOf P t ∧ off + (cellsV x).length ≤ xs.length ∧ e = n ∧ fz = false ∧ (cellsV x).all one = true ∧ closedL (cellsV x) = true then
          some (.sc undef, st.set id (.row ty (splice xs (cellsV x) off) n n fz)) else none
      | _ => none
    | _ => none
theorem av_store (t : TypeId) (a x : Operand) : aval P ρ st ({ dst := dst, op := .store t a x, type := ty, pos := pos, after := after, guard := gd } : Oper) = asto P st t (ρ a) (ρ x) := id rfl
theorem asto_ref (t : TypeId) (id off : Nat) (x : V) : asto P st t (.ref id off) x = match st[id]? with
      | some (.cells xs) => if some (cellsV x).length = szOf P t ∧ off + (cellsV x).length ≤ xs.length ∧ (cellsV x).all one = true then some (.sc undef, st.set id (.cells (splice xs (cellsV x) off))) else none
      | _ => none := by simp only [asto]
theorem asto_rref (t : TypeId) (id off e : Nat) (x : V) : asto P st t (.rref id off e) x = match st[id]? with
      | some (.row ty xs n _ fz) => if some (cellsV x).length = szOf P t ∧ off + (cellsV x).length ≤ xs.length ∧ e = n ∧ fz = false ∧ (cellsV x).all one = true ∧ closedL (cellsV x) = true then
          some (.sc undef, st.set id (.row ty (splice xs (cellsV x) off) n n fz)) else none
      | _ => none := by simp only [asto]
theorem av_field (t : TypeId) (x : Operand) (i : Nat) : aval P ρ st ({ dst := dst, op := .field t x i, type := ty, pos := pos, after := after, guard := gd } : Oper) = match fieldOf P t i with
    | some (off, s, ft) => match ρ x with
      | .agg xs => (aload P ft (xs.drop off)).map (·, st)
      | _ => none
    | none => none := id rfl
theorem av_slice (t : TypeId) (x : Operand) (lo hi mx : Option Operand) : aval P ρ st ({ dst := dst, op := .slice t x lo hi mx, type := ty, pos := pos, after := after, guard := gd } : Oper) = if mx.isSome = true ∧ hi.isSome = false then none else (aslice P st t (ρ x) (lo.map ρ) (hi.map ρ) (mx.map ρ)).map (·, st) := id rfl
theorem av_makeFunc (f : Fn) (a b : Array Operand) : aval P ρ st ({ dst := dst, op := .makeFunc f a b, type := ty, pos := pos, after := after, guard := gd } : Oper) = if a.size = 0 then some (.fn f (b.toList.map ρ), st) else none := id rfl
theorem av_index (t : TypeId) (x i : Operand) : aval P ρ st ({ dst := dst, op := .index t x i, type := ty, pos := pos, after := after, guard := gd } : Oper) = match asI (ρ i) with
    | some j => match P.underlying t, ρ x with
      | some (.array n e), .agg xs => match szOf P e with
        | some s => if 0 ≤ j ∧ j < n then (aload P e (xs.drop (j.toNat * s))).map (·, st) else none
        | none => none
      | some .string, .sc (.string b) => if 0 ≤ j then (b.data.toList[j.toNat]?).map fun c => (.sc (.int .u8 c.toNat), st) else none
      | _, _ => none
    | none => none := id rfl
theorem qop_bi (b : Builtin) (a : Array Operand) (ts : Array TypeId) (t : List V) : qop P ({ dst := dst, op := .call { callee := .builtin b, args := a, argTypes := ts }, type := ty, pos := pos, after := after, guard := gd } : Oper) t st = (abuiltin P st b ts (a.toList.map (aev t))).map (·.1) := id rfl
theorem qop_op (op : Op) (t : List V) (h : noCall op = true) : qop P ({ dst := dst, op := op, type := ty, pos := pos, after := after, guard := gd } : Oper) t st = (aval P (aev t) st ({ dst := dst, op := op, type := ty, pos := pos, after := after, guard := gd } : Oper)).map (·.1) := by
  unfold qop
  split
  · rename_i c hc; simp only at hc; rw [hc] at h; cases h
  · rfl
theorem aob_alloc (k : Nat) (t : TypeId) : aobj P ρ k ({ dst := dst, op := .alloc t, type := ty, pos := pos, after := after, guard := gd } : Oper) = match zeroOf P t with
    | some z => if z.cells.toList.all Value.oneCell' then some (.ref k 0, .cells (z.cells.toList.map ofVal)) else none
    | none => none := id rfl
theorem aob_makeMap (k : Nat) (t : TypeId) : aobj P ρ k ({ dst := dst, op := .makeMap t none, type := ty, pos := pos, after := after, guard := gd } : Oper) = some (.map k, .map []) := id rfl
theorem aob_box (k : Nat) (t : TypeId) (x : Operand) : aobj P ρ k ({ dst := dst, op := .box t x, type := ty, pos := pos, after := after, guard := gd } : Oper) = if (cellsV (ρ x)).all one then some (.ref k 0, .cells (cellsV (ρ x))) else none := id rfl
theorem aw_none (ops : Array Oper) (t : List V) (op : Op) : awanted ops t ({ dst := dst, op := op, type := ty, pos := pos, after := after, guard := none } : Oper) = some true := id rfl
theorem aw_some (ops : Array Oper) (t : List V) (op : Op) (j : Nat) (w : Bool) : awanted ops t ({ dst := dst, op := op, type := ty, pos := pos, after := after, guard := some (j, w) } : Oper) = match (ops[j]?).bind (·.dst) with
    | some d => wantB (t.getD d .dead) w
    | none => none := id rfl
theorem wantB_bool (b w : Bool) : wantB (.sc (.bool b)) w = some (b == w) := id rfl
theorem wantB_undef (w : Bool) : wantB (.sc undef) w = some false := id rfl
section
variable {t : TypeId}
theorem abin_sc (op : BinOp) (ox oy : Operand) (a b : Value) : abin P op t ox oy (.sc a) (.sc b) = (pureRun P (do eqGuard op t ox oy a b; binOp op t a b)).map .sc := id rfl
theorem abin_ref (op : BinOp) (ox oy : Operand) (i o : Nat) (y : V) : abin P op t ox oy (.ref i o) y = match op, eqNil P t (.ref i o) y with
    | .eql, some b => some (.sc (.bool b))
    | .neq, some b => some (.sc (.bool !b))
    | _, _ => none := id rfl
theorem abin_rref (op : BinOp) (ox oy : Operand) (i o e : Nat) (y : V) : abin P op t ox oy (.rref i o e) y = match op, eqNil P t (.rref i o e) y with
    | .eql, some b => some (.sc (.bool b))
    | .neq, some b => some (.sc (.bool !b))
    | _, _ => none := id rfl
theorem abin_tref (op : BinOp) (ox oy : Operand) (xs : List V) (y : V) : abin P op t ox oy (.tref xs) y = match op, eqNil P t (.tref xs) y with
    | .eql, some b => some (.sc (.bool b))
    | .neq, some b => some (.sc (.bool !b))
    | _, _ => none := id rfl
theorem abin_tsl (op : BinOp) (ox oy : Operand) (xs : List V) (n : Nat) (nil full : Bool) (y : V) : abin P op t ox oy (.tsl xs n nil full) y = match op, eqNil P t (.tsl xs n nil full) y with
    | .eql, some b => some (.sc (.bool b))
    | .neq, some b => some (.sc (.bool !b))
    | _, _ => none := id rfl
theorem abin_sl (op : BinOp) (ox oy : Operand) (i o n : Nat) (full : Bool) (g : Nat) (y : V) : abin P op t ox oy (.sl i o n full g) y = match op, eqNil P t (.sl i o n full g) y with
    | .eql, some b => some (.sc (.bool b))
    | .neq, some b => some (.sc (.bool !b))
    | _, _ => none := id rfl
theorem abin_map (op : BinOp) (ox oy : Operand) (i : Nat) (y : V) : abin P op t ox oy (.map i) y = match op, eqNil P t (.map i) y with
    | .eql, some b => some (.sc (.bool b))
    | .neq, some b => some (.sc (.bool !b))
    | _, _ => none := id rfl
theorem abin_fn (op : BinOp) (ox oy : Operand) (f : Fn) (c : List V) (y : V) : abin P op t ox oy (.fn f c) y = match op, eqNil P t (.fn f c) y with
    | .eql, some b => some (.sc (.bool b))
    | .neq, some b => some (.sc (.bool !b))
    | _, _ => none := id rfl
theorem abin_agg (op : BinOp) (ox oy : Operand) (xs ys : List V) : abin P op t ox oy (.agg xs) (.agg ys) = match toVal (.agg xs), toVal (.agg ys) with
    | some a, some b => (pureRun P (do eqGuard op t ox oy a b; binOp op t a b)).map .sc
    | _, _ => match op, eqNil P t (.agg xs) (.agg ys) with
      | .eql, some b => some (.sc (.bool b))
      | .neq, some b => some (.sc (.bool !b))
      | _, _ => none := id rfl
end
theorem nilV_tsl (xs : List V) (n : Nat) (nil full : Bool) : nilV (.tsl xs n nil full) = nil := id rfl
theorem sortV_tsl (xs : List V) (n : Nat) (nil full : Bool) : sortV (.tsl xs n nil full) = 1 := id rfl
theorem nilV_sl (i o n : Nat) (full : Bool) (g : Nat) : nilV (.sl i o n full g) = false := id rfl
theorem sortV_sl (i o n : Nat) (full : Bool) (g : Nat) : sortV (.sl i o n full g) = 1 := id rfl
theorem nilV_ref (i o : Nat) : nilV (.ref i o) = false := id rfl
theorem sortV_ref (i o : Nat) : sortV (.ref i o) = 2 := id rfl
theorem nilV_rref (i o e : Nat) : nilV (.rref i o e) = false := id rfl
theorem sortV_rref (i o e : Nat) : sortV (.rref i o e) = 2 := id rfl
theorem nilV_tref (xs : List V) : nilV (.tref xs) = false := id rfl
theorem sortV_tref (xs : List V) : sortV (.tref xs) = 2 := id rfl
theorem nilV_map (i : Nat) : nilV (.map i) = false := id rfl
theorem sortV_map (i : Nat) : sortV (.map i) = 3 := id rfl
theorem nilV_fn (f : Fn) (c : List V) : nilV (.fn f c) = false := id rfl
theorem sortV_fn (f : Fn) (c : List V) : sortV (.fn f c) = 4 := id rfl
theorem nilV_nilp  : nilV (.sc (.pointer none)) = true := id rfl
theorem sortV_nilp  : sortV (.sc (.pointer none)) = 2 := id rfl
theorem nilV_nilm  : nilV (.sc (.map none)) = true := id rfl
theorem sortV_nilm  : sortV (.sc (.map none)) = 3 := id rfl
theorem nilV_nilf  : nilV (.sc .nilFunc) = true := id rfl
theorem sortV_nilf  : sortV (.sc .nilFunc) = 4 := id rfl
theorem cellsV_sc (v : Value) : cellsV (.sc v) = [.sc v] := id rfl
theorem one_sc (v : Value) : one (.sc v) = v.oneCell' := id rfl
theorem closed_sc (v : Value) : closed (.sc v) = true := by simp only [closed]
theorem toVal_sc (v : Value) : toVal (.sc v) = some v := id rfl
theorem cellsV_tsl (xs : List V) (n : Nat) (nil full : Bool) : cellsV (.tsl xs n nil full) = [.tsl xs n nil full] := id rfl
theorem one_tsl (xs : List V) (n : Nat) (nil full : Bool) : one (.tsl xs n nil full) = true := id rfl
theorem closed_tsl (xs : List V) (n : Nat) (nil full : Bool) : closed (.tsl xs n nil full) = closedL xs := by simp only [closed]
theorem toVal_tsl (xs : List V) (n : Nat) (nil full : Bool) : toVal (.tsl xs n nil full) = none := id rfl
theorem cellsV_sl (i o n : Nat) (full : Bool) (g : Nat) : cellsV (.sl i o n full g) = [.sl i o n full g] := id rfl
theorem one_sl (i o n : Nat) (full : Bool) (g : Nat) : one (.sl i o n full g) = true := id rfl
theorem closed_sl (i o n : Nat) (full : Bool) (g : Nat) : closed (.sl i o n full g) = false := by simp only [closed]
theorem toVal_sl (i o n : Nat) (full : Bool) (g : Nat) : toVal (.sl i o n full g) = none := id rfl
theorem cellsV_ref (i o : Nat) : cellsV (.ref i o) = [.ref i o] := id rfl
theorem one_ref (i o : Nat) : one (.ref i o) = true := id rfl
theorem closed_ref (i o : Nat) : closed (.ref i o) = false := by simp only [closed]
theorem toVal_ref (i o : Nat) : toVal (.ref i o) = none := id rfl
theorem cellsV_rref (i o e : Nat) : cellsV (.rref i o e) = [.rref i o e] := id rfl
theorem one_rref (i o e : Nat) : one (.rref i o e) = true := id rfl
theorem closed_rref (i o e : Nat) : closed (.rref i o e) = false := by simp only [closed]
theorem toVal_rref (i o e : Nat) : toVal (.rref i o e) = none := id rfl
theorem cellsV_tref (xs : List V) : cellsV (.tref xs) = [.tref xs] := id rfl
theorem one_tref (xs : List V) : one (.tref xs) = true := id rfl
theorem closed_tref (xs : List V) : closed (.tref xs) = false := by simp only [closed]
theorem toVal_tref (xs : List V) : toVal (.tref xs) = none := id rfl
theorem cellsV_map (i : Nat) : cellsV (.map i) = [.map i] := id rfl
theorem one_map (i : Nat) : one (.map i) = true := id rfl
theorem closed_map (i : Nat) : closed (.map i) = false := by simp only [closed]
theorem toVal_map (i : Nat) : toVal (.map i) = none := id rfl
theorem cellsV_fn (f : Fn) (c : List V) : cellsV (.fn f c) = [.fn f c] := id rfl
theorem one_fn (f : Fn) (c : List V) : one (.fn f c) = true := id rfl
theorem closed_fn (f : Fn) (c : List V) : closed (.fn f c) = false := by simp only [closed]
theorem toVal_fn (f : Fn) (c : List V) : toVal (.fn f c) = none := id rfl
theorem cellsV_agg (xs : List V) : cellsV (.agg xs) = xs := id rfl
theorem one_agg (xs : List V) : one (.agg xs) = false := id rfl
theorem closed_agg (xs : List V) : closed (.agg xs) = false := by simp only [closed]
theorem toVal_agg (xs : List V) : toVal (.agg xs) = (xs.mapM unSc).map fun us => .agg us.toArray := id rfl
theorem cellsV_tup (xs : List V) : cellsV (.tup xs) = [.tup xs] := id rfl
theorem one_tup (xs : List V) : one (.tup xs) = false := id rfl
theorem closed_tup (xs : List V) : closed (.tup xs) = false := by simp only [closed]
theorem toVal_tup (xs : List V) : toVal (.tup xs) = none := id rfl
theorem aev_tmp (t : List V) (i : Nat) : aev t (.tmp i) = t.getD i .dead := id rfl
theorem aev_const (t : List V) (v : Value) : aev t (.const v) = ofVal v := id rfl
theorem aev_func (t : List V) (f : Nat) : aev t (.func f) = .fn (.func f) [] := id rfl
end
section
variable {P : Program} {C : CallK} {m : Nat}
theorem acallF_cong {pl : Plans} {n f : Nat} {args args' : List V} {st st' : List Ob} {K : V → List Ob → Prop} (h1 : ∀ _ : Unit, args = args') (h2 : ∀ _ : Unit, st = st') : acallF P pl n m f args st K = acallF P pl n m f args' st' K := by rw [h1 (), h2 ()]
theorem aloop_cong {body : ExK → List V → List Ob → Prop} {k : Nat} {K : ExK} {t t' : List V} {st st' : List Ob} (h1 : ∀ _ : Unit, t = t') (h2 : ∀ _ : Unit, st = st') : aloop body k K t st = aloop body k K t' st' := by rw [h1 (), h2 ()]
theorem bcase_cong {v v' : V} {p q : Prop} (h : ∀ _ : Unit, v = v') : bcase v p q = bcase v' p q := by rw [h ()]
theorem resK_cong {r r' : Option (V × List Ob)} {k : V → List Ob → Prop} (h : ∀ _ : Unit, r = r') : resK r k = resK r' k := by rw [h ()]
theorem valK_cong {r r' : Option V} {k : V → Prop} (h : ∀ _ : Unit, r = r') : valK r k = valK r' k := by rw [h ()]
theorem wantK_cong {w w' : Option Bool} {p q : Prop} (h : ∀ _ : Unit, w = w') : wantK w p q = wantK w' p q := by rw [h ()]
theorem callK_cong {v v' : V} {args args' : List V} {st st' : List Ob} {K : V → List Ob → Prop} (h : ∀ _ : Unit, v = v') (h1 : ∀ _ : Unit, args = args') (h2 : ∀ _ : Unit, st = st') : callK P C v args st K = callK P C v' args' st' K := by rw [h (), h1 (), h2 ()]
theorem resM_cong {r r' : Option (V × List Ob)} {q : Option V} {st : List Ob} {k : V → List Ob → Prop} (h : ∀ _ : Unit, r = r') : resM r q st k = resM r' q st k := by rw [h ()]
theorem rfK_cong {pf : Nat → Option (List PI)} {ps : Array Tmp} {a b : Code} {K : ExK} {t t' : List V} {st st' : List Ob} {v v' : V} (h : ∀ _ : Unit, v = v') (h1 : ∀ _ : Unit, t = t') (h2 : ∀ _ : Unit, st = st') : rfK P C pf ps a b K t st v = rfK P C pf ps a b K t' st' v' := by rw [h (), h1 (), h2 ()]
theorem xputK_cong {ops : Array Oper} {plan : List PI} {base : Nat} {o : Oper} {r : List Oper} {ps : List PI} {t : List V} {st : List Ob} {hs : List (List Ob)} {xs : List (Option Ob)} {K : List V → List Ob → Prop} {x x' : Option (V × Ob)} (h : ∀ _ : Unit, x = x') : xputK P C ops plan base o r ps t st hs xs K x = xputK P C ops plan base o r ps t st hs xs K x' := by rw [h ()]
theorem qputK_cong {ops : Array Oper} {plan : List PI} {base : Nat} {o : Oper} {p : PI} {r : List Oper} {ps : List PI} {t : List V} {st : List Ob} {hs : List (List Ob)} {xs : List (Option Ob)} {K : List V → List Ob → Prop} {x x' : Option V} (h : ∀ _ : Unit, x = x') : qputK P C ops plan base o p r ps t st hs xs K x = qputK P C ops plan base o p r ps t st hs xs K x' := by rw [h ()]
end
def hol (L : List V) (k : Nat) : V := L.getD k V.dead
theorem aloop_for {P : Program} {pl : Plans} {pf : Nat → Option (List PI)} {n m k : Nat} {b : Code} {K : ExK} {t : List V} {st : List Ob} (I : Nat → List V → List Ob → Prop) (h0 : I k t st)
    (step : ∀ I' : Nat → List V → List Ob → Prop, (∀ k t s, I k t s → I' k t s) → ∀ k t st, I k t st → ∃ j, k = j + 1 ∧ acode P (acallF P pl n m) m pf b (invK (I' j) K) t st) : aloop (acode P (acallF P pl n m) m pf b) k K t st :=
  aloop_inv I (step I fun _ _ _ h => h) k t st h0

theorem bcase_true (p q : Prop) : bcase (.sc (.bool true)) p q = p := propext ⟨fun h => h, fun h => h⟩
theorem bcase_false (p q : Prop) : bcase (.sc (.bool false)) p q = q := propext ⟨fun h => h, fun h => h⟩
section
variable {α : Type} {f : α → List V}
theorem TVn.list {T : List V → Prop} {Q : α → Prop} (h : ∀ ys, T ys → ∃ a, ys = f a ∧ Q a) : ∀ {n : Nat} {xs : List V}, TVn T n xs → ∃ l : List α, l.length = n ∧ xs = l.flatMap f ∧ ∀ a ∈ l, Q a
  | 0, xs, hx => ⟨[], rfl, by simpa [TVn] using hx, by simp⟩
  | n + 1, xs, hx => by
    obtain ⟨ys, zs, rfl, h1, h2⟩ := hx
    obtain ⟨a, rfl, ha⟩ := h ys h1
    obtain ⟨l, hl, rfl, hq⟩ := TVn.list h h2
    exact ⟨a :: l, by simp [hl], by simp, by simpa using ⟨ha, hq⟩⟩
theorem flatMap_len {s : Nat} (hf : ∀ a, (f a).length = s) : ∀ l : List α, (l.flatMap f).length = l.length * s
  | [] => by simp
  | a :: l => by rw [List.flatMap_cons, List.length_append, hf, flatMap_len hf l, List.length_cons, Nat.succ_mul]; omega
theorem flatMap_drop {s : Nat} (hf : ∀ a, (f a).length = s) : ∀ (l : List α) (j : Nat), (l.flatMap f).drop (j * s) = (l.drop j).flatMap f
  | l, 0 => by simp
  | [], j + 1 => by simp
  | a :: l, j + 1 => by
    rw [List.flatMap_cons, Nat.succ_mul, List.drop_append, hf, List.drop_eq_nil_of_le (by rw [hf]; omega), Nat.add_sub_cancel, flatMap_drop hf l j, List.drop_succ_cons, List.nil_append]
theorem flatMap_at {s : Nat} (hf : ∀ a, (f a).length = s) (l : List α) (j : Nat) (hj : j < l.length) : (l.flatMap f).drop (j * s) = f l[j] ++ (l.drop (j + 1)).flatMap f := by
  rw [flatMap_drop hf, List.drop_eq_getElem_cons hj, List.flatMap_cons]
end
theorem wf_int {k : IntKind} {n : Int} (h : (Lit.int k n).wf = true) : k.min ≤ n ∧ n ≤ k.max := by
  simpa [Lit.wf] using h
theorem ix_flat {α : Type} {f : α → List V} {P : Program} {st : List Ob} {e t : TypeId} {v : V} {s : Nat} {l : List α} (hf : ∀ a, (f a).length = s) (h : Rd P st e v (l.flatMap f) l.length) (ht : P.underlying t = some (.slice e)) (hs : szOf P e = some s) (ha : aggT P e = some true) (h0 : 0 < s) {i : Nat} (hi : i < l.length) :
    aix P st t v (.sc (.int .i64 i)) = some (ixp s v i 0, st) ∧ ald P st e (ixp s v i 0) = some (.agg (f l[i]), st) := by
  refine ⟨?_, ?_⟩
  · rw [aix_rd h ht hs .i64 (by omega) (by omega), Int.toNat_natCast]
  · rw [ald_ix h hs hs h0 hi (by omega)]
    simp only [aload, ha, hs, Nat.add_zero]
    rw [flatMap_at hf l i hi, List.length_append, hf, if_pos (by omega), List.take_left' (hf _)]
    rfl
theorem tv_bytes {P : Program} {k n : Nat} {t : TypeId} {xs : List V} (hu : P.underlying t = some (.int .u8)) (h : TVn (TV P k t) n xs) : ∃ l : List Int, l.length = n ∧ xs = bs l ∧ ∀ b ∈ l, 0 ≤ b ∧ b < 256 := by
  obtain ⟨l, h1, h2, h3⟩ := TVn.list (f := fun b : Int => [V.sc (.int .u8 b)]) (Q := fun b => 0 ≤ b ∧ b < 256) (fun ys hy => by
    obtain ⟨n, rfl, hn⟩ := tv_int hy hu
    obtain ⟨h1, h2⟩ := wf_int hn
    exact ⟨n, rfl, h1, by simp [IntKind.max, IntKind.signed, IntKind.bits] at h2; omega⟩) h
  refine ⟨l, h1, ?_, h3⟩
  rw [h2]
  clear h1 h2 h3
  induction l with
  | nil => rfl
  | cons a l ih => simp [bs, List.flatMap_cons] at ih ⊢; exact ih
theorem tsl_rd {P : Program} {st : List Ob} {e : TypeId} {xs : List V} {n s : Nat} {nil full : Bool} (hs : szOf P e = some s) (hl : xs.length = n * s) (hn : nil = true → n = 0) : Rd P st e (.tsl xs n nil full) xs n :=
  ⟨rfl, ⟨fun b hb => (by cases hb), hn⟩, fun s' hs' => by rw [hs] at hs'; cases hs'; exact hl⟩
end Go.M
