/- Chapter 23: steps, shapes, and what a unit does: plain. Chapter 3: directions, both ways. Chapter 3: a step by the reference; the direction of a neighbour, both ways. Chapters 3 and 6: the sides of a step, shapes, where a shape's foot is, both ways. Chapter 6: a world, both ways; where a shape stands, by the program. -/
import Derived.Test.YtpdhoicpaonggaaGreatX6
set_option linter.unusedVariables false
set_option linter.unusedSimpArgs false
set_option maxRecDepth 10000
namespace Go.Proofs.YtpdhoicpaonggaaGreat
open Go Go.M Go.RowKit
attribute [local congr] acallF_cong aloop_cong bcase_cong resK_cong valK_cong wantK_cong callK_cong xputK_cong qputK_cong resM_cong rfK_cong
attribute [local irreducible] seqK blockK loopK nextK bcase resK valK wantK funK putK dputK xputK qputK callK aops aop acode adraw aloop acallF acall invK resM rfK rfEnd rdEnd rdMid around
def tX (d : Int) : Int := if d = 0 ∨ d = 4 ∨ d = 7 then 1 else if d = 2 ∨ d = 5 ∨ d = 6 then -1 else 0
def tY (d : Int) : Int := if d = 1 ∨ d = 4 ∨ d = 5 then 1 else if d = 3 ∨ d = 6 ∨ d = 7 then -1 else 0
def okD (d : Int) : Bool := decide (0 ≤ d) && decide (d ≤ 7)
def stepB (x y d : Int) : Bool := okD d && (nearB x && nearB y) && (nearB (x + tX d) && nearB (y + tY d))
def stX (x y d : Int) : Int := if stepB x y d = true then x + tX d else 0
def stY (x y d : Int) : Int := if stepB x y d = true then y + tY d else 0
def hereB (x y a b d : Int) : Bool := stepB x y d && (stX x y d == a && stY x y d == b)
def dirI (x y a b : Int) : Int := match (List.range 8).find? (fun d : Nat => hereB x y a b d) with
  | some d => d
  | none => -1
theorem find_hit {p : Nat → Bool} {n j : Nat} (hj : j < n) (h0 : ∀ i, i < j → p i = false) (h : p j = true) : (List.range n).find? p = some j := by
  have e : List.range n = List.range j ++ j :: (List.range n).drop (j + 1) := by
    have := List.take_append_drop j (List.range n)
    rw [List.take_range, Nat.min_eq_left (Nat.le_of_lt hj)] at this
    rw [List.drop_eq_getElem_cons (by simpa using hj), List.getElem_range] at this
    exact this.symm
  rw [e, List.find?_append, List.find?_eq_none.2 (fun i hi => by rw [h0 i (List.mem_range.1 hi)]; decide)]
  simp [h]
theorem find_miss {p : Nat → Bool} {n : Nat} (h0 : ∀ i, i < n → p i = false) : (List.range n).find? p = none := List.find?_eq_none.2 fun i hi => by rw [h0 i (List.mem_range.1 hi)]; decide
theorem dir_hit {x y a b : Int} {j : Nat} (hj : j < 8) (h0 : ∀ i : Nat, i < j → hereB x y a b i = false) (h : hereB x y a b j = true) : dirI x y a b = j := by
  unfold dirI
  rw [find_hit (p := fun d : Nat => hereB x y a b d) hj h0 h]
theorem dir_miss {x y a b : Int} (h0 : ∀ i : Nat, i < 8 → hereB x y a b i = false) : dirI x y a b = -1 := by
  unfold dirI
  rw [find_miss (p := fun d : Nat => hereB x y a b d) h0]
theorem t_inj {d e : Nat} (hd : d < 8) (he : e < 8) (h1 : tX d = tX e) (h2 : tY d = tY e) : d = e := by
  have : ∀ d : Fin 8, ∀ e : Fin 8, tX (d.1 : Nat) = tX (e.1 : Nat) → tY (d.1 : Nat) = tY (e.1 : Nat) → d = e := by decide +kernel
  exact congrArg Fin.val (this ⟨d, hd⟩ ⟨e, he⟩ h1 h2)
theorem dir_turn {x y : Int} {d : Nat} (hd : d < 8) (h : stepB x y d = true) : dirI x y (x + tX d) (y + tY d) = d := by
  refine dir_hit hd (fun i hi => ?_) ?_
  · cases hh : hereB x y (x + tX d) (y + tY d) i with
    | false => rfl
    | true =>
      simp only [hereB, stX, stY, Bool.and_eq_true, beq_iff_eq] at hh
      obtain ⟨h1, h2, h3⟩ := hh
      rw [if_pos h1] at h2 h3
      have := t_inj (d := i) (e := d) (by omega) hd (by omega) (by omega)
      omega
  · simp only [hereB, stX, stY, h, if_true, Bool.true_and, Bool.and_eq_true, beq_iff_eq, and_self]
def shB (c z : Int) : Bool := decide (c ≥ 0) && decide (c < 4) && decide (z ≥ 1) && decide (z ≤ 4)
def onB (c t : Int) : Bool := (c == 0 && (t == 0 || t == 1)) || (c == 1 && t == 0) || (c == 2 && t == 2) || (c == 3 && (t == 0 || t == 2))
def fitB (WW HH c z x y : Int) : Bool := shB c z && withinB x y z z 0 0 WW HH
def tileB (WW HH : Int) (ts : List V) (L : List B4) (c x y : Int) : Bool := !(L.find? (hasU x y)).isSome && onB c (terK WW HH ts x y)
def standB (WW HH : Int) (ts : List V) (L : List B4) (c z x y : Int) : Bool := fitB WW HH c z x y && (List.range (z.toNat * z.toNat)).all fun q => tileB WW HH ts L c (x + (q % z.toNat : Nat)) (y + (q / z.toNat : Nat))
def legB (S : Int → Int → Bool) (x y d : Int) : Bool := stepB x y d && S x y && S (x + tX d) (y + tY d) && (decide (d < 4) || (S (x + tX d) y && S x (y + tY d)))
theorem leg_step {S : Int → Int → Bool} {x y d : Int} (h : legB S x y d = true) : stepB x y d = true := by
  simp only [legB, Bool.and_eq_true] at h
  exact h.1.1.1
structure Un where
  (id pl c z x y ph gx gy wt : Int) (P : List (Int × Int))
def cpV (c : Int × Int) : List V := cl c.1 c.2
def unV (u : Un) (pv : V) : List V := [.sc (.int .i64 u.id), .sc (.int .i64 u.pl), .sc (.int .i64 u.c), .sc (.int .i64 u.z), .sc (.int .i64 u.x), .sc (.int .i64 u.y), .sc (.int .i64 u.ph), .sc (.int .i64 u.gx), .sc (.int .i64 u.gy), pv, .sc (.int .i64 u.wt)]
def cellI (x y : Int) : Bool := decide (x ≥ 0) && decide (x < 128) && decide (y ≥ 0) && decide (y < 128)
def pathB : Int → Int → List (Int × Int) → Bool
  | _, _, [] => true
  | x, y, c :: P => cellI c.1 c.2 && !decide (dirI x y c.1 c.2 < 0) && pathB c.1 c.2 P
def endB (gx gy : Int) (P : List (Int × Int)) : Bool := match P.getLast? with
  | some c => c.1 == gx && c.2 == gy
  | none => false
def movB (u : Un) : Bool := decide (u.P.length ≤ 16384) && endB u.gx u.gy u.P && pathB u.x u.y u.P
def headB (u : Un) : Bool := (!decide (u.id < 1) && (!decide (u.id > 2147483647) && (!decide (u.pl < 0) && !decide (u.pl ≥ 8)))) && (shB u.c u.z && (cellI u.x u.y && (cellI u.gx u.gy && (!decide (u.wt < 0) && !decide (u.wt > 15)))))
def asideB (S : Int → Int → Bool) (may : Int → Int → Int) (x y a b : Int) (d : Int) : Bool := legB S x y d && (!(x + tX d == a && y + tY d == b) && may (x + tX d) (y + tY d) == 0)
def chS (S : Int → Int → Bool) (may : Int → Int → Int) (u : Un) : Int × Int × Int := match u.P with
  | [] => (0, 0, 0)
  | c :: _ => if u.ph = 1 ∧ (headB u && movB u) = true then
      if legB S u.x u.y (dirI u.x u.y c.1 c.2) = true then
        if may c.1 c.2 = 0 then (1, c.1, c.2) else if u.wt < 3 then (2, 0, 0) else match (List.range 8).find? (fun d : Nat => asideB S may u.x u.y c.1 c.2 d) with
          | some d => (3, u.x + tX d, u.y + tY d)
          | none => (2, 0, 0)
      else (4, 0, 0)
    else (0, 0, 0)
def chV (t : Int × Int × Int) : List V := [.sc (.int .i64 t.1), .sc (.int .i64 t.2.1), .sc (.int .i64 t.2.2)]
theorem ch_cases (S : Int → Int → Bool) (may : Int → Int → Int) (u : Un) : (∃ k x y d, chS S may u = (k, x, y) ∧ (k = 1 ∨ k = 3) ∧ dirI u.x u.y x y = d ∧ legB S u.x u.y d = true ∧ may x y = 0) ∨
    (∃ c P, u.P = c :: P ∧ chS S may u = (2, 0, 0) ∧ may c.1 c.2 ≠ 0) ∨ chS S may u = (0, 0, 0) ∨ chS S may u = (4, 0, 0) := by
  unfold chS
  cases hP : u.P with
  | nil => exact .inr (.inr (.inl rfl))
  | cons c P =>
    simp only
    by_cases h1 : u.ph = 1 ∧ (headB u && movB u) = true
    · rw [if_pos h1]
      by_cases h2 : legB S u.x u.y (dirI u.x u.y c.1 c.2) = true
      · rw [if_pos h2]
        by_cases h3 : may c.1 c.2 = 0
        · rw [if_pos h3]; exact .inl ⟨1, c.1, c.2, _, rfl, .inl rfl, rfl, h2, h3⟩
        · rw [if_neg h3]
          by_cases h4 : u.wt < 3
          · rw [if_pos h4]; exact .inr (.inl ⟨c, P, rfl, rfl, h3⟩)
          · rw [if_neg h4]
            cases h5 : (List.range 8).find? (fun d : Nat => asideB S may u.x u.y c.1 c.2 d) with
            | none => exact .inr (.inl ⟨c, P, rfl, rfl, h3⟩)
            | some d =>
              have e1 := List.find?_some h5
              have e2 := List.mem_range.1 (List.mem_of_find?_eq_some h5)
              simp only [asideB, Bool.and_eq_true, beq_iff_eq] at e1
              exact .inl ⟨3, _, _, _, rfl, .inr rfl, dir_turn e2 (leg_step e1.1), e1.1, e1.2.2⟩
      · rw [if_neg h2]; exact .inr (.inr (.inr rfl))
    · rw [if_neg h1]; exact .inr (.inr (.inl rfl))
theorem cmp_cell (p q : Operand) (x y x' y' : Int) : pureRun Tryz.prog (do eqGuard .eql 31 p q (.agg #[.int .i64 x, .int .i64 y]) (.agg #[.int .i64 x', .int .i64 y']); binOp .eql 31 (.agg #[.int .i64 x, .int .i64 y]) (.agg #[.int .i64 x', .int .i64 y'])) = some (.bool (x == x' && y == y')) :=
  pr_eqlStruct p q (by kernel_rfl) (eq_cell 9998 x y x' y')
theorem cmp_cellN (p q : Operand) (x y x' y' : Int) : pureRun Tryz.prog (do eqGuard .neq 31 p q (.agg #[.int .i64 x, .int .i64 y]) (.agg #[.int .i64 x', .int .i64 y']); binOp .neq 31 (.agg #[.int .i64 x, .int .i64 y]) (.agg #[.int .i64 x', .int .i64 y'])) = some (.bool (!(x == x' && y == y'))) :=
  pr_neqStruct p q (by kernel_rfl) (eq_cell 9998 x y x' y')
theorem t_rng (d : Int) : (-1 ≤ tX d ∧ tX d ≤ 1) ∧ (-1 ≤ tY d ∧ tY d ≤ 1) := by
  unfold tX tY
  constructor <;> (split <;> try split) <;> omega
theorem okD_cases {d : Int} (h : okD d = true) : d = 0 ∨ d = 1 ∨ d = 2 ∨ d = 3 ∨ d = 4 ∨ d = 5 ∨ d = 6 ∨ d = 7 := by
  simp only [okD, Bool.and_eq_true, decide_eq_true_eq] at h
  omega
theorem okD_not {d : Int} (h : okD d = false) : tX d = 0 ∧ tY d = 0 := by
  have : ¬ (0 ≤ d ∧ d ≤ 7) := fun hh => by simp [okD, hh.1, hh.2] at h
  unfold tX tY
  rw [if_neg (by omega), if_neg (by omega), if_neg (by omega), if_neg (by omega)]
  exact ⟨rfl, rfl⟩
theorem t_zero (d : Int) : (tX d == 0 && tY d == 0) = !okD d := by
  cases h : okD d with
  | false => rw [(okD_not h).1, (okD_not h).2]; rfl
  | true => rcases okD_cases h with rfl | rfl | rfl | rfl | rfl | rfl | rfl | rfl <;> rfl
theorem near_w {x d : Int} (h : nearB x = true) (k : -1 ≤ d ∧ d ≤ 1) : IntKind.i64.wrap (x + d) = x + d := by
  simp only [nearB, Bool.and_eq_true, decide_eq_true_eq] at h
  exact wi64 (by omega) (by omega)
section
variable {n m : Nat} {st : List Ob} {K : V → List Ob → Prop} {x y a b d : Int}
set_option maxHeartbeats 2000000 in
theorem c_turn (hK : ∀ s, Grw st s → K (.agg (cl (tX d) (tY d))) s) : acallF Tryz.prog pl (n + 1) m 113 [.sc (.int .i64 d)] st K := by
  refine acallF_inF Tryz.func113 rfl rfl Tryz.ntmps113 (by simp) ?_
  cases h : okD d with
  | true =>
    rcases okD_cases h with rfl | rfl | rfl | rfl | rfl | rfl | rfl | rfl <;>
    · simp only [↓zP,zV,Nat.reduceAdd,Nat.reduceMul,Nat.reduceLT,Nat.reduceEqDiff,Nat.reduceLeDiff,Int.reduceLE,Int.reduceLT,Int.reduceToNat,Int.reduceBNe,Int.reduceBEq,Int.reduceNeg,Int.reduceEq,Int.reduceAdd,Int.reduceGT,Int.reduceGE,reduceCtorEq]
      exact hK _ (Grw.push _ _)
  | false =>
    have hh : ¬ (0 ≤ d ∧ d ≤ 7) := fun hh => by simp [okD, hh.1, hh.2] at h
    have e0 : (d == 0) = false := beq_eq_false_iff_ne.2 (by omega)
    have e1 : (d == 1) = false := beq_eq_false_iff_ne.2 (by omega)
    have e2 : (d == 2) = false := beq_eq_false_iff_ne.2 (by omega)
    have e3 : (d == 3) = false := beq_eq_false_iff_ne.2 (by omega)
    have e4 : (d == 4) = false := beq_eq_false_iff_ne.2 (by omega)
    have e5 : (d == 5) = false := beq_eq_false_iff_ne.2 (by omega)
    have e6 : (d == 6) = false := beq_eq_false_iff_ne.2 (by omega)
    have e7 : (d == 7) = false := beq_eq_false_iff_ne.2 (by omega)
    obtain ⟨z1, z2⟩ := okD_not h
    rw [z1, z2] at hK
    simp only [e0, e1, e2, e3, e4, e5, e6, e7, ↓zP,zV,Nat.reduceAdd,Nat.reduceMul,Nat.reduceLT,Nat.reduceEqDiff,Nat.reduceLeDiff,Int.reduceLE,Int.reduceLT,Int.reduceToNat,Int.reduceBNe,Int.reduceBEq,Int.reduceNeg,Int.reduceEq,Int.reduceAdd,Int.reduceGT,Int.reduceGE,reduceCtorEq]
    exact hK _ (Grw.push _ _)
set_option maxHeartbeats 2000000 in
theorem r_Turn (hK : K (.tup [.sc (.int .i64 (tX d)), .sc (.int .i64 (tY d)), .sc (.bool (okD d))]) st) : acallF Tryz.prog pl (n + 1) m 124 [.sc (.int .i64 d)] st K := by
  refine acallF_inF Tryz.func124 rfl rfl Tryz.ntmps124 (by simp) ?_
  cases h : okD d with
  | true =>
    rw [h] at hK
    rcases okD_cases h with rfl | rfl | rfl | rfl | rfl | rfl | rfl | rfl <;>
    · simp only [↓zP,zV,Nat.reduceAdd,Nat.reduceMul,Nat.reduceLT,Nat.reduceEqDiff,Nat.reduceLeDiff,Int.reduceLE,Int.reduceLT,Int.reduceToNat,Int.reduceBNe,Int.reduceBEq,Int.reduceNeg,Int.reduceEq,Int.reduceAdd,Int.reduceGT,Int.reduceGE,reduceCtorEq]
      exact hK
  | false =>
    have hh : ¬ (0 ≤ d ∧ d ≤ 7) := fun hh => by simp [okD, hh.1, hh.2] at h
    have e0 : (d == 0) = false := beq_eq_false_iff_ne.2 (by omega)
    have e1 : (d == 1) = false := beq_eq_false_iff_ne.2 (by omega)
    have e2 : (d == 2) = false := beq_eq_false_iff_ne.2 (by omega)
    have e3 : (d == 3) = false := beq_eq_false_iff_ne.2 (by omega)
    have e4 : (d == 4) = false := beq_eq_false_iff_ne.2 (by omega)
    have e5 : (d == 5) = false := beq_eq_false_iff_ne.2 (by omega)
    have e6 : (d == 6) = false := beq_eq_false_iff_ne.2 (by omega)
    have e7 : (d == 7) = false := beq_eq_false_iff_ne.2 (by omega)
    obtain ⟨z1, z2⟩ := okD_not h
    rw [z1, z2, h] at hK
    simp only [e0, e1, e2, e3, e4, e5, e6, e7, ↓zP,zV,Nat.reduceAdd,Nat.reduceMul,Nat.reduceLT,Nat.reduceEqDiff,Nat.reduceLeDiff,Int.reduceLE,Int.reduceLT,Int.reduceToNat,Int.reduceBNe,Int.reduceBEq,Int.reduceNeg,Int.reduceEq,Int.reduceAdd,Int.reduceGT,Int.reduceGE,reduceCtorEq]
    exact hK
theorem c_plus (e1 : IntKind.i64.wrap (x + a) = x + a) (e2 : IntKind.i64.wrap (y + b) = y + b) (hK : ∀ s, Grw st s → K (.agg (cl (x + a) (y + b))) s) : acallF Tryz.prog pl (n + 1) m 114 [.agg (cl x y), .agg (cl a b)] st K := by
  refine acallF_inF Tryz.func114 rfl rfl Tryz.ntmps114 (by simp) ?_
  simp only [cl] at hK
  simp only [cl, e1, e2, ↓zP,zV,Nat.reduceAdd,Nat.reduceMul,Nat.reduceLT,Nat.reduceEqDiff,Nat.reduceLeDiff,Int.reduceLE,Int.reduceLT,Int.reduceToNat,Int.reduceBNe,Int.reduceBEq,Int.reduceNeg,Int.reduceEq,Int.reduceAdd,Int.reduceGT,Int.reduceGE,reduceCtorEq]
  exact hK _ (Grw.push _ _)
set_option maxHeartbeats 4000000 in
theorem c_Step (hK : ∀ s, Grw st s → K (.tup [.agg (cl (stX x y d) (stY x y d)), .sc (.bool (stepB x y d))]) s) : acallF Tryz.prog pl (n + 3) m 85 [.agg (cl x y), .sc (.int .i64 d)] st K := by
  refine acallF_inF Tryz.func85 rfl rfl Tryz.ntmps85 (by simp) ?_
  have g0 := Grw.push st [.cells (cl x y), .cells (cl 0 0)]
  have x0 : (st ++ [Ob.cells (cl x y), .cells (cl 0 0)])[st.length]? = some (.cells (cl x y)) := get_new _ _ 0
  have x0' : (st ++ [Ob.cells (cl x y), .cells (cl 0 0)])[st.length + 1]? = some (.cells (cl 0 0)) := get_new _ _ 1
  simp only [cl] at g0 x0 x0'
  simp only [cl, x0, ↓zP,zV,Nat.reduceAdd,Nat.reduceMul,Nat.reduceLT,Nat.reduceEqDiff,Nat.reduceLeDiff,Int.reduceLE,Int.reduceLT,Int.reduceToNat,Int.reduceBNe,Int.reduceBEq,Int.reduceNeg,Int.reduceEq,Int.reduceAdd,Int.reduceGT,Int.reduceGE,reduceCtorEq]
  refine c_turn (n := n + 1) fun s1 j1 => ?_
  have l1 := (g0.trans j1).le
  have y1 := fun X => Grw.push s1 X _ _ (j1 _ _ x0)
  have y1' := fun X => Grw.push s1 X _ _ (j1 _ _ x0')
  have g1 := fun X => (g0.trans j1).trans (Grw.push s1 X)
  have tz := t_zero d
  simp only [stX, stY, stepB] at hK
  have fin : ∀ (s : List Ob), Grw st s → s[st.length + 1]? = some (.cells [.sc (.int .i64 0), .sc (.int .i64 0)]) → okD d = false ∨ (nearB x && nearB y) = false ∨ (nearB (x + tX d) && nearB (y + tY d)) = false → K (.tup [.agg [.sc (.int .i64 0), .sc (.int .i64 0)], .sc (.bool false)]) (s.set (st.length + 1) (.cells [.sc (.int .i64 0), .sc (.int .i64 0)])) := fun s hg _ h => by
    have h' : (okD d && (nearB x && nearB y) && (nearB (x + tX d) && nearB (y + tY d))) = false := by
      rcases h with h | h | h <;> rw [h] <;> simp only [Bool.false_and, Bool.and_false]
    simp only [h', cl] at hK
    exact hK _ (hg.set (by omega) _)
  cases e : okD d with
  | false =>
    rw [e] at tz
    have q1 := fun X o => get_set (y1' X) o
    simp only [cl, y1, y1', q1, cmp_cell, tz, ↓zP,zV,Nat.reduceAdd,Nat.reduceMul,Nat.reduceLT,Nat.reduceEqDiff,Nat.reduceLeDiff,Int.reduceLE,Int.reduceLT,Int.reduceToNat,Int.reduceBNe,Int.reduceBEq,Int.reduceNeg,Int.reduceEq,Int.reduceAdd,Int.reduceGT,Int.reduceGE,reduceCtorEq]
    exact fin _ (g1 _) (y1' _) (.inl e)
  | true =>
    rw [e] at tz
    simp only [cl, y1, y1', cmp_cell, tz, ↓zP,zV,Nat.reduceAdd,Nat.reduceMul,Nat.reduceLT,Nat.reduceEqDiff,Nat.reduceLeDiff,Int.reduceLE,Int.reduceLT,Int.reduceToNat,Int.reduceBNe,Int.reduceBEq,Int.reduceNeg,Int.reduceEq,Int.reduceAdd,Int.reduceGT,Int.reduceGE,reduceCtorEq]
    refine c_Near (n := n) fun s2 j2 => ?_
    have z2 := j2 _ _ (y1 _)
    have z2' := j2 _ _ (y1' _)
    have z2'' := j2 _ _ (get_new0 s1 [Ob.cells [V.sc (.int .i64 (tX d)), V.sc (.int .i64 (tY d))]])
    have g2 := (g1 _).trans j2
    have q2 := fun o => get_set z2' o
    cases e1 : (nearB x && nearB y) with
    | false =>
      simp only [z2, z2', z2'', q2, e1, ↓zP,zV,Nat.reduceAdd,Nat.reduceMul,Nat.reduceLT,Nat.reduceEqDiff,Nat.reduceLeDiff,Int.reduceLE,Int.reduceLT,Int.reduceToNat,Int.reduceBNe,Int.reduceBEq,Int.reduceNeg,Int.reduceEq,Int.reduceAdd,Int.reduceGT,Int.reduceGE,reduceCtorEq]
      exact fin _ g2 z2' (.inr (.inl e1))
    | true =>
      obtain ⟨nx, ny⟩ : nearB x = true ∧ nearB y = true := by simpa using e1
      have w1 := near_w nx (t_rng d).1
      have w2 := near_w ny (t_rng d).2
      simp only [z2, z2', z2'', e1, ↓zP,zV,Nat.reduceAdd,Nat.reduceMul,Nat.reduceLT,Nat.reduceEqDiff,Nat.reduceLeDiff,Int.reduceLE,Int.reduceLT,Int.reduceToNat,Int.reduceBNe,Int.reduceBEq,Int.reduceNeg,Int.reduceEq,Int.reduceAdd,Int.reduceGT,Int.reduceGE,reduceCtorEq]
      refine c_plus (n := n + 1) w1 w2 fun s3 j3 => ?_
      simp only [z2, z2', z2'', cl, ↓zP,zV,Nat.reduceAdd,Nat.reduceMul,Nat.reduceLT,Nat.reduceEqDiff,Nat.reduceLeDiff,Int.reduceLE,Int.reduceLT,Int.reduceToNat,Int.reduceBNe,Int.reduceBEq,Int.reduceNeg,Int.reduceEq,Int.reduceAdd,Int.reduceGT,Int.reduceGE,reduceCtorEq]
      refine c_Near (n := n) fun s4 j4 => ?_
      have j24 := j3.trans j4
      have z4 := j24 _ _ z2
      have z4' := j24 _ _ z2'
      have z4'' := j24 _ _ z2''
      have g4 := g2.trans j24
      have q4 := fun o => get_set z4' o
      cases e2 : (nearB (x + tX d) && nearB (y + tY d)) with
      | false =>
        simp only [z4, z4', z4'', q4, e2, ↓zP,zV,Nat.reduceAdd,Nat.reduceMul,Nat.reduceLT,Nat.reduceEqDiff,Nat.reduceLeDiff,Int.reduceLE,Int.reduceLT,Int.reduceToNat,Int.reduceBNe,Int.reduceBEq,Int.reduceNeg,Int.reduceEq,Int.reduceAdd,Int.reduceGT,Int.reduceGE,reduceCtorEq]
        exact fin _ g4 z4' (.inr (.inr e2))
      | true =>
        simp only [z4, z4', z4'', e2, ↓zP,zV,Nat.reduceAdd,Nat.reduceMul,Nat.reduceLT,Nat.reduceEqDiff,Nat.reduceLeDiff,Int.reduceLE,Int.reduceLT,Int.reduceToNat,Int.reduceBNe,Int.reduceBEq,Int.reduceNeg,Int.reduceEq,Int.reduceAdd,Int.reduceGT,Int.reduceGE,reduceCtorEq]
        refine c_plus (n := n + 1) w1 w2 fun s5 j5 => ?_
        have q5 := fun o => get_set (j5 _ _ z4') o
        simp only [cl, q5, j5 _ _ z4', ↓zP,zV,Nat.reduceAdd,Nat.reduceMul,Nat.reduceLT,Nat.reduceEqDiff,Nat.reduceLeDiff,Int.reduceLE,Int.reduceLT,Int.reduceToNat,Int.reduceBNe,Int.reduceBEq,Int.reduceNeg,Int.reduceEq,Int.reduceAdd,Int.reduceGT,Int.reduceGE,reduceCtorEq]
        simp only [e, e1, e2, cl, Bool.and_self, if_true] at hK
        exact hK _ ((g4.trans j5).set (by omega) _)
end
section
variable {n m : Nat} {st : List Ob} {K : V → List Ob → Prop} {x y a b d : Int}
set_option maxHeartbeats 4000000 in
theorem r_Step (hK : ∀ s, Grw st s → K (.tup [.agg (cl (stX x y d) (stY x y d)), .sc (.bool (stepB x y d))]) s) : acallF Tryz.prog pl (n + 3) m 103 [.agg (cl x y), .sc (.int .i64 d)] st K := by
  refine acallF_inF Tryz.func103 rfl rfl Tryz.ntmps103 (by simp) ?_
  have g0 := Grw.push st [.cells (cl x y), .cells (cl 0 0)]
  have x0 : (st ++ [Ob.cells (cl x y), .cells (cl 0 0)])[st.length]? = some (.cells (cl x y)) := get_new _ _ 0
  have x0' : (st ++ [Ob.cells (cl x y), .cells (cl 0 0)])[st.length + 1]? = some (.cells (cl 0 0)) := get_new _ _ 1
  simp only [cl] at g0 x0 x0'
  simp only [cl, x0, ↓zP,zV,Nat.reduceAdd,Nat.reduceMul,Nat.reduceLT,Nat.reduceEqDiff,Nat.reduceLeDiff,Int.reduceLE,Int.reduceLT,Int.reduceToNat,Int.reduceBNe,Int.reduceBEq,Int.reduceNeg,Int.reduceEq,Int.reduceAdd,Int.reduceGT,Int.reduceGE,reduceCtorEq]
  refine r_Turn (n := n + 1) ?_
  simp only [stX, stY, stepB] at hK
  have fin : ∀ (s : List Ob), Grw st s → okD d = false ∨ (nearB x && nearB y) = false ∨ (nearB (x + tX d) && nearB (y + tY d)) = false → K (.tup [.agg [.sc (.int .i64 0), .sc (.int .i64 0)], .sc (.bool false)]) s := fun s hg h => by
    have h' : (okD d && (nearB x && nearB y) && (nearB (x + tX d) && nearB (y + tY d))) = false := by
      rcases h with h | h | h <;> rw [h] <;> simp only [Bool.false_and, Bool.and_false]
    simp only [h', cl] at hK
    exact hK _ hg
  cases e : okD d with
  | false =>
    have q0 := fun o => get_set x0' o
    simp only [x0, x0', q0, e, ↓zP,zV,Nat.reduceAdd,Nat.reduceMul,Nat.reduceLT,Nat.reduceEqDiff,Nat.reduceLeDiff,Int.reduceLE,Int.reduceLT,Int.reduceToNat,Int.reduceBNe,Int.reduceBEq,Int.reduceNeg,Int.reduceEq,Int.reduceAdd,Int.reduceGT,Int.reduceGE,reduceCtorEq]
    exact fin _ g0 (.inl e)
  | true =>
    simp only [x0, x0', e, ↓zP,zV,Nat.reduceAdd,Nat.reduceMul,Nat.reduceLT,Nat.reduceEqDiff,Nat.reduceLeDiff,Int.reduceLE,Int.reduceLT,Int.reduceToNat,Int.reduceBNe,Int.reduceBEq,Int.reduceNeg,Int.reduceEq,Int.reduceAdd,Int.reduceGT,Int.reduceGE,reduceCtorEq]
    refine r_Near (n := n) fun s2 j2 => ?_
    have z2 := j2 _ _ x0
    have z2' := j2 _ _ x0'
    have g2 := g0.trans j2
    have q2 := fun o => get_set z2' o
    cases e1 : (nearB x && nearB y) with
    | false =>
      simp only [z2, z2', q2, e1, ↓zP,zV,Nat.reduceAdd,Nat.reduceMul,Nat.reduceLT,Nat.reduceEqDiff,Nat.reduceLeDiff,Int.reduceLE,Int.reduceLT,Int.reduceToNat,Int.reduceBNe,Int.reduceBEq,Int.reduceNeg,Int.reduceEq,Int.reduceAdd,Int.reduceGT,Int.reduceGE,reduceCtorEq]
      exact fin _ (g2.set (by omega) _) (.inr (.inl e1))
    | true =>
      obtain ⟨nx, ny⟩ : nearB x = true ∧ nearB y = true := by simpa using e1
      have w1 := near_w nx (t_rng d).1
      have w2 := near_w ny (t_rng d).2
      have y2 := fun X => Grw.push s2 X _ _ z2
      have y2' := fun X => Grw.push s2 X _ _ z2'
      simp only [z2, z2', y2, y2', w1, w2, e1, ↓zP,zV,Nat.reduceAdd,Nat.reduceMul,Nat.reduceLT,Nat.reduceEqDiff,Nat.reduceLeDiff,Int.reduceLE,Int.reduceLT,Int.reduceToNat,Int.reduceBNe,Int.reduceBEq,Int.reduceNeg,Int.reduceEq,Int.reduceAdd,Int.reduceGT,Int.reduceGE,reduceCtorEq]
      refine r_Near (n := n) fun s4 j4 => ?_
      have z4 := j4 _ _ (y2 _)
      have z4' := j4 _ _ (y2' _)
      have z4'' := j4 _ _ (get_new0 s2 [Ob.cells [V.sc (.int .i64 (x + tX d)), V.sc (.int .i64 (y + tY d))]])
      have g4 := (g2.push' _).trans j4
      have q4 := fun o => get_set z4' o
      cases e2 : (nearB (x + tX d) && nearB (y + tY d)) with
      | false =>
        simp only [z4, z4', z4'', q4, e2, ↓zP,zV,Nat.reduceAdd,Nat.reduceMul,Nat.reduceLT,Nat.reduceEqDiff,Nat.reduceLeDiff,Int.reduceLE,Int.reduceLT,Int.reduceToNat,Int.reduceBNe,Int.reduceBEq,Int.reduceNeg,Int.reduceEq,Int.reduceAdd,Int.reduceGT,Int.reduceGE,reduceCtorEq]
        exact fin _ (g4.set (by omega) _) (.inr (.inr e2))
      | true =>
        simp only [z4, z4', z4'', q4, e2, ↓zP,zV,Nat.reduceAdd,Nat.reduceMul,Nat.reduceLT,Nat.reduceEqDiff,Nat.reduceLeDiff,Int.reduceLE,Int.reduceLT,Int.reduceToNat,Int.reduceBNe,Int.reduceBEq,Int.reduceNeg,Int.reduceEq,Int.reduceAdd,Int.reduceGT,Int.reduceGE,reduceCtorEq]
        simp only [e, e1, e2, cl, Bool.and_self, if_true] at hK
        exact hK _ (g4.set (by omega) _)
set_option maxHeartbeats 4000000 in
theorem c_Dir (hm : 8 < m) (hK : ∀ s, Grw st s → K (.sc (.int .i64 (dirI x y a b))) s) : acallF Tryz.prog pl (n + 4) m 45 [.agg (cl x y), .agg (cl a b)] st K := by
  refine acallF_inF Tryz.func45 rfl rfl Tryz.ntmps45 (by simp) ?_
  have g0 := Grw.push st [.cells (cl x y), .cells (cl a b)]
  have x0 : (st ++ [Ob.cells (cl x y), .cells (cl a b)])[st.length]? = some (.cells (cl x y)) := get_new _ _ 0
  have x0' : (st ++ [Ob.cells (cl x y), .cells (cl a b)])[st.length + 1]? = some (.cells (cl a b)) := get_new _ _ 1
  simp only [cl] at g0 x0 x0'
  simp only [cl, ↓zP,zV,Nat.reduceAdd,Nat.reduceMul,Nat.reduceLT,Nat.reduceEqDiff,Nat.reduceLeDiff,Int.reduceLE,Int.reduceLT,Int.reduceToNat,Int.reduceBNe,Int.reduceBEq,Int.reduceNeg,Int.reduceEq,Int.reduceAdd,Int.reduceGT,Int.reduceGE,reduceCtorEq]
  generalize hS : st ++ [Ob.cells [V.sc (.int .i64 x), V.sc (.int .i64 y)], Ob.cells [V.sc (.int .i64 a), V.sc (.int .i64 b)]] = S at g0 x0 x0'
  refine aloop_forF (fun k f s => ∃ j : Nat, k + j = m ∧ j ≤ 8 ∧ (∀ i : Nat, i < j → hereB x y a b i = false) ∧ Grw S s ∧ f 2 = .ref st.length 0 ∧ f 3 = .ref (st.length + 1) 0 ∧ f 8 = .sc (.int .i64 j)) ⟨0, by omega, by omega, fun i hi => absurd hi (by omega), Grw.refl _, by simp only [zF,Nat.reduceEqDiff,Nat.reduceLT], by simp only [zF,Nat.reduceEqDiff,Nat.reduceLT], by simp only [zF,Nat.reduceEqDiff,Nat.reduceLT]; rfl⟩ ?_
  rintro I' hI' k f s ⟨j, hk, hj, h0, hg, f2, f3, f8⟩
  refine ⟨k - 1, by omega, ?_⟩
  have y0 := hg _ _ x0
  have y0' := hg _ _ x0'
  by_cases hjl : j < 8
  · have d : decide ((j : Int) < 8) = true := decide_eq_true (by omega)
    have e3 : IntKind.i64.wrap ((j : Int) + 1) = ((j + 1 : Nat) : Int) := by rw [IntWalk.i64_in _ (by omega)]; rfl
    simp only [f2, f3, f8, d, y0, ↓zP,zV,Nat.reduceAdd,Nat.reduceMul,Nat.reduceLT,Nat.reduceEqDiff,Nat.reduceLeDiff,Int.reduceLE,Int.reduceLT,Int.reduceToNat,Int.reduceBNe,Int.reduceBEq,Int.reduceNeg,Int.reduceEq,Int.reduceAdd,Int.reduceGT,Int.reduceGE,reduceCtorEq]
    refine c_Step (n := n) fun s1 j1 => ?_
    have y1 := fun X => Grw.push s1 X _ _ (j1 _ _ y0)
    have y1' := fun X => Grw.push s1 X _ _ (j1 _ _ y0')
    have more : ∀ X, hereB x y a b j = false → ∀ f : Nat → V, f 2 = .ref st.length 0 → f 3 = .ref (st.length + 1) 0 → f 8 = .sc (.int .i64 ((j + 1 : Nat) : Int)) → ∃ i : Nat, k - 1 + i = m ∧ i ≤ 8 ∧ (∀ q : Nat, q < i → hereB x y a b q = false) ∧ Grw S (s1 ++ X) ∧ f 2 = .ref st.length 0 ∧ f 3 = .ref (st.length + 1) 0 ∧ f 8 = .sc (.int .i64 i) := fun X hh f a1 a2 a3 =>
      ⟨j + 1, by omega, hjl, fun q hq => by
        by_cases e : q = j
        · rw [e]; exact hh
        · exact h0 q (by omega), (hg.trans j1).push' X, a1, a2, a3⟩
    cases e : stepB x y j with
    | false =>
      simp only [f2, f3, f8, cl, y1, y1', e, e3, ↓zP,zV,Nat.reduceAdd,Nat.reduceMul,Nat.reduceLT,Nat.reduceEqDiff,Nat.reduceLeDiff,Int.reduceLE,Int.reduceLT,Int.reduceToNat,Int.reduceBNe,Int.reduceBEq,Int.reduceNeg,Int.reduceEq,Int.reduceAdd,Int.reduceGT,Int.reduceGE,reduceCtorEq]
      exact hI' _ _ _ (more _ (by simp only [hereB, e, Bool.false_and]) _ (by simp only [f2, zF,Nat.reduceEqDiff,Nat.reduceLT]) (by simp only [f3, zF,Nat.reduceEqDiff,Nat.reduceLT]) (by simp only [zF,Nat.reduceEqDiff,Nat.reduceLT]))
    | true =>
      cases e2 : (stX x y j == a && stY x y j == b) with
      | false =>
        simp only [f2, f3, f8, cl, y1, y1', e, e2, e3, cmp_cell, ↓zP,zV,Nat.reduceAdd,Nat.reduceMul,Nat.reduceLT,Nat.reduceEqDiff,Nat.reduceLeDiff,Int.reduceLE,Int.reduceLT,Int.reduceToNat,Int.reduceBNe,Int.reduceBEq,Int.reduceNeg,Int.reduceEq,Int.reduceAdd,Int.reduceGT,Int.reduceGE,reduceCtorEq]
        exact hI' _ _ _ (more _ (by simp only [hereB, e, e2, Bool.and_false]) _ (by simp only [f2, zF,Nat.reduceEqDiff,Nat.reduceLT]) (by simp only [f3, zF,Nat.reduceEqDiff,Nat.reduceLT]) (by simp only [zF,Nat.reduceEqDiff,Nat.reduceLT]))
      | true =>
        rw [dir_hit hjl h0 (by simp only [hereB, e, e2, Bool.and_self])] at hK
        simp only [f2, f3, f8, cl, y1, y1', e, e2, e3, cmp_cell, ↓zP,zV,Nat.reduceAdd,Nat.reduceMul,Nat.reduceLT,Nat.reduceEqDiff,Nat.reduceLeDiff,Int.reduceLE,Int.reduceLT,Int.reduceToNat,Int.reduceBNe,Int.reduceBEq,Int.reduceNeg,Int.reduceEq,Int.reduceAdd,Int.reduceGT,Int.reduceGE,reduceCtorEq]
        exact hK _ (((g0.trans hg).trans j1).push' _)
  · have d : decide ((j : Int) < 8) = false := decide_eq_false (by omega)
    rw [dir_miss fun i hi => h0 i (by omega)] at hK
    simp only [f2, f3, f8, d, ↓zP,zV,Nat.reduceAdd,Nat.reduceMul,Nat.reduceLT,Nat.reduceEqDiff,Nat.reduceLeDiff,Int.reduceLE,Int.reduceLT,Int.reduceToNat,Int.reduceBNe,Int.reduceBEq,Int.reduceNeg,Int.reduceEq,Int.reduceAdd,Int.reduceGT,Int.reduceGE,reduceCtorEq]
    exact hK _ (g0.trans hg)
set_option maxHeartbeats 4000000 in
theorem r_Dir (hm : 8 < m) (hK : ∀ s, Grw st s → K (.sc (.int .i64 (dirI x y a b))) s) : acallF Tryz.prog pl (n + 4) m 68 [.agg (cl x y), .agg (cl a b)] st K := by
  refine acallF_inF Tryz.func68 rfl rfl Tryz.ntmps68 (by simp) ?_
  have g0 := Grw.push st [.cells (cl x y), .cells (cl a b)]
  have x0 : (st ++ [Ob.cells (cl x y), .cells (cl a b)])[st.length]? = some (.cells (cl x y)) := get_new _ _ 0
  have x0' : (st ++ [Ob.cells (cl x y), .cells (cl a b)])[st.length + 1]? = some (.cells (cl a b)) := get_new _ _ 1
  simp only [cl] at g0 x0 x0'
  simp only [cl, ↓zP,zV,Nat.reduceAdd,Nat.reduceMul,Nat.reduceLT,Nat.reduceEqDiff,Nat.reduceLeDiff,Int.reduceLE,Int.reduceLT,Int.reduceToNat,Int.reduceBNe,Int.reduceBEq,Int.reduceNeg,Int.reduceEq,Int.reduceAdd,Int.reduceGT,Int.reduceGE,reduceCtorEq]
  generalize hS : st ++ [Ob.cells [V.sc (.int .i64 x), V.sc (.int .i64 y)], Ob.cells [V.sc (.int .i64 a), V.sc (.int .i64 b)]] = S at g0 x0 x0'
  refine aloop_forF (fun k f s => ∃ j : Nat, k + j = m ∧ j ≤ 8 ∧ (∀ i : Nat, i < j → hereB x y a b i = false) ∧ Grw S s ∧ f 2 = .ref st.length 0 ∧ f 3 = .ref (st.length + 1) 0 ∧ f 5 = .sc (.int .i64 j)) ⟨0, by omega, by omega, fun i hi => absurd hi (by omega), Grw.refl _, by simp only [zF,Nat.reduceEqDiff,Nat.reduceLT], by simp only [zF,Nat.reduceEqDiff,Nat.reduceLT], by simp only [zF,Nat.reduceEqDiff,Nat.reduceLT]; rfl⟩ ?_
  rintro I' hI' k f s ⟨j, hk, hj, h0, hg, f2, f3, f5⟩
  refine ⟨k - 1, by omega, ?_⟩
  have y0 := hg _ _ x0
  have y0' := hg _ _ x0'
  by_cases hjl : j < 8
  · have d : decide ((j : Int) < 8) = true := decide_eq_true (by omega)
    have e3 : IntKind.i64.wrap ((j : Int) + 1) = ((j + 1 : Nat) : Int) := by rw [IntWalk.i64_in _ (by omega)]; rfl
    simp only [f2, f3, f5, d, y0, ↓zP,zV,Nat.reduceAdd,Nat.reduceMul,Nat.reduceLT,Nat.reduceEqDiff,Nat.reduceLeDiff,Int.reduceLE,Int.reduceLT,Int.reduceToNat,Int.reduceBNe,Int.reduceBEq,Int.reduceNeg,Int.reduceEq,Int.reduceAdd,Int.reduceGT,Int.reduceGE,reduceCtorEq]
    refine r_Step (n := n) fun s1 j1 => ?_
    have y1 := fun X => Grw.push s1 X _ _ (j1 _ _ y0)
    have y1' := fun X => Grw.push s1 X _ _ (j1 _ _ y0')
    have more : ∀ X, hereB x y a b j = false → ∀ f : Nat → V, f 2 = .ref st.length 0 → f 3 = .ref (st.length + 1) 0 → f 5 = .sc (.int .i64 ((j + 1 : Nat) : Int)) → ∃ i : Nat, k - 1 + i = m ∧ i ≤ 8 ∧ (∀ q : Nat, q < i → hereB x y a b q = false) ∧ Grw S (s1 ++ X) ∧ f 2 = .ref st.length 0 ∧ f 3 = .ref (st.length + 1) 0 ∧ f 5 = .sc (.int .i64 i) := fun X hh f a1 a2 a3 =>
      ⟨j + 1, by omega, hjl, fun q hq => by
        by_cases e : q = j
        · rw [e]; exact hh
        · exact h0 q (by omega), (hg.trans j1).push' X, a1, a2, a3⟩
    cases e : stepB x y j with
    | false =>
      simp only [f2, f3, f5, cl, y1, y1', e, e3, ↓zP,zV,Nat.reduceAdd,Nat.reduceMul,Nat.reduceLT,Nat.reduceEqDiff,Nat.reduceLeDiff,Int.reduceLE,Int.reduceLT,Int.reduceToNat,Int.reduceBNe,Int.reduceBEq,Int.reduceNeg,Int.reduceEq,Int.reduceAdd,Int.reduceGT,Int.reduceGE,reduceCtorEq]
      exact hI' _ _ _ (more _ (by simp only [hereB, e, Bool.false_and]) _ (by simp only [f2, zF,Nat.reduceEqDiff,Nat.reduceLT]) (by simp only [f3, zF,Nat.reduceEqDiff,Nat.reduceLT]) (by simp only [zF,Nat.reduceEqDiff,Nat.reduceLT]))
    | true =>
      cases e2 : (stX x y j == a && stY x y j == b) with
      | false =>
        simp only [f2, f3, f5, cl, y1, y1', e, e2, e3, cmp_cell, ↓zP,zV,Nat.reduceAdd,Nat.reduceMul,Nat.reduceLT,Nat.reduceEqDiff,Nat.reduceLeDiff,Int.reduceLE,Int.reduceLT,Int.reduceToNat,Int.reduceBNe,Int.reduceBEq,Int.reduceNeg,Int.reduceEq,Int.reduceAdd,Int.reduceGT,Int.reduceGE,reduceCtorEq]
        exact hI' _ _ _ (more _ (by simp only [hereB, e, e2, Bool.and_false]) _ (by simp only [f2, zF,Nat.reduceEqDiff,Nat.reduceLT]) (by simp only [f3, zF,Nat.reduceEqDiff,Nat.reduceLT]) (by simp only [zF,Nat.reduceEqDiff,Nat.reduceLT]))
      | true =>
        rw [dir_hit hjl h0 (by simp only [hereB, e, e2, Bool.and_self])] at hK
        simp only [f2, f3, f5, cl, y1, y1', e, e2, e3, cmp_cell, ↓zP,zV,Nat.reduceAdd,Nat.reduceMul,Nat.reduceLT,Nat.reduceEqDiff,Nat.reduceLeDiff,Int.reduceLE,Int.reduceLT,Int.reduceToNat,Int.reduceBNe,Int.reduceBEq,Int.reduceNeg,Int.reduceEq,Int.reduceAdd,Int.reduceGT,Int.reduceGE,reduceCtorEq]
        exact hK _ (((g0.trans hg).trans j1).push' _)
  · have d : decide ((j : Int) < 8) = false := decide_eq_false (by omega)
    rw [dir_miss fun i hi => h0 i (by omega)] at hK
    simp only [f2, f3, f5, d, ↓zP,zV,Nat.reduceAdd,Nat.reduceMul,Nat.reduceLT,Nat.reduceEqDiff,Nat.reduceLeDiff,Int.reduceLE,Int.reduceLT,Int.reduceToNat,Int.reduceBNe,Int.reduceBEq,Int.reduceNeg,Int.reduceEq,Int.reduceAdd,Int.reduceGT,Int.reduceGE,reduceCtorEq]
    exact hK _ (g0.trans hg)
end
theorem set2 {s : List Ob} {i j : Nat} {a b : Ob} (hij : i ≠ j) (h1 : s[i]? = some a) (h2 : s[j]? = some b) : (∀ o, (s.set i o)[i]? = some o) ∧ (∀ o, (s.set i o)[j]? = some b) ∧ (∀ o o', ((s.set i o).set j o')[i]? = some o) ∧ (∀ o o', ((s.set i o).set j o')[j]? = some o') := by
  refine ⟨fun o => get_set h1 o, fun o => by rw [List.getElem?_set_ne hij]; exact h2, fun o o' => by rw [List.getElem?_set_ne (Ne.symm hij)]; exact get_set h1 o, fun o o' => ?_⟩
  have : (s.set i o)[j]? = some b := by rw [List.getElem?_set_ne hij]; exact h2
  exact get_set this o'
section
variable {n m : Nat} {st : List Ob} {K : V → List Ob → Prop} {x y a b d c z t : Int}
set_option maxHeartbeats 4000000 in
theorem c_Sides (hK1 : stepB x y d = true → ¬ d < 4 → ∀ s, Grw st s → K (.tup [.agg (cl (x + tX d) y), .agg (cl x (y + tY d)), .sc (.bool true)]) s)
    (hK0 : stepB x y d = false ∨ d < 4 → ∀ s, Grw st s → K (.tup [.agg (cl 0 0), .agg (cl 0 0), .sc (.bool false)]) s) : acallF Tryz.prog pl (n + 4) m 87 [.agg (cl x y), .sc (.int .i64 d)] st K := by
  refine acallF_inF Tryz.func87 rfl rfl Tryz.ntmps87 (by simp) ?_
  have g0 := Grw.push st [.cells (cl x y), .cells (cl 0 0), .cells (cl 0 0)]
  have x0 : (st ++ [Ob.cells (cl x y), .cells (cl 0 0), .cells (cl 0 0)])[st.length]? = some (.cells (cl x y)) := get_new _ _ 0
  have x1 : (st ++ [Ob.cells (cl x y), .cells (cl 0 0), .cells (cl 0 0)])[st.length + 1]? = some (.cells (cl 0 0)) := get_new _ _ 1
  have x2 : (st ++ [Ob.cells (cl x y), .cells (cl 0 0), .cells (cl 0 0)])[st.length + 2]? = some (.cells (cl 0 0)) := get_new _ _ 2
  simp only [cl] at g0 x0 x1 x2 hK0
  simp only [cl, x0, ↓zP,zV,Nat.reduceAdd,Nat.reduceMul,Nat.reduceLT,Nat.reduceEqDiff,Nat.reduceLeDiff,Int.reduceLE,Int.reduceLT,Int.reduceToNat,Int.reduceBNe,Int.reduceBEq,Int.reduceNeg,Int.reduceEq,Int.reduceAdd,Int.reduceGT,Int.reduceGE,reduceCtorEq]
  refine c_Step (n := n) fun s1 j1 => ?_
  have y0 := fun X => Grw.push s1 X _ _ (j1 _ _ x0)
  have y1 := fun X => Grw.push s1 X _ _ (j1 _ _ x1)
  have y2 := fun X => Grw.push s1 X _ _ (j1 _ _ x2)
  have g1 := fun X => (g0.trans j1).push' X
  have ne : st.length + 1 ≠ st.length + 2 := by omega
  have stn : ∀ (s : List Ob) (o o' : Ob), Grw st s → Grw st ((s.set (st.length + 1) o).set (st.length + 2) o') := fun s o o' h => (h.set (by omega) o).set (by omega) o'
  cases e : stepB x y d with
  | false =>
    have q := fun X => set2 ne (y1 X) (y2 X)
    have q1 := fun X => (q X).1
    have q2 := fun X => (q X).2.1
    have q3 := fun X => (q X).2.2.1
    have q4 := fun X => (q X).2.2.2
    simp only [cl, y0, y1, y2, q1, q2, q3, q4, e, ↓zP,zV,Nat.reduceAdd,Nat.reduceMul,Nat.reduceLT,Nat.reduceEqDiff,Nat.reduceLeDiff,Int.reduceLE,Int.reduceLT,Int.reduceToNat,Int.reduceBNe,Int.reduceBEq,Int.reduceNeg,Int.reduceEq,Int.reduceAdd,Int.reduceGT,Int.reduceGE,reduceCtorEq]
    exact hK0 (.inl e) _ (stn _ _ _ (g1 _))
  | true =>
    cases e1 : decide (d < 4) with
    | true =>
      have q := fun X => set2 ne (y1 X) (y2 X)
      have q1 := fun X => (q X).1
      have q2 := fun X => (q X).2.1
      have q3 := fun X => (q X).2.2.1
      have q4 := fun X => (q X).2.2.2
      simp only [cl, y0, y1, y2, q1, q2, q3, q4, e, e1, ↓zP,zV,Nat.reduceAdd,Nat.reduceMul,Nat.reduceLT,Nat.reduceEqDiff,Nat.reduceLeDiff,Int.reduceLE,Int.reduceLT,Int.reduceToNat,Int.reduceBNe,Int.reduceBEq,Int.reduceNeg,Int.reduceEq,Int.reduceAdd,Int.reduceGT,Int.reduceGE,reduceCtorEq]
      exact hK0 (.inr (of_decide_eq_true e1)) _ (stn _ _ _ (g1 _))
    | false =>
      have hK := hK1 e (of_decide_eq_false e1)
      simp only [stepB, Bool.and_eq_true] at e
      have w1 := near_w e.1.2.1 (t_rng d).1
      have w2 := near_w e.1.2.2 (t_rng d).2
      have w3 := near_w e.1.2.1 (d := 0) (by omega)
      have w4 := near_w e.1.2.2 (d := 0) (by omega)
      have e' : stepB x y d = true := by simp only [stepB, Bool.and_eq_true]; exact e
      simp only [cl, y0, y1, y2, e', e1, ↓zP,zV,Nat.reduceAdd,Nat.reduceMul,Nat.reduceLT,Nat.reduceEqDiff,Nat.reduceLeDiff,Int.reduceLE,Int.reduceLT,Int.reduceToNat,Int.reduceBNe,Int.reduceBEq,Int.reduceNeg,Int.reduceEq,Int.reduceAdd,Int.reduceGT,Int.reduceGE,reduceCtorEq]
      refine c_turn (n := n + 2) fun s2 j2 => ?_
      have z0 := fun X => Grw.push s2 X _ _ (j2 _ _ (y0 _))
      have z1 := fun X => Grw.push s2 X _ _ (j2 _ _ (y1 _))
      have z2 := fun X => Grw.push s2 X _ _ (j2 _ _ (y2 _))
      have g2 := fun X => ((g1 _).trans j2).push' X
      simp only [cl, z0, z1, z2, ↓zP,zV,Nat.reduceAdd,Nat.reduceMul,Nat.reduceLT,Nat.reduceEqDiff,Nat.reduceLeDiff,Int.reduceLE,Int.reduceLT,Int.reduceToNat,Int.reduceBNe,Int.reduceBEq,Int.reduceNeg,Int.reduceEq,Int.reduceAdd,Int.reduceGT,Int.reduceGE,reduceCtorEq]
      refine c_plus (n := n + 2) w1 w4 fun s3 j3 => ?_
      have t3 := j3 _ _ (get_new0 s2 [Ob.cells [V.sc (.int .i64 (tX d)), V.sc (.int .i64 (tY d))]])
      have a0 := j3 _ _ (z0 _)
      have a1 := j3 _ _ (z1 _)
      have a2 := j3 _ _ (z2 _)
      simp only [cl, z0, z1, z2, a0, a1, a2, t3, ↓zP,zV,Nat.reduceAdd,Nat.reduceMul,Nat.reduceLT,Nat.reduceEqDiff,Nat.reduceLeDiff,Int.reduceLE,Int.reduceLT,Int.reduceToNat,Int.reduceBNe,Int.reduceBEq,Int.reduceNeg,Int.reduceEq,Int.reduceAdd,Int.reduceGT,Int.reduceGE,reduceCtorEq]
      refine c_plus (n := n + 2) w3 w2 fun s4 j4 => ?_
      have b0 := j4 _ _ a0
      have q := set2 ne (j4 _ _ a1) (j4 _ _ a2)
      simp only [Int.add_zero, cl] at hK
      simp only [cl, b0, j4 _ _ a1, j4 _ _ a2, q.1, q.2.1, q.2.2.1, q.2.2.2, Int.add_zero, ↓zP,zV,Nat.reduceAdd,Nat.reduceMul,Nat.reduceLT,Nat.reduceEqDiff,Nat.reduceLeDiff,Int.reduceLE,Int.reduceLT,Int.reduceToNat,Int.reduceBNe,Int.reduceBEq,Int.reduceNeg,Int.reduceEq,Int.reduceAdd,Int.reduceGT,Int.reduceGE,reduceCtorEq]
      exact hK _ (stn _ _ _ (((g2 _).trans j3).trans j4))
set_option maxHeartbeats 4000000 in
theorem r_Sides (hK1 : stepB x y d = true → ¬ d < 4 → ∀ s, Grw st s → K (.tup [.agg (cl (x + tX d) y), .agg (cl x (y + tY d)), .sc (.bool true)]) s)
    (hK0 : stepB x y d = false ∨ d < 4 → ∀ s, Grw st s → K (.tup [.agg (cl 0 0), .agg (cl 0 0), .sc (.bool false)]) s) : acallF Tryz.prog pl (n + 4) m 105 [.agg (cl x y), .sc (.int .i64 d)] st K := by
  refine acallF_inF Tryz.func105 rfl rfl Tryz.ntmps105 (by simp) ?_
  have g0 := Grw.push st [.cells (cl x y), .cells (cl 0 0), .cells (cl 0 0)]
  have x0 : (st ++ [Ob.cells (cl x y), .cells (cl 0 0), .cells (cl 0 0)])[st.length]? = some (.cells (cl x y)) := get_new _ _ 0
  have x1 : (st ++ [Ob.cells (cl x y), .cells (cl 0 0), .cells (cl 0 0)])[st.length + 1]? = some (.cells (cl 0 0)) := get_new _ _ 1
  have x2 : (st ++ [Ob.cells (cl x y), .cells (cl 0 0), .cells (cl 0 0)])[st.length + 2]? = some (.cells (cl 0 0)) := get_new _ _ 2
  simp only [cl] at g0 x0 x1 x2 hK0
  simp only [cl, x0, ↓zP,zV,Nat.reduceAdd,Nat.reduceMul,Nat.reduceLT,Nat.reduceEqDiff,Nat.reduceLeDiff,Int.reduceLE,Int.reduceLT,Int.reduceToNat,Int.reduceBNe,Int.reduceBEq,Int.reduceNeg,Int.reduceEq,Int.reduceAdd,Int.reduceGT,Int.reduceGE,reduceCtorEq]
  refine r_Step (n := n) fun s1 j1 => ?_
  have y0 := fun X => Grw.push s1 X _ _ (j1 _ _ x0)
  have y1 := fun X => Grw.push s1 X _ _ (j1 _ _ x1)
  have y2 := fun X => Grw.push s1 X _ _ (j1 _ _ x2)
  have g1 := fun X => (g0.trans j1).push' X
  have ne : st.length + 1 ≠ st.length + 2 := by omega
  have stn : ∀ (s : List Ob) (o o' : Ob), Grw st s → Grw st ((s.set (st.length + 1) o).set (st.length + 2) o') := fun s o o' h => (h.set (by omega) o).set (by omega) o'
  have q := fun X => set2 ne (y1 X) (y2 X)
  have q1 := fun X => (q X).1
  have q2 := fun X => (q X).2.1
  have q3 := fun X => (q X).2.2.1
  have q4 := fun X => (q X).2.2.2
  cases e : stepB x y d with
  | false =>
    simp only [cl, y0, y1, y2, q1, q2, q3, q4, e, ↓zP,zV,Nat.reduceAdd,Nat.reduceMul,Nat.reduceLT,Nat.reduceEqDiff,Nat.reduceLeDiff,Int.reduceLE,Int.reduceLT,Int.reduceToNat,Int.reduceBNe,Int.reduceBEq,Int.reduceNeg,Int.reduceEq,Int.reduceAdd,Int.reduceGT,Int.reduceGE,reduceCtorEq]
    exact hK0 (.inl e) _ (stn _ _ _ (g1 _))
  | true =>
    cases e1 : decide (d < 4) with
    | true =>
      simp only [cl, y0, y1, y2, q1, q2, q3, q4, e, e1, ↓zP,zV,Nat.reduceAdd,Nat.reduceMul,Nat.reduceLT,Nat.reduceEqDiff,Nat.reduceLeDiff,Int.reduceLE,Int.reduceLT,Int.reduceToNat,Int.reduceBNe,Int.reduceBEq,Int.reduceNeg,Int.reduceEq,Int.reduceAdd,Int.reduceGT,Int.reduceGE,reduceCtorEq]
      exact hK0 (.inr (of_decide_eq_true e1)) _ (stn _ _ _ (g1 _))
    | false =>
      have hK := hK1 e (of_decide_eq_false e1)
      have e' := e
      simp only [stepB, Bool.and_eq_true] at e'
      have w1 := near_w e'.1.2.1 (t_rng d).1
      have w2 := near_w e'.1.2.2 (t_rng d).2
      simp only [cl, y0, y1, y2, e, e1, ↓zP,zV,Nat.reduceAdd,Nat.reduceMul,Nat.reduceLT,Nat.reduceEqDiff,Nat.reduceLeDiff,Int.reduceLE,Int.reduceLT,Int.reduceToNat,Int.reduceBNe,Int.reduceBEq,Int.reduceNeg,Int.reduceEq,Int.reduceAdd,Int.reduceGT,Int.reduceGE,reduceCtorEq]
      refine r_Turn (n := n + 2) ?_
      simp only [cl] at hK
      have n0 : st.length + 1 ≠ st.length := by omega
      have q0 := fun X o => (List.getElem?_set_ne (l := s1 ++ X) (a := o) n0).trans (y0 X)
      simp only [cl, y0, y1, y2, q0, q1, q2, q3, q4, w1, w2, ↓zP,zV,Nat.reduceAdd,Nat.reduceMul,Nat.reduceLT,Nat.reduceEqDiff,Nat.reduceLeDiff,Int.reduceLE,Int.reduceLT,Int.reduceToNat,Int.reduceBNe,Int.reduceBEq,Int.reduceNeg,Int.reduceEq,Int.reduceAdd,Int.reduceGT,Int.reduceGE,reduceCtorEq]
      exact hK _ (stn _ _ _ (g1 _))
theorem c_CMay (hK : ∀ s, Grw st s → K (.sc (.bool (shB c z))) s) : acallF Tryz.prog pl (n + 1) m 83 [.agg (cl c z)] st K := by
  refine acallF_inF Tryz.func83 rfl rfl Tryz.ntmps83 (by simp) ?_
  simp only [shB] at hK
  cases d1 : decide (c ≥ 0) <;> cases d2 : decide (c < 4) <;> cases d3 : decide (z ≥ 1) <;> cases d4 : decide (z ≤ 4) <;>
  · simp only [d1, d2, d3, d4, Bool.and_self, Bool.and_true, Bool.true_and, Bool.and_false, Bool.false_and] at hK
    simp only [cl, d1, d2, d3, d4, ↓zP,zV,Nat.reduceAdd,Nat.reduceMul,Nat.reduceLT,Nat.reduceEqDiff,Nat.reduceLeDiff,Int.reduceLE,Int.reduceLT,Int.reduceToNat,Int.reduceBNe,Int.reduceBEq,Int.reduceNeg,Int.reduceEq,Int.reduceAdd,Int.reduceGT,Int.reduceGE,reduceCtorEq]
    exact hK _ (Grw.push _ _)
theorem r_CMay (hK : ∀ s, Grw st s → K (.sc (.bool (shB c z))) s) : acallF Tryz.prog pl (n + 1) m 101 [.agg (cl c z)] st K := by
  refine acallF_inF Tryz.func101 rfl rfl Tryz.ntmps101 (by simp) ?_
  simp only [shB] at hK
  cases d1 : decide (c ≥ 0) <;> cases d2 : decide (c < 4) <;> cases d3 : decide (z ≥ 1) <;> cases d4 : decide (z ≤ 4) <;>
  · simp only [d1, d2, d3, d4, Bool.and_self, Bool.and_true, Bool.true_and, Bool.and_false, Bool.false_and] at hK
    simp only [cl, d1, d2, d3, d4, ↓zP,zV,Nat.reduceAdd,Nat.reduceMul,Nat.reduceLT,Nat.reduceEqDiff,Nat.reduceLeDiff,Int.reduceLE,Int.reduceLT,Int.reduceToNat,Int.reduceBNe,Int.reduceBEq,Int.reduceNeg,Int.reduceEq,Int.reduceAdd,Int.reduceGT,Int.reduceGE,reduceCtorEq]
    exact hK _ (Grw.push _ _)
theorem r_On (hK : K (.sc (.bool (onB c t))) st) : acallF Tryz.prog pl (n + 1) m 75 [.sc (.int .i64 c), .sc (.int .i64 t)] st K := by
  refine acallF_inF Tryz.func75 rfl rfl Tryz.ntmps75 (by simp) ?_
  by_cases h0 : c = 0
  · subst h0
    cases e1 : (t == 0) <;> cases e2 : (t == 1) <;>
    · simp only [onB, e1, e2] at hK
      simp only [e1, e2, ↓zP,zV,Nat.reduceAdd,Nat.reduceMul,Nat.reduceLT,Nat.reduceEqDiff,Nat.reduceLeDiff,Int.reduceLE,Int.reduceLT,Int.reduceToNat,Int.reduceBNe,Int.reduceBEq,Int.reduceNeg,Int.reduceEq,Int.reduceAdd,Int.reduceGT,Int.reduceGE,reduceCtorEq]
      exact hK
  by_cases h1 : c = 1
  · subst h1
    cases e1 : (t == 0) <;>
    · simp only [onB, e1] at hK
      simp only [e1, ↓zP,zV,Nat.reduceAdd,Nat.reduceMul,Nat.reduceLT,Nat.reduceEqDiff,Nat.reduceLeDiff,Int.reduceLE,Int.reduceLT,Int.reduceToNat,Int.reduceBNe,Int.reduceBEq,Int.reduceNeg,Int.reduceEq,Int.reduceAdd,Int.reduceGT,Int.reduceGE,reduceCtorEq]
      exact hK
  by_cases h2 : c = 2
  · subst h2
    cases e1 : (t == 2) <;>
    · simp only [onB, e1] at hK
      simp only [e1, ↓zP,zV,Nat.reduceAdd,Nat.reduceMul,Nat.reduceLT,Nat.reduceEqDiff,Nat.reduceLeDiff,Int.reduceLE,Int.reduceLT,Int.reduceToNat,Int.reduceBNe,Int.reduceBEq,Int.reduceNeg,Int.reduceEq,Int.reduceAdd,Int.reduceGT,Int.reduceGE,reduceCtorEq]
      exact hK
  by_cases h3 : c = 3
  · subst h3
    cases e1 : (t == 0) <;> cases e2 : (t == 2) <;>
    · simp only [onB, e1, e2] at hK
      simp only [e1, e2, ↓zP,zV,Nat.reduceAdd,Nat.reduceMul,Nat.reduceLT,Nat.reduceEqDiff,Nat.reduceLeDiff,Int.reduceLE,Int.reduceLT,Int.reduceToNat,Int.reduceBNe,Int.reduceBEq,Int.reduceNeg,Int.reduceEq,Int.reduceAdd,Int.reduceGT,Int.reduceGE,reduceCtorEq]
      exact hK
  have b0 : (c == 0) = false := beq_eq_false_iff_ne.2 h0
  have b1 : (c == 1) = false := beq_eq_false_iff_ne.2 h1
  have b2 : (c == 2) = false := beq_eq_false_iff_ne.2 h2
  have b3 : (c == 3) = false := beq_eq_false_iff_ne.2 h3
  simp only [onB, b0, b1, b2, b3, Bool.false_and, Bool.or_self] at hK
  simp only [b0, b1, b2, b3, ↓zP,zV,Nat.reduceAdd,Nat.reduceMul,Nat.reduceLT,Nat.reduceEqDiff,Nat.reduceLeDiff,Int.reduceLE,Int.reduceLT,Int.reduceToNat,Int.reduceBNe,Int.reduceBEq,Int.reduceNeg,Int.reduceEq,Int.reduceAdd,Int.reduceGT,Int.reduceGE,reduceCtorEq]
  exact hK
theorem c_On (hK : ∀ s, Grw st s → K (.sc (.bool (onB c t))) s) : acallF Tryz.prog pl (n + 1) m 119 [.sc (.int .i64 c), .sc (.int .i64 t)] st K := by
  refine acallF_inF Tryz.func119 rfl rfl Tryz.ntmps119 (by simp) ?_
  have no : (c ≥ 0 ∧ c < 4 ∧ t ≥ 0 ∧ t < 4) ∨ onB c t = false := by
    by_cases h : c ≥ 0 ∧ c < 4 ∧ t ≥ 0 ∧ t < 4
    · exact .inl h
    · right
      unfold onB
      simp only [Bool.or_eq_false_iff, Bool.and_eq_false_iff, beq_eq_false_iff_ne, ne_eq]
      omega
  by_cases h : c ≥ 0 ∧ c < 4 ∧ t ≥ 0 ∧ t < 4
  · have hc : c = 0 ∨ c = 1 ∨ c = 2 ∨ c = 3 := by omega
    have ht : t = 0 ∨ t = 1 ∨ t = 2 ∨ t = 3 := by omega
    rcases hc with rfl | rfl | rfl | rfl <;> rcases ht with rfl | rfl | rfl | rfl <;>
    · simp only [↓zP,zV,Nat.reduceAdd,Nat.reduceMul,Nat.reduceLT,Nat.reduceEqDiff,Nat.reduceLeDiff,Int.reduceLE,Int.reduceLT,Int.reduceToNat,Int.reduceBNe,Int.reduceBEq,Int.reduceNeg,Int.reduceEq,Int.reduceAdd,Int.reduceGT,Int.reduceGE,reduceCtorEq]
      exact hK _ (Grw.push _ _)
  · have hf : onB c t = false := no.resolve_left h
    rw [hf] at hK
    cases d1 : decide (c ≥ 0) with
    | false =>
      simp only [d1, ↓zP,zV,Nat.reduceAdd,Nat.reduceMul,Nat.reduceLT,Nat.reduceEqDiff,Nat.reduceLeDiff,Int.reduceLE,Int.reduceLT,Int.reduceToNat,Int.reduceBNe,Int.reduceBEq,Int.reduceNeg,Int.reduceEq,Int.reduceAdd,Int.reduceGT,Int.reduceGE,reduceCtorEq]
      exact hK _ (Grw.push _ _)
    | true =>
    cases d2 : decide (c < 4) with
    | false =>
      simp only [d1, d2, ↓zP,zV,Nat.reduceAdd,Nat.reduceMul,Nat.reduceLT,Nat.reduceEqDiff,Nat.reduceLeDiff,Int.reduceLE,Int.reduceLT,Int.reduceToNat,Int.reduceBNe,Int.reduceBEq,Int.reduceNeg,Int.reduceEq,Int.reduceAdd,Int.reduceGT,Int.reduceGE,reduceCtorEq]
      exact hK _ (Grw.push _ _)
    | true =>
    cases d3 : decide (t ≥ 0) with
    | false =>
      simp only [d1, d2, d3, ↓zP,zV,Nat.reduceAdd,Nat.reduceMul,Nat.reduceLT,Nat.reduceEqDiff,Nat.reduceLeDiff,Int.reduceLE,Int.reduceLT,Int.reduceToNat,Int.reduceBNe,Int.reduceBEq,Int.reduceNeg,Int.reduceEq,Int.reduceAdd,Int.reduceGT,Int.reduceGE,reduceCtorEq]
      exact hK _ (Grw.push _ _)
    | true =>
    cases d4 : decide (t < 4) with
    | false =>
      simp only [d1, d2, d3, d4, ↓zP,zV,Nat.reduceAdd,Nat.reduceMul,Nat.reduceLT,Nat.reduceEqDiff,Nat.reduceLeDiff,Int.reduceLE,Int.reduceLT,Int.reduceToNat,Int.reduceBNe,Int.reduceBEq,Int.reduceNeg,Int.reduceEq,Int.reduceAdd,Int.reduceGT,Int.reduceGE,reduceCtorEq]
      exact hK _ (Grw.push _ _)
    | true => exact absurd ⟨of_decide_eq_true d1, of_decide_eq_true d2, of_decide_eq_true d3, of_decide_eq_true d4⟩ h
theorem c_Foot (hK1 : (shB c z && mayB x y z z) = true → ∀ s, Grw st s → K (.agg (rc x y z z)) s) (hK0 : (shB c z && mayB x y z z) = false → ∀ s, Grw st s → K (.agg (rc 0 0 0 0)) s) :
    acallF Tryz.prog pl (n + 4) m 115 [.agg (cl c z), .agg (cl x y)] st K := by
  refine acallF_inF Tryz.func115 rfl rfl Tryz.ntmps115 (by simp) ?_
  have g0 := Grw.push st [.cells (cl c z), .cells (cl x y), .cells (rc 0 0 0 0), .cells (rc x y z z)]
  have x0 : (st ++ [Ob.cells (cl c z), .cells (cl x y), .cells (rc 0 0 0 0), .cells (rc x y z z)])[st.length + 2]? = some (.cells (rc 0 0 0 0)) := get_new _ _ 2
  have x1 : (st ++ [Ob.cells (cl c z), .cells (cl x y), .cells (rc 0 0 0 0), .cells (rc x y z z)])[st.length + 3]? = some (.cells (rc x y z z)) := get_new _ _ 3
  simp only [cl, rc] at g0 x0 x1 hK0 hK1
  simp only [cl, rc, ↓zP,zV,Nat.reduceAdd,Nat.reduceMul,Nat.reduceLT,Nat.reduceEqDiff,Nat.reduceLeDiff,Int.reduceLE,Int.reduceLT,Int.reduceToNat,Int.reduceBNe,Int.reduceBEq,Int.reduceNeg,Int.reduceEq,Int.reduceAdd,Int.reduceGT,Int.reduceGE,reduceCtorEq]
  refine c_CMay (n := n + 2) fun s1 j1 => ?_
  have y0 := j1 _ _ x0
  have y1 := j1 _ _ x1
  have q := fun o => get_set y0 o
  have g1 := g0.trans j1
  cases e : shB c z with
  | false =>
    simp only [y0, y1, q, e, ↓zP,zV,Nat.reduceAdd,Nat.reduceMul,Nat.reduceLT,Nat.reduceEqDiff,Nat.reduceLeDiff,Int.reduceLE,Int.reduceLT,Int.reduceToNat,Int.reduceBNe,Int.reduceBEq,Int.reduceNeg,Int.reduceEq,Int.reduceAdd,Int.reduceGT,Int.reduceGE,reduceCtorEq]
    exact hK0 (by rw [e]; rfl) _ (g1.set (by omega) _)
  | true =>
    simp only [y0, y1, q, e, ↓zP,zV,Nat.reduceAdd,Nat.reduceMul,Nat.reduceLT,Nat.reduceEqDiff,Nat.reduceLeDiff,Int.reduceLE,Int.reduceLT,Int.reduceToNat,Int.reduceBNe,Int.reduceBEq,Int.reduceNeg,Int.reduceEq,Int.reduceAdd,Int.reduceGT,Int.reduceGE,reduceCtorEq]
    refine c_May (n := n) fun s2 j2 => ?_
    have z0 := j2 _ _ y0
    have z1 := j2 _ _ y1
    have q := fun o => get_set z0 o
    have g2 := g1.trans j2
    cases e1 : mayB x y z z with
    | false =>
      simp only [z0, z1, q, e1, ↓zP,zV,Nat.reduceAdd,Nat.reduceMul,Nat.reduceLT,Nat.reduceEqDiff,Nat.reduceLeDiff,Int.reduceLE,Int.reduceLT,Int.reduceToNat,Int.reduceBNe,Int.reduceBEq,Int.reduceNeg,Int.reduceEq,Int.reduceAdd,Int.reduceGT,Int.reduceGE,reduceCtorEq]
      exact hK0 (by rw [e1, Bool.and_false]) _ (g2.set (by omega) _)
    | true =>
      simp only [z0, z1, q, e1, ↓zP,zV,Nat.reduceAdd,Nat.reduceMul,Nat.reduceLT,Nat.reduceEqDiff,Nat.reduceLeDiff,Int.reduceLE,Int.reduceLT,Int.reduceToNat,Int.reduceBNe,Int.reduceBEq,Int.reduceNeg,Int.reduceEq,Int.reduceAdd,Int.reduceGT,Int.reduceGE,reduceCtorEq]
      exact hK1 (by rw [e, e1]; rfl) _ (g2.set (by omega) _)
theorem r_Foot (hK1 : (shB c z && mayB x y z z) = true → ∀ s, Grw st s → K (.agg (rc x y z z)) s) (hK0 : (shB c z && mayB x y z z) = false → ∀ s, Grw st s → K (.agg (rc 0 0 0 0)) s) :
    acallF Tryz.prog pl (n + 4) m 71 [.agg (cl c z), .agg (cl x y)] st K := by
  refine acallF_inF Tryz.func71 rfl rfl Tryz.ntmps71 (by simp) ?_
  have g0 := Grw.push st [.cells (cl c z), .cells (cl x y), .cells (rc 0 0 0 0), .cells (rc x y z z)]
  have x0 : (st ++ [Ob.cells (cl c z), .cells (cl x y), .cells (rc 0 0 0 0), .cells (rc x y z z)])[st.length + 2]? = some (.cells (rc 0 0 0 0)) := get_new _ _ 2
  have x1 : (st ++ [Ob.cells (cl c z), .cells (cl x y), .cells (rc 0 0 0 0), .cells (rc x y z z)])[st.length + 3]? = some (.cells (rc x y z z)) := get_new _ _ 3
  simp only [cl, rc] at g0 x0 x1 hK0 hK1
  simp only [cl, rc, ↓zP,zV,Nat.reduceAdd,Nat.reduceMul,Nat.reduceLT,Nat.reduceEqDiff,Nat.reduceLeDiff,Int.reduceLE,Int.reduceLT,Int.reduceToNat,Int.reduceBNe,Int.reduceBEq,Int.reduceNeg,Int.reduceEq,Int.reduceAdd,Int.reduceGT,Int.reduceGE,reduceCtorEq]
  refine r_CMay (n := n + 2) fun s1 j1 => ?_
  have y0 := j1 _ _ x0
  have y1 := j1 _ _ x1
  have q := fun o => get_set y0 o
  have g1 := g0.trans j1
  cases e : shB c z with
  | false =>
    simp only [y0, y1, q, e, ↓zP,zV,Nat.reduceAdd,Nat.reduceMul,Nat.reduceLT,Nat.reduceEqDiff,Nat.reduceLeDiff,Int.reduceLE,Int.reduceLT,Int.reduceToNat,Int.reduceBNe,Int.reduceBEq,Int.reduceNeg,Int.reduceEq,Int.reduceAdd,Int.reduceGT,Int.reduceGE,reduceCtorEq]
    exact hK0 (by rw [e]; rfl) _ (g1.set (by omega) _)
  | true =>
    simp only [y0, y1, q, e, ↓zP,zV,Nat.reduceAdd,Nat.reduceMul,Nat.reduceLT,Nat.reduceEqDiff,Nat.reduceLeDiff,Int.reduceLE,Int.reduceLT,Int.reduceToNat,Int.reduceBNe,Int.reduceBEq,Int.reduceNeg,Int.reduceEq,Int.reduceAdd,Int.reduceGT,Int.reduceGE,reduceCtorEq]
    refine r_May (n := n) fun s2 j2 => ?_
    have z0 := j2 _ _ y0
    have z1 := j2 _ _ y1
    have q := fun o => get_set z0 o
    have g2 := g1.trans j2
    cases e1 : mayB x y z z with
    | false =>
      simp only [z0, z1, q, e1, ↓zP,zV,Nat.reduceAdd,Nat.reduceMul,Nat.reduceLT,Nat.reduceEqDiff,Nat.reduceLeDiff,Int.reduceLE,Int.reduceLT,Int.reduceToNat,Int.reduceBNe,Int.reduceBEq,Int.reduceNeg,Int.reduceEq,Int.reduceAdd,Int.reduceGT,Int.reduceGE,reduceCtorEq]
      exact hK0 (by rw [e1, Bool.and_false]) _ (g2.set (by omega) _)
    | true =>
      simp only [z0, z1, q, e1, ↓zP,zV,Nat.reduceAdd,Nat.reduceMul,Nat.reduceLT,Nat.reduceEqDiff,Nat.reduceLeDiff,Int.reduceLE,Int.reduceLT,Int.reduceToNat,Int.reduceBNe,Int.reduceBEq,Int.reduceNeg,Int.reduceEq,Int.reduceAdd,Int.reduceGT,Int.reduceGE,reduceCtorEq]
      exact hK1 (by rw [e, e1]; rfl) _ (g2.set (by omega) _)
end
structure Wo (s : List Ob) (wd : Nat) (ro : Option Nat) (WW HH : Int) (T : List Int) (L : List B4) : Prop where
  ok : refOK WW HH T L = true
  tb : ∀ t ∈ T, 0 ≤ t ∧ t < 256
  ex : ∃ a b tv dv us os ds, Wg s wd a b WW HH tv dv (bs T) us os ds ∧ (∀ r, ro = some r → ∃ tv2 bv ev ds2, Wr s r WW HH tv2 bv ev (bs T) L ds2) ∧ Rel WW HH us os L
theorem bs_all {T : List Int} (h : ∀ t ∈ T, 0 ≤ t ∧ t < 256) : ∀ v ∈ bs T, ∃ k : Int, v = .sc (.int .u8 k) ∧ 0 ≤ k ∧ k < 256 := by
  intro v hv
  simp only [bs, List.mem_map] at hv
  obtain ⟨t, ht, rfl⟩ := hv
  exact ⟨t, rfl, (h t ht).1, (h t ht).2⟩
section
variable {n m : Nat} {st s S0 : List Ob} {K : V → List Ob → Prop} {wd rd : Nat} {ro : Option Nat} {WW HH : Int} {T : List Int} {L : List B4} {x y c z : Int}
theorem Wo.grw (h : Wo st wd ro WW HH T L) (k : Grw st s) : Wo s wd ro WW HH T L := by
  obtain ⟨a, b, tv, dv, us, os, ds, h1, h2, h3⟩ := h.ex
  refine ⟨h.ok, h.tb, a, b, tv, dv, us, os, ds, h1.grw k, fun r hr => ?_, h3⟩
  obtain ⟨tv2, bv, ev, ds2, h4⟩ := h2 r hr
  exact ⟨tv2, bv, ev, ds2, h4.grw k⟩
theorem Wo.terr (h : Wo st wd ro WW HH T L) (hK : ∀ s, Grw st s → K (.tup [.sc (.int .i64 (terK WW HH (bs T) x y)), .sc (.bool (hasB 0 0 WW HH x y))]) s) : acallF Tryz.prog pl (n + 5) m 117 [.ref wd 0, .agg (cl x y)] st K := by
  obtain ⟨a, b, tv, dv, us, os, ds, h1, h2, h3⟩ := h.ex
  obtain ⟨hW, hH, hl, _⟩ := refOK_facts h.ok
  exact w_Terr h1 hW hH (by rw [bs_len]; exact hl) (bs_all h.tb) hK
theorem Wo.rterr (h : Wo st wd (some rd) WW HH T L) (hK : ∀ s, Grw st s → K (.tup [.sc (.int .i64 (terK WW HH (bs T) x y)), .sc (.bool (hasB 0 0 WW HH x y))]) s) : acallF Tryz.prog pl (n + 5) m 73 [.ref rd 0, .agg (cl x y)] st K := by
  obtain ⟨a, b, tv, dv, us, os, ds, h1, h2, h3⟩ := h.ex
  obtain ⟨tv2, bv, ev, ds2, h4⟩ := h2 rd rfl
  obtain ⟨hW, hH, hl, _⟩ := refOK_facts h.ok
  exact q_Terr h4 hW hH (by rw [bs_len]; exact hl) (bs_all h.tb) hK
theorem Wo.at_ (h : Wo st wd ro WW HH T L) (hK : ∀ s, Grw st s → K (.tup [.sc (.int .i64 (atK L x y)), .sc (.bool (L.find? (hasU x y)).isSome)]) s) : acallF Tryz.prog pl (n + 2) m 118 [.ref wd 0, .agg (cl x y)] st K := by
  obtain ⟨a, b, tv, dv, us, os, ds, h1, h2, h3⟩ := h.ex
  exact w_Atk h1 h3 hK
theorem Wo.rat (h : Wo st wd (some rd) WW HH T L) (hm : 300 < m) (hK : ∀ s, Grw st s → K (.tup [.sc (.int .i64 (atK L x y)), .sc (.bool (L.find? (hasU x y)).isSome)]) s) : acallF Tryz.prog pl (n + 5) m 74 [.ref rd 0, .agg (cl x y)] st K := by
  obtain ⟨a, b, tv, dv, us, os, ds, h1, h2, h3⟩ := h.ex
  obtain ⟨tv2, bv, ev, ds2, h4⟩ := h2 rd rfl
  obtain ⟨hW, hH, hl, hL⟩ := refOK_facts h.ok
  exact q_Atk h4 (by omega) (by omega) hK
theorem Wo.all (h : Wo st wd ro WW HH T L) (hK : ∀ s, Grw st s → K (.agg (rc 0 0 WW HH)) s) : acallF Tryz.prog pl (n + 2) m 90 [.ref wd 0] st K := by
  obtain ⟨a, b, tv, dv, us, os, ds, h1, h2, h3⟩ := h.ex
  exact w_All1 h1.wd hK
theorem Wo.rall (h : Wo st wd (some rd) WW HH T L) (hK : ∀ s, Grw st s → K (.agg (rc 0 0 WW HH)) s) : acallF Tryz.prog pl (n + 1) m 34 [.ref rd 0] st K := by
  obtain ⟨a, b, tv, dv, us, os, ds, h1, h2, h3⟩ := h.ex
  obtain ⟨tv2, bv, ev, ds2, h4⟩ := h2 rd rfl
  exact q_All h4 hK
set_option maxHeartbeats 4000000 in
theorem std_yl {ps : Array Tmp} {asg body : Code} (hc : frf (Tryz.f86.body.getD .skip) = some (ps, asg, body)) {F : Nat → V} {t3 t4 t6 lid : Nat} {p : Option Code} (q3 : F 3 = .ref t3 0) (q4 : F 4 = .ref t4 0) (q6 : F 6 = .ref t6 0)
    (hw : Wo S0 wd ro WW HH T L) (hg : Grw S0 s) (hlid : S0.length ≤ lid) (h3 : s[t3]? = some (.cells [.ref wd 0])) (h4 : s[t4]? = some (.cells (cl c z))) (h6 : s[t6]? = some (.cells [.sc (.bool false)]))
    (hl : s[lid]? = some (.loop .ready p (pl 86) (ofF 44 F) ps.toList asg body))
    (hK : tileB WW HH (bs T) L c x y = true → ∀ s', s'[lid]? = some (.loop .ready none (pl 86) (ofF 44 F) ps.toList asg body) → (∀ j o, j ≠ lid → s[j]? = some o → s'[j]? = some o) → K (.sc (.bool true)) s')
    (hK2 : tileB WW HH (bs T) L c x y = false → ∀ s', s'[lid]? = some (.loop .done (some .ret) (pl 86) (ofF 44 F) ps.toList asg body) → s'[t6]? = some (.cells [.sc (.bool false)]) → (∀ j o, j ≠ lid → j ≠ t6 → s[j]? = some o → s'[j]? = some o) → K (.sc (.bool false)) s') :
    acallF Tryz.prog pl (n + 6) m Tryz.prog.funcs.size [.yl lid, .agg (cl x y)] s K := by
  simp only [Tryz.f86, Option.getD_some, frf, Option.some.injEq, Prod.mk.injEq] at hc
  obtain ⟨rfl, rfl, rfl⟩ := hc
  refine acallF_yl hl rfl ?_
  rw [show (#[23] : Array Tmp).toList = [23] from rfl, aputs_one (by decide)]
  simp only [cl] at h4
  simp only [cl, ↓zP,zV,Nat.reduceAdd,Nat.reduceMul,Nat.reduceLT,Nat.reduceEqDiff,Nat.reduceLeDiff,Int.reduceLE,Int.reduceLT,Int.reduceToNat,Int.reduceBNe,Int.reduceBEq,Int.reduceNeg,Int.reduceEq,Int.reduceAdd,Int.reduceGT,Int.reduceGE,reduceCtorEq]
  have g0 := Grw.push s [.cells [.sc (.int .i64 x), .sc (.int .i64 y)]]
  have c8 : (s ++ [Ob.cells [V.sc (.int .i64 x), V.sc (.int .i64 y)]])[s.length]? = some (.cells [V.sc (.int .i64 x), V.sc (.int .i64 y)]) := get_new0 _ _
  refine rdMid_ok (g0 _ _ hl) ?_
  generalize hs1 : (s ++ [Ob.cells [V.sc (.int .i64 x), V.sc (.int .i64 y)]]) = s1 at g0 c8
  have nl : s.length ≠ lid := fun he => by subst he; rw [List.getElem?_eq_none (Nat.le_refl _)] at hl; cases hl
  have lt : lid < s1.length := (List.getElem?_eq_some_iff.1 (g0 _ _ hl)).1
  have nc : ∀ (j : Nat) (c : List V), s[j]? = some (.cells c) → j ≠ lid := fun j c hj he => by subst he; rw [hl] at hj; cases hj
  generalize hs2 : s1.set lid _ = s2
  have k : ∀ j o, j ≠ lid → s1[j]? = some o → s2[j]? = some o := fun j o hj ho => by rw [← hs2, List.getElem?_set_ne (Ne.symm hj)]; exact ho
  have d3 := k _ _ (nc _ _ h3) (g0 _ _ h3)
  have d4 := k _ _ (nc _ _ h4) (g0 _ _ h4)
  have d6 := k _ _ (nc _ _ h6) (g0 _ _ h6)
  have d8 := k _ _ nl c8
  have dl : ∀ o, s1.set lid o = s2 → s2[lid]? = some o := fun o ho => by rw [← ho]; exact List.getElem?_set_self lt
  have dl := dl _ hs2
  have fr : ∀ j o, j ≠ lid → s[j]? = some o → s2[j]? = some o := fun j o hj ho => k _ _ hj (g0 _ _ ho)
  have G2 : Grw S0 s2 := fun j o hj => by
    have := (List.getElem?_eq_some_iff.1 hj).1
    exact fr _ _ (by omega) (hg _ _ hj)
  simp only [q3, q4, d3, d8, ↓zP,zV,Nat.reduceAdd,Nat.reduceMul,Nat.reduceLT,Nat.reduceEqDiff,Nat.reduceLeDiff,Int.reduceLE,Int.reduceLT,Int.reduceToNat,Int.reduceBNe,Int.reduceBEq,Int.reduceNeg,Int.reduceEq,Int.reduceAdd,Int.reduceGT,Int.reduceGE,reduceCtorEq]
  refine (hw.grw G2).terr (n := n) fun s3 j3 => ?_
  simp only [q3, q4, d3, d8, j3 _ _ d3, j3 _ _ d8, ↓zP,zV,Nat.reduceAdd,Nat.reduceMul,Nat.reduceLT,Nat.reduceEqDiff,Nat.reduceLeDiff,Int.reduceLE,Int.reduceLT,Int.reduceToNat,Int.reduceBNe,Int.reduceBEq,Int.reduceNeg,Int.reduceEq,Int.reduceAdd,Int.reduceGT,Int.reduceGE,reduceCtorEq]
  refine ((hw.grw G2).grw j3).at_ (n := n + 3) fun s4 j4 => ?_
  have j24 := j3.trans j4
  have e4 := j24 _ _ d4
  have e6 := j24 _ _ d6
  have n6 := nc _ _ h6
  have el := j24 _ _ dl
  have q6' := fun o => get_set e6 o
  have bad : tileB WW HH (bs T) L c x y = false → ∀ s5, Grw s4 s5 → K (.sc (.bool false)) ((s5.set t6 (.cells [.sc (.bool false)])).set lid (.loop .done (some .ret) (pl 86) (ofF 44 F) [23] _ _)) := fun hb s5 j5 => by
    have l6 := (List.getElem?_eq_some_iff.1 (j5 _ _ e6)).1
    have ll := (List.getElem?_eq_some_iff.1 (j5 _ _ el)).1
    refine hK2 hb _ ?_ ?_ ?_
    · rw [List.getElem?_set_self (by rw [List.length_set]; exact ll)]
    · rw [List.getElem?_set_ne (Ne.symm n6), List.getElem?_set_self l6]
    · intro j o hjl hj6 ho
      rw [List.getElem?_set_ne (Ne.symm hjl), List.getElem?_set_ne (Ne.symm hj6)]
      exact j5 _ _ (j24 _ _ (fr _ _ hjl ho))
  cases eb : (L.find? (hasU x y)).isSome with
  | true =>
    simp only [q3, q4, q6, e4, e6, q6', eb, ↓zP,zV,Nat.reduceAdd,Nat.reduceMul,Nat.reduceLT,Nat.reduceEqDiff,Nat.reduceLeDiff,Int.reduceLE,Int.reduceLT,Int.reduceToNat,Int.reduceBNe,Int.reduceBEq,Int.reduceNeg,Int.reduceEq,Int.reduceAdd,Int.reduceGT,Int.reduceGE,reduceCtorEq]
    refine rdEnd_ret (by rw [List.getElem?_set_ne n6]; exact el) ?_
    exact bad (by simp only [tileB, eb, Bool.not_true, Bool.false_and]) _ (Grw.refl _)
  | false =>
    simp only [q3, q4, e4, eb, ↓zP,zV,Nat.reduceAdd,Nat.reduceMul,Nat.reduceLT,Nat.reduceEqDiff,Nat.reduceLeDiff,Int.reduceLE,Int.reduceLT,Int.reduceToNat,Int.reduceBNe,Int.reduceBEq,Int.reduceNeg,Int.reduceEq,Int.reduceAdd,Int.reduceGT,Int.reduceGE,reduceCtorEq]
    refine c_On (n := n + 4) fun s5 j5 => ?_
    have e6 := j5 _ _ e6
    have q6' := fun o => get_set e6 o
    cases eo : onB c (terK WW HH (bs T) x y) with
    | false =>
      simp only [q6, e6, q6', eo, ↓zP,zV,Nat.reduceAdd,Nat.reduceMul,Nat.reduceLT,Nat.reduceEqDiff,Nat.reduceLeDiff,Int.reduceLE,Int.reduceLT,Int.reduceToNat,Int.reduceBNe,Int.reduceBEq,Int.reduceNeg,Int.reduceEq,Int.reduceAdd,Int.reduceGT,Int.reduceGE,reduceCtorEq]
      refine rdEnd_ret (by rw [List.getElem?_set_ne n6]; exact j5 _ _ el) ?_
      exact bad (by simp only [tileB, eo, Bool.and_false]) _ j5
    | true =>
      simp only [eo, ↓zP,zV,Nat.reduceAdd,Nat.reduceMul,Nat.reduceLT,Nat.reduceEqDiff,Nat.reduceLeDiff,Int.reduceLE,Int.reduceLT,Int.reduceToNat,Int.reduceBNe,Int.reduceBEq,Int.reduceNeg,Int.reduceEq,Int.reduceAdd,Int.reduceGT,Int.reduceGE,reduceCtorEq]
      refine rdEnd_normal (j5 _ _ el) ?_
      refine hK (by simp only [tileB, eb, eo, Bool.not_false, Bool.and_self]) _ ?_ ?_
      · rw [List.getElem?_set_self (List.getElem?_eq_some_iff.1 (j5 _ _ el)).1]
      · intro j o hjl ho
        rw [List.getElem?_set_ne (Ne.symm hjl)]
        exact j5 _ _ (j24 _ _ (fr _ _ hjl ho))
def footB (WW HH : Int) (ts : List V) (L : List B4) (c x y : Int) (W k : Nat) : Bool := (List.range k).all fun q => tileB WW HH ts L c (x + (q % W : Nat)) (y + (q / W : Nat))
theorem footB_succ {ts : List V} {W : Nat} (k : Nat) : footB WW HH ts L c x y W (k + 1) = (footB WW HH ts L c x y W k && tileB WW HH ts L c (x + (k % W : Nat)) (y + (k / W : Nat))) := by
  simp only [footB, List.range_succ, List.all_append, List.all_cons, List.all_nil, Bool.and_true]
theorem footB_le {ts : List V} {W : Nat} {k k' : Nat} (h : k ≤ k') (ha : footB WW HH ts L c x y W k = false) : footB WW HH ts L c x y W k' = false := by
  cases hh : footB WW HH ts L c x y W k' with
  | false => rfl
  | true =>
    simp only [footB, List.all_eq_true, List.mem_range] at hh
    have : footB WW HH ts L c x y W k = true := by
      simp only [footB, List.all_eq_true, List.mem_range]
      exact fun q hq => hh q (by omega)
    rw [this] at ha; cases ha
set_option maxHeartbeats 1000000 in
theorem std_loop {ps : Array Tmp} {asg body : Code} (hc : frf (Tryz.f86.body.getD .skip) = some (ps, asg, body)) {F : Nat → V} {t3 t4 t6 lid rb W : Nat} (q3 : F 3 = .ref t3 0) (q4 : F 4 = .ref t4 0) (q6 : F 6 = .ref t6 0)
    (hw : Wo S0 wd ro WW HH T L) (hg : Grw S0 s) (hlid : S0.length ≤ lid) (hmay : mayB x y W W = true) (hm : W < m) (h3 : s[t3]? = some (.cells [.ref wd 0])) (h4 : s[t4]? = some (.cells (cl c z))) (h6 : s[t6]? = some (.cells [.sc (.bool false)])) (hr : s[rb]? = some (.cells (rc x y W W)))
    (hl : s[lid]? = some (.loop .ready none (pl 86) (ofF 44 F) ps.toList asg body))
    (hK : footB WW HH (bs T) L c x y W (W * W) = true → ∀ s', s'[lid]? = some (.loop .ready none (pl 86) (ofF 44 F) ps.toList asg body) → (∀ j o, j ≠ lid → s[j]? = some o → s'[j]? = some o) → K (.tup []) s')
    (hK2 : footB WW HH (bs T) L c x y W (W * W) = false → ∀ s', s'[lid]? = some (.loop .done (some .ret) (pl 86) (ofF 44 F) ps.toList asg body) → s'[t6]? = some (.cells [.sc (.bool false)]) → (∀ j o, j ≠ lid → j ≠ t6 → s[j]? = some o → s'[j]? = some o) → K (.tup []) s') :
    acallF Tryz.prog pl (n + 7) m 57 [.yl lid, .ref rb 0] s K := by
  have nl : ∀ (j : Nat) (c : List V), s[j]? = some (.cells c) → j ≠ lid := fun j c hj he => by subst he; rw [hl] at hj; cases hj
  refine c_Cells1 (n := n + 3) (x := x) (y := y) (W := W) (H := W) (I := fun k s' => footB WW HH (bs T) L c x y W k = true ∧ s'[lid]? = some (.loop .ready none (pl 86) (ofF 44 F) ps.toList asg body) ∧ (∀ j o, j ≠ lid → s[j]? = some o → s'[j]? = some o))
    (J := fun s' => footB WW HH (bs T) L c x y W (W * W) = false ∧ s'[lid]? = some (.loop .done (some .ret) (pl 86) (ofF 44 F) ps.toList asg body) ∧ s'[t6]? = some (.cells [.sc (.bool false)]) ∧ (∀ j o, j ≠ lid → j ≠ t6 → s[j]? = some o → s'[j]? = some o))
    hmay hm hm (fun k s' h => h.2.2 _ _ (nl _ _ hr) hr) (fun k s1 s2 h g => ⟨h.1, g _ _ h.2.1, fun j o h1 h3 => g _ _ (h.2.2 j o h1 h3)⟩) ⟨rfl, hl, fun j o _ h => h⟩ ?_ (fun s' h => hK h.1 s' h.2.1 h.2.2) (fun s' h => hK2 h.1 s' h.2.1 h.2.2.1 h.2.2.2)
  intro j i s' K' hj hi ⟨e1, e2, e3⟩ hK1 hK3
  have hmod : (j * W + i) % W = i := by rw [Nat.mul_comm, Nat.mul_add_mod, Nat.mod_eq_of_lt hi]
  have hdiv : (j * W + i) / W = j := by rw [Nat.mul_comm, Nat.mul_add_div (by omega), Nat.div_eq_of_lt hi, Nat.add_zero]
  have hg' : Grw S0 s' := fun q o hq => by
    have := (List.getElem?_eq_some_iff.1 hq).1
    exact e3 _ _ (by omega) (hg _ _ hq)
  refine std_yl (n := n) hc q3 q4 q6 hw hg' hlid (e3 _ _ (nl _ _ h3) h3) (e3 _ _ (nl _ _ h4) h4) (e3 _ _ (nl _ _ h6) h6) e2 ?_ ?_
  · intro hh s2 k2 k3
    refine hK1 _ ⟨?_, k2, fun j o h2 h3 => k3 j o h2 (e3 j o h2 h3)⟩
    rw [footB_succ, e1, hmod, hdiv, hh]
    rfl
  · intro hh s2 k2 k4 k3
    refine hK3 _ ⟨footB_le (k := j * W + i + 1) ?_ (by rw [footB_succ, hmod, hdiv, hh, Bool.and_false]), k2, k4, fun j o h2 h4 h3 => k3 j o h2 h4 (e3 j o h2 h3)⟩
    have := Nat.mul_le_mul_right W (show j + 1 ≤ W from hj)
    rw [Nat.add_mul, Nat.one_mul] at this
    omega
theorem sh_facts {c z : Int} (h : shB c z = true) : 1 ≤ z ∧ z ≤ 4 ∧ 0 ≤ c ∧ c < 4 := by
  simp only [shB, Bool.and_eq_true, decide_eq_true_eq] at h
  omega
theorem within0 : withinB 0 0 0 0 x y WW HH = false := by
  simp [withinB, mayB, sideB]
set_option maxHeartbeats 4000000 in
theorem c_Stands (hw : Wo st wd ro WW HH T L) (hm : 300 < m) (hK : ∀ s, Grw st s → K (.sc (.bool (standB WW HH (bs T) L c z x y))) s) : acallF Tryz.prog pl (n + 8) m 86 [.ref wd 0, .agg (cl c z), .agg (cl x y)] st K := by
  refine acallF_inF Tryz.func86 rfl rfl Tryz.ntmps86 (by simp) ?_
  obtain ⟨S, hS⟩ : ∃ S, S = st ++ [Ob.cells [V.ref wd 0], Ob.cells (cl c z), Ob.cells (cl x y), Ob.cells [.sc (.bool false)]] := ⟨_, rfl⟩
  have g0 : Grw st S := by rw [hS]; exact .push _ _
  have c0 : S[st.length]? = some (.cells [V.ref wd 0]) := by rw [hS]; exact get_new _ _ 0
  have c1 : S[st.length + 1]? = some (.cells (cl c z)) := by rw [hS]; exact get_new _ _ 1
  have c2 : S[st.length + 2]? = some (.cells (cl x y)) := by rw [hS]; exact get_new _ _ 2
  have c3 : S[st.length + 3]? = some (.cells [.sc (.bool false)]) := by rw [hS]; exact get_new _ _ 3
  have lS : S.length = st.length + 4 := by rw [hS]; simp
  simp only [cl] at hS c1 c2
  simp only [cl, ↓zP,zV,Nat.reduceAdd,Nat.reduceMul,Nat.reduceLT,Nat.reduceEqDiff,Nat.reduceLeDiff,Int.reduceLE,Int.reduceLT,Int.reduceToNat,Int.reduceBNe,Int.reduceBEq,Int.reduceNeg,Int.reduceEq,Int.reduceAdd,Int.reduceGT,Int.reduceGE,reduceCtorEq]
  rw [← hS]
  have stn : ∀ (s : List Ob) (o : Ob), Grw st s → Grw st (s.set (st.length + 3) o) := fun s o h => h.set (by omega) o
  refine c_Foot (n := n + 3) (fun ef s1 j1 => ?_) (fun ef s1 j1 => ?_)
  · have a0 := fun X => Grw.push s1 X _ _ (j1 _ _ c0)
    have a1 := fun X => Grw.push s1 X _ _ (j1 _ _ c1)
    have a3 := fun X => Grw.push s1 X _ _ (j1 _ _ c3)
    have G1 := fun X => (g0.trans j1).push' X
    simp only [rc, a0, a1, a3, ↓zP,zV,Nat.reduceAdd,Nat.reduceMul,Nat.reduceLT,Nat.reduceEqDiff,Nat.reduceLeDiff,Int.reduceLE,Int.reduceLT,Int.reduceToNat,Int.reduceBNe,Int.reduceBEq,Int.reduceNeg,Int.reduceEq,Int.reduceAdd,Int.reduceGT,Int.reduceGE,reduceCtorEq]
    refine (hw.grw (G1 _)).all (n := n + 5) fun s2 j2 => ?_
    obtain ⟨e1, e2⟩ : shB c z = true ∧ mayB x y z z = true := by simpa using ef
    obtain ⟨z1, z2, _, _⟩ := sh_facts e1
    have cr : (s1 ++ [Ob.cells (rc x y z z)])[s1.length]? = some (.cells (rc x y z z)) := get_new0 _ _
    simp only [rc] at cr
    have b0 := j2 _ _ (a0 _)
    have b1 := j2 _ _ (a1 _)
    have b3 := j2 _ _ (a3 _)
    have br := j2 _ _ cr
    have G2 := (G1 _).trans j2
    simp only [rc, cr, a0, a1, a3, b0, b1, b3, br, ↓zP,zV,Nat.reduceAdd,Nat.reduceMul,Nat.reduceLT,Nat.reduceEqDiff,Nat.reduceLeDiff,Int.reduceLE,Int.reduceLT,Int.reduceToNat,Int.reduceBNe,Int.reduceBEq,Int.reduceNeg,Int.reduceEq,Int.reduceAdd,Int.reduceGT,Int.reduceGE,reduceCtorEq]
    refine c_Within (n := n + 2) fun s3 j3 => ?_
    have d0 := j3 _ _ b0
    have d1 := j3 _ _ b1
    have d3 := j3 _ _ b3
    have dr := j3 _ _ br
    have G3 := G2.trans j3
    have q3 := fun o => get_set d3 o
    cases e3 : withinB x y z z 0 0 WW HH with
    | false =>
      simp only [standB, fitB, e3, Bool.and_false, Bool.false_and] at hK
      simp only [d0, d1, d3, dr, q3, e3, ↓zP,zV,Nat.reduceAdd,Nat.reduceMul,Nat.reduceLT,Nat.reduceEqDiff,Nat.reduceLeDiff,Int.reduceLE,Int.reduceLT,Int.reduceToNat,Int.reduceBNe,Int.reduceBEq,Int.reduceNeg,Int.reduceEq,Int.reduceAdd,Int.reduceGT,Int.reduceGE,reduceCtorEq]
      exact hK _ (stn _ _ G3)
    | true =>
      simp only [d0, d1, d3, dr, e3, ↓zP,zV,Nat.reduceAdd,Nat.reduceMul,Nat.reduceLT,Nat.reduceEqDiff,Nat.reduceLeDiff,Int.reduceLE,Int.reduceLT,Int.reduceToNat,Int.reduceBNe,Int.reduceBEq,Int.reduceNeg,Int.reduceEq,Int.reduceAdd,Int.reduceGT,Int.reduceGE,reduceCtorEq]
      refine c_Cells ?_
      obtain ⟨W, rfl⟩ := Int.eq_ofNat_of_zero_le (show 0 ≤ z by omega)
      generalize hs4 : s3 ++ [Ob.cells _] = s4
      simp only [↓zP,zV,Nat.reduceAdd,Nat.reduceMul,Nat.reduceLT,Nat.reduceEqDiff,Nat.reduceLeDiff,Int.reduceLE,Int.reduceLT,Int.reduceToNat,Int.reduceBNe,Int.reduceBEq,Int.reduceNeg,Int.reduceEq,Int.reduceAdd,Int.reduceGT,Int.reduceGE,reduceCtorEq]
      have g4 : Grw s3 s4 := by rw [← hs4]; exact .push _ _
      have g5 := fun X => Grw.push s4 X
      have l3 : st.length + 4 ≤ s4.length := by have := (List.getElem?_eq_some_iff.1 (g4 _ _ d3)).1; omega
      have c4 : s4[s3.length]? = some (.cells (rc x y W W)) := by rw [← hs4]; exact get_new0 _ _
      simp only [standB, fitB, e1, e3, Int.toNat_natCast, Bool.and_self, Bool.true_and] at hK
      refine std_loop (n := n) rfl (t3 := st.length) (t4 := st.length + 1) (t6 := st.length + 3) (c := c) (z := W) (x := x) (y := y) (W := W) (S0 := st) (by simp only [zF,Nat.reduceEqDiff,Nat.reduceLT]) (by simp only [zF,Nat.reduceEqDiff,Nat.reduceLT]) (by simp only [zF,Nat.reduceEqDiff,Nat.reduceLT]) hw ((G3.trans g4).trans (g5 _)) (by omega) e2 (by omega) (g5 _ _ _ (g4 _ _ d0)) (g5 _ _ _ (g4 _ _ d1)) (g5 _ _ _ (g4 _ _ d3)) (g5 _ _ _ c4) (get_new0 _ _) ?_ ?_
      · intro eh s' k1 k2
        have hK := eh ▸ (show ∀ s, Grw st s → K (.sc (.bool (footB WW HH (bs T) L c x y W (W * W)))) s from hK)
        refine rfEnd_normal k1 (by decide) ?_
        generalize hs6 : s'.set s4.length _ = s6
        have c6 : s6[st.length + 3]? = some (.cells [.sc (.bool false)]) := by rw [← hs6]; exact frame_new (st := st) (k2 _ _ (by omega) (g5 _ _ _ (g4 _ _ d3))) (by omega) _
        have q6 := fun o => get_set c6 o
        simp only [c6, q6, ↓zP,zV,Nat.reduceAdd,Nat.reduceMul,Nat.reduceLT,Nat.reduceEqDiff,Nat.reduceLeDiff,Int.reduceLE,Int.reduceLT,Int.reduceToNat,Int.reduceBNe,Int.reduceBEq,Int.reduceNeg,Int.reduceEq,Int.reduceAdd,Int.reduceGT,Int.reduceGE,reduceCtorEq]
        refine hK _ (Grw.set (fun j o hj => ?_) (by omega) _)
        have lj : j < st.length := (List.getElem?_eq_some_iff.1 hj).1
        rw [← hs6]
        exact frame_new (st := st) (k2 _ _ (by omega) (g5 _ _ _ (g4 _ _ (G3 _ _ hj)))) (by omega) _
      · intro eh s' k1 k4 k2
        have hK := eh ▸ (show ∀ s, Grw st s → K (.sc (.bool (footB WW HH (bs T) L c x y W (W * W)))) s from hK)
        refine rfEnd_ret k1 (by decide) ?_
        generalize hs6 : s'.set s4.length _ = s6
        have c6 : s6[st.length + 3]? = some (.cells [.sc (.bool false)]) := by rw [← hs6]; exact frame_new (st := st) k4 (by omega) _
        simp only [c6, ↓zP,zV,Nat.reduceAdd,Nat.reduceMul,Nat.reduceLT,Nat.reduceEqDiff,Nat.reduceLeDiff,Int.reduceLE,Int.reduceLT,Int.reduceToNat,Int.reduceBNe,Int.reduceBEq,Int.reduceNeg,Int.reduceEq,Int.reduceAdd,Int.reduceGT,Int.reduceGE,reduceCtorEq]
        refine hK _ fun j o hj => ?_
        have lj : j < st.length := (List.getElem?_eq_some_iff.1 hj).1
        rw [← hs6]
        exact frame_new (st := st) (k2 _ _ (by omega) (by omega) (g5 _ _ _ (g4 _ _ (G3 _ _ hj)))) (by omega) _
  · have a0 := fun X => Grw.push s1 X _ _ (j1 _ _ c0)
    have a1 := fun X => Grw.push s1 X _ _ (j1 _ _ c1)
    have a3 := fun X => Grw.push s1 X _ _ (j1 _ _ c3)
    have G1 := fun X => (g0.trans j1).push' X
    simp only [rc, a0, a1, a3, ↓zP,zV,Nat.reduceAdd,Nat.reduceMul,Nat.reduceLT,Nat.reduceEqDiff,Nat.reduceLeDiff,Int.reduceLE,Int.reduceLT,Int.reduceToNat,Int.reduceBNe,Int.reduceBEq,Int.reduceNeg,Int.reduceEq,Int.reduceAdd,Int.reduceGT,Int.reduceGE,reduceCtorEq]
    refine (hw.grw (G1 _)).all (n := n + 5) fun s2 j2 => ?_
    have cr : (s1 ++ [Ob.cells (rc 0 0 0 0)])[s1.length]? = some (.cells (rc 0 0 0 0)) := get_new0 _ _
    simp only [rc] at cr
    have b0 := j2 _ _ (a0 _)
    have b1 := j2 _ _ (a1 _)
    have b3 := j2 _ _ (a3 _)
    have br := j2 _ _ cr
    have G2 := (G1 _).trans j2
    simp only [rc, cr, a0, a1, a3, b0, b1, b3, br, ↓zP,zV,Nat.reduceAdd,Nat.reduceMul,Nat.reduceLT,Nat.reduceEqDiff,Nat.reduceLeDiff,Int.reduceLE,Int.reduceLT,Int.reduceToNat,Int.reduceBNe,Int.reduceBEq,Int.reduceNeg,Int.reduceEq,Int.reduceAdd,Int.reduceGT,Int.reduceGE,reduceCtorEq]
    refine c_Within (n := n + 2) fun s3 j3 => ?_
    have d3 := j3 _ _ b3
    have G3 := G2.trans j3
    have q3 := fun o => get_set d3 o
    have hf : standB WW HH (bs T) L c z x y = false := by
      simp only [standB, fitB, withinB, Bool.and_eq_false_iff] at ef ⊢
      rcases ef with h | h
      · exact .inl (.inl h)
      · exact .inl (.inr (.inl (.inl h)))
    rw [hf] at hK
    simp only [d3, q3, within0, ↓zP,zV,Nat.reduceAdd,Nat.reduceMul,Nat.reduceLT,Nat.reduceEqDiff,Nat.reduceLeDiff,Int.reduceLE,Int.reduceLT,Int.reduceToNat,Int.reduceBNe,Int.reduceBEq,Int.reduceNeg,Int.reduceEq,Int.reduceAdd,Int.reduceGT,Int.reduceGE,reduceCtorEq]
    exact hK _ (stn _ _ G3)
end
end Go.Proofs.YtpdhoicpaonggaaGreat
