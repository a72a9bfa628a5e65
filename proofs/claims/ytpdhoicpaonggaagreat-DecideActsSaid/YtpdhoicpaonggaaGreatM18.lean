/- Structs of numbers, held against each other. -/
import Derived.Test.YtpdhoicpaonggaaGreatM17
import Derived.Laws.StructEq
set_option linter.unusedVariables false
set_option linter.unusedSimpArgs false
namespace Go.M
open Go Go.RowKit
section
variable {P : Program}
theorem pr_bind {α β : Type} (s : Sem α) (f : α → Sem β) : pureRun P (s >>= f) = (pureRun P s).bind fun a => pureRun P (f a) := pureRun_bind f s
theorem pr_eqInt {d : Nat} {t : TypeId} {k k' : IntKind} (h : P.underlying t = some (.int k')) (a b : Int) : pureRun P (Op.equalIn (d + 1) t (.int k a) (.int k b)) = some (a == b) := by
  rw [Op.equalIn, pr_bind, pureRun_underlying h, Option.bind_some]
  simp [pureRun_pure]
theorem pr_part {t : TypeId} {k' : IntKind} (h : P.underlying t = some (.int k')) {cs : Array Value} {off : Nat} {v : Value} (hv : cs[off]? = some v) : pureRun P (part t cs off) = some v := by
  unfold part isAgg
  rw [pr_bind, pr_bind, pureRun_underlying h, Option.bind_some]
  simp [pureRun_pure, hv]
theorem pr_eqStruct {d : Nat} {t : TypeId} {fs : Array Field} (xs ys : Array Value) (ht : P.underlying t = some (.struct fs)) (hp : P.stoodInHeld t = false) :
    pureRun P (Op.equalIn (d + 1) t (.agg xs) (.agg ys)) = pureRun P (Op.eqFields d xs ys fs.toList) := by
  rw [Op.equalIn, pr_bind, pureRun_underlying ht, Option.bind_some]
  have e : pureRun P (program) = some P := rfl
  simp only [pr_bind, e, Option.bind_some, hp, Bool.false_eq_true, if_false]
  rw [← Array.forIn_toList]
  generalize fs.toList = l
  clear ht
  induction l with
  | nil => simp [Op.eqFields, pureRun_pure]
  | cons f fs ih =>
    simp only [List.forIn_cons, Op.eqFields, pr_bind]
    by_cases hn : f.name ≠ "_"
    · rw [if_pos hn, if_pos hn]
      simp only [pr_bind]
      cases pureRun P (part f.type xs f.offset) with
      | none => rfl
      | some a =>
        simp only [Option.bind_some]
        cases pureRun P (part f.type ys f.offset) with
        | none => rfl
        | some b =>
          simp only [Option.bind_some]
          cases pureRun P (Op.equalIn d f.type a b) with
          | none => rfl
          | some r =>
            cases r
            · simp [pureRun_pure]
            · simp only [Option.bind_some, Bool.not_true, Bool.false_eq_true, if_false, pureRun_pure]
              exact ih
    · rw [if_neg hn, if_neg hn]
      simp only [pureRun_pure, Option.bind_some]
      exact ih
theorem pr_eqCons {d : Nat} {f : Field} {fs : List Field} {xs ys : Array Value} {k' : IntKind} {a b : Int} {k : IntKind} (hn : f.name ≠ "_") (h : P.underlying f.type = some (.int k')) (hx : xs[f.offset]? = some (.int k a)) (hy : ys[f.offset]? = some (.int k b)) :
    pureRun P (Op.eqFields (d + 1) xs ys (f :: fs)) = if a == b then pureRun P (Op.eqFields (d + 1) xs ys fs) else some false := by
  rw [Op.eqFields, if_pos hn]
  simp only [pr_bind, pr_part h hx, pr_part h hy, Option.bind_some, pr_eqInt h]
  cases (a == b) <;> simp [pureRun_pure]
theorem pr_guardStruct {op : BinOp} {t : TypeId} {xs ys : Array Value} (x y : Operand) (hg : P.eqGuardType P.depth t = false) : pureRun P (eqGuard op t x y (.agg xs) (.agg ys)) = some () := by
  unfold eqGuard
  have e : pureRun P (program) = some P := rfl
  cases op <;> simp [pr_bind, e, hg, pureRun_pure]
theorem pr_eqlStruct {t : TypeId} {xs ys : Array Value} {b : Bool} (x y : Operand) (hg : P.eqGuardType P.depth t = false) (h : pureRun P (Op.equalIn 10000 t (.agg xs) (.agg ys)) = some b) :
    pureRun P (do eqGuard .eql t x y (.agg xs) (.agg ys); binOp .eql t (.agg xs) (.agg ys)) = some (.bool b) := by
  rw [pr_bind, pr_guardStruct x y hg, Option.bind_some]
  show pureRun P (do pure (Value.bool (← Op.equalIn 10000 t (.agg xs) (.agg ys)))) = _
  rw [pr_bind, h]; rfl
theorem pr_neqStruct {t : TypeId} {xs ys : Array Value} {b : Bool} (x y : Operand) (hg : P.eqGuardType P.depth t = false) (h : pureRun P (Op.equalIn 10000 t (.agg xs) (.agg ys)) = some b) :
    pureRun P (do eqGuard .neq t x y (.agg xs) (.agg ys); binOp .neq t (.agg xs) (.agg ys)) = some (.bool (!b)) := by
  rw [pr_bind, pr_guardStruct x y hg, Option.bind_some]
  show pureRun P (do pure (Value.bool (!(← Op.equalIn 10000 t (.agg xs) (.agg ys))))) = _
  rw [pr_bind, h]; rfl
theorem pr_eq2 {t : TypeId} {k0 k1 : IntKind} {k : IntKind} {f0 f1 : Field} (ht : P.underlying t = some (.struct #[f0, f1])) (hp : P.stoodInHeld t = false)
    (h0 : f0.name ≠ "_") (h1 : f1.name ≠ "_") (o0 : f0.offset = 0) (o1 : f1.offset = 1) (u0 : P.underlying f0.type = some (.int k0)) (u1 : P.underlying f1.type = some (.int k1)) (a b c d : Int) :
    pureRun P (Op.equalIn 10000 t (.agg #[.int k a, .int k b]) (.agg #[.int k c, .int k d])) = some (a == c && b == d) := by
  rw [pr_eqStruct _ _ ht hp]
  rw [show (#[f0, f1] : Array Field).toList = [f0, f1] from rfl, pr_eqCons (d := 9998) (a := a) (b := c) (k := k) h0 u0 (by rw [o0]; rfl) (by rw [o0]; rfl), pr_eqCons (d := 9998) (a := b) (b := d) (k := k) h1 u1 (by rw [o1]; rfl) (by rw [o1]; rfl)]
  cases (a == c) <;> cases (b == d) <;> simp [Op.eqFields, pureRun_pure]
end
end Go.M
