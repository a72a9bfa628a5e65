/- Rectangles and buildings, held against each other. -/
import Derived.Test.YtndjhaeeldegfaaG1
set_option linter.unusedVariables false
set_option linter.unusedSimpArgs false
set_option maxRecDepth 10000
namespace Go.Proofs.Ytndjhaeeldegfaa
open Go Go.M Go.RowKit
attribute [local congr] acallF_cong aloop_cong bcase_cong resK_cong valK_cong wantK_cong callK_cong xputK_cong qputK_cong resM_cong rfK_cong
attribute [local irreducible] seqK blockK loopK nextK bcase resK valK wantK funK putK dputK xputK qputK callK aops aop acode adraw aloop acallF acall invK resM rfK rfEnd rdEnd rdMid around
section
variable {P : Program}
theorem pr_partS {t : TypeId} {fs : Array Field} {s : Nat} (h : P.underlying t = some (.struct fs)) (hs : szOf P t = some s) (cs : Array Value) (off : Nat) : pureRun P (part t cs off) = some (.agg (cs.extract off (off + s))) := by
  obtain ⟨i, hi, rfl⟩ := Option.map_eq_some_iff.1 hs
  unfold part isAgg sizeOf typeInfo
  have e : pureRun P program = some P := rfl
  simp only [pr_bind, pureRun_underlying h, Option.bind_some, pureRun_pure]
  rw [if_pos trivial]
  simp only [pr_bind, e, Option.bind_some, hi, pureRun_pure]
theorem pr_eqConsS {d : Nat} {f : Field} {fs : List Field} {g : Array Field} {s : Nat} {xs ys : Array Value} {r : Bool} (hn : f.name ≠ "_") (h : P.underlying f.type = some (.struct g)) (hs : szOf P f.type = some s)
    (he : pureRun P (Op.equalIn d f.type (.agg (xs.extract f.offset (f.offset + s))) (.agg (ys.extract f.offset (f.offset + s)))) = some r) :
    pureRun P (Op.eqFields d xs ys (f :: fs)) = if r then pureRun P (Op.eqFields d xs ys fs) else some false := by
  rw [Op.eqFields, if_pos hn]
  simp only [pr_bind, pr_partS h hs, Option.bind_some, he]
  cases r <;> simp [pureRun_pure]
end
theorem eq_cell (d : Nat) (a b a' b' : Int) : pureRun Try.prog (Op.equalIn (d + 2) 24 (.agg #[.int .i64 a, .int .i64 b]) (.agg #[.int .i64 a', .int .i64 b'])) = some (a == a' && b == b') := by
  rw [pr_eqStruct _ _ Try.underlying24 (by kernel_rfl)]
  rw [pr_eqCons (d := d) (a := a) (b := a') (k := .i64) (by decide) Try.underlying3 (by rfl) (by rfl), pr_eqCons (d := d) (a := b) (b := b') (k := .i64) (by decide) Try.underlying3 (by rfl) (by rfl)]
  cases (a == a') <;> cases (b == b') <;> simp [Op.eqFields, pureRun_pure]
def eqR (x y w h x' y' w' h' : Int) : Bool := (x == x' && y == y') && w == w' && h == h'
theorem eq_rect (d : Nat) (x y w h x' y' w' h' : Int) : pureRun Try.prog (Op.equalIn (d + 3) 78 (.agg #[.int .i64 x, .int .i64 y, .int .i64 w, .int .i64 h]) (.agg #[.int .i64 x', .int .i64 y', .int .i64 w', .int .i64 h'])) = some (eqR x y w h x' y' w' h') := by
  rw [pr_eqStruct _ _ Try.underlying78 (by kernel_rfl)]
  rw [pr_eqConsS (d := d + 2) (r := (x == x' && y == y')) (by decide) Try.underlying24 sz24 (eq_cell d x y x' y'), pr_eqCons (d := d + 1) (a := w) (b := w') (k := .i64) (by decide) Try.underlying3 (by rfl) (by rfl), pr_eqCons (d := d + 1) (a := h) (b := h') (k := .i64) (by decide) Try.underlying3 (by rfl) (by rfl)]
  unfold eqR
  cases (x == x' && y == y') <;> cases (w == w') <;> cases (h == h') <;> simp [Op.eqFields, pureRun_pure]
theorem eq_bd (d : Nat) (i x y w h i' x' y' w' h' : Int) : pureRun Try.prog (Op.equalIn (d + 4) 90 (.agg #[.int .i64 i, .int .i64 x, .int .i64 y, .int .i64 w, .int .i64 h]) (.agg #[.int .i64 i', .int .i64 x', .int .i64 y', .int .i64 w', .int .i64 h'])) = some (i == i' && eqR x y w h x' y' w' h') := by
  rw [pr_eqStruct _ _ Try.underlying90 (by kernel_rfl)]
  rw [pr_eqCons (d := d + 2) (a := i) (b := i') (k := .i64) (by decide) Try.underlying3 (by rfl) (by rfl), pr_eqConsS (d := d + 3) (r := eqR x y w h x' y' w' h') (by decide) Try.underlying78 sz78 (eq_rect d x y w h x' y' w' h')]
  cases (i == i') <;> cases (eqR x y w h x' y' w' h') <;> simp [Op.eqFields, pureRun_pure]
theorem cmp_rectN (p q : Operand) (x y w h x' y' w' h' : Int) : pureRun Try.prog (do eqGuard .neq 78 p q (.agg #[.int .i64 x, .int .i64 y, .int .i64 w, .int .i64 h]) (.agg #[.int .i64 x', .int .i64 y', .int .i64 w', .int .i64 h']); binOp .neq 78 (.agg #[.int .i64 x, .int .i64 y, .int .i64 w, .int .i64 h]) (.agg #[.int .i64 x', .int .i64 y', .int .i64 w', .int .i64 h'])) = some (.bool (!eqR x y w h x' y' w' h')) :=
  pr_neqStruct p q (by kernel_rfl) (eq_rect 9997 x y w h x' y' w' h')
theorem cmp_rect (p q : Operand) (x y w h x' y' w' h' : Int) : pureRun Try.prog (do eqGuard .eql 78 p q (.agg #[.int .i64 x, .int .i64 y, .int .i64 w, .int .i64 h]) (.agg #[.int .i64 x', .int .i64 y', .int .i64 w', .int .i64 h']); binOp .eql 78 (.agg #[.int .i64 x, .int .i64 y, .int .i64 w, .int .i64 h]) (.agg #[.int .i64 x', .int .i64 y', .int .i64 w', .int .i64 h'])) = some (.bool (eqR x y w h x' y' w' h')) :=
  pr_eqlStruct p q (by kernel_rfl) (eq_rect 9997 x y w h x' y' w' h')
theorem cmp_bdN (p q : Operand) (i x y w h i' x' y' w' h' : Int) : pureRun Try.prog (do eqGuard .neq 90 p q (.agg #[.int .i64 i, .int .i64 x, .int .i64 y, .int .i64 w, .int .i64 h]) (.agg #[.int .i64 i', .int .i64 x', .int .i64 y', .int .i64 w', .int .i64 h']); binOp .neq 90 (.agg #[.int .i64 i, .int .i64 x, .int .i64 y, .int .i64 w, .int .i64 h]) (.agg #[.int .i64 i', .int .i64 x', .int .i64 y', .int .i64 w', .int .i64 h'])) = some (.bool (!(i == i' && eqR x y w h x' y' w' h'))) :=
  pr_neqStruct p q (by kernel_rfl) (eq_bd 9996 i x y w h i' x' y' w' h')
theorem eqR_true {x y w h x' y' w' h' : Int} : eqR x y w h x' y' w' h' = true ↔ x = x' ∧ y = y' ∧ w = w' ∧ h = h' := by
  unfold eqR
  simp only [Bool.and_eq_true, beq_iff_eq]
  constructor
  · rintro ⟨⟨⟨a, b⟩, c⟩, d⟩; exact ⟨a, b, c, d⟩
  · rintro ⟨a, b, c, d⟩; exact ⟨⟨⟨a, b⟩, c⟩, d⟩
end Go.Proofs.Ytndjhaeeldegfaa
