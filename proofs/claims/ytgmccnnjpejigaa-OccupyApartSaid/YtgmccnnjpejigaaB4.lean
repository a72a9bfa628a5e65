/- Maps with numbers and cells for keys. -/
import Derived.Test.YtgmccnnjpejigaaB3
set_option linter.unusedVariables false
set_option linter.unusedSimpArgs false
set_option maxRecDepth 10000
namespace Go.Proofs.Ytgmccnnjpejigaa
open Go Go.M Go.RowKit
attribute [local congr] acallF_cong aloop_cong bcase_cong resK_cong valK_cong wantK_cong callK_cong xputK_cong qputK_cong resM_cong rfK_cong
attribute [local irreducible] seqK blockK loopK nextK bcase resK valK wantK funK putK dputK xputK qputK callK aops aop acode adraw aloop acallF acall invK resM rfK rfEnd rdEnd rdMid around
section
variable {P : Program} {kt e : TypeId}
/-- A number's place. -/
def atI {α : Type} (i : Int) : List (Int × α) → Option Nat
  | [] => none
  | x :: l => if i == x.1 then some 0 else (atI i l).map (· + 1)
theorem findNow_int (i : Int) : ∀ (l : List (Int × V)) (j : Nat), Instr.findNow (.int .i64) (.int .i64 i) (keysOf (l.map fun x => (Value.int .i64 x.1, x.2))) j = some ((atI i l).map fun q => (q + j, .bool false))
  | [], j => rfl
  | x :: l, j => by
    simp only [List.map_cons, keysOf, Instr.findNow, Instr.sameNow, atI, if_true]
    have ih := findNow_int i l (j + 1)
    simp only [keysOf] at ih
    cases h : (i == x.1)
    · simp only [Bool.false_eq_true, if_false]
      rw [ih]
      cases atI i l with
      | none => rfl
      | some q => simp only [Option.map_some]; congr 3; omega
    · simp
theorem afind_int (hk : P.underlying kt = some (.int .i64)) (i : Int) (l : List (Int × V)) : afind P kt (.int .i64 i) (l.map fun x => (Value.int .i64 x.1, x.2)) = some (atI i l) := by
  unfold afind Instr.findKey
  rw [pr_bd, pureRun_underlying hk, Option.bind_some, findNow_int]
  cases h : atI i l with
  | none => rfl
  | some q => rfl
theorem akey_int (hk : P.underlying kt = some (.int .i64)) (b : Bool) (i : Int) : akey P b kt (.int .i64 i) = some () := by
  unfold akey
  show pureRun P (Instr.checkKey b (9999 + 1) kt (.int .i64 i)) = _
  rw [Instr.checkKey, pr_bd, pureRun_underlying hk, Option.bind_some]
  rfl
end
/-- A cell's place. -/
def atC {α : Type} (c : Int × Int) : List ((Int × Int) × α) → Option Nat
  | [] => none
  | x :: l => if c.1 == x.1.1 && c.2 == x.1.2 then some 0 else (atC c l).map (· + 1)
def kc (c : Int × Int) : Value := .agg #[.int .i64 c.1, .int .i64 c.2]
theorem findAsking_cell (c : Int × Int) : ∀ (l : List ((Int × Int) × V)) (j : Nat), pureRun Try.prog (Instr.findAsking 32 (kc c) (keysOf (l.map fun x => (kc x.1, x.2))) j) = some ((atC c l).map fun q => (q + j, .bool false))
  | [], j => rfl
  | x :: l, j => by
    simp only [List.map_cons, keysOf, Instr.findAsking, atC]
    rw [pr_bd]
    have e : pureRun Try.prog (Op.equal 32 (kc c) (kc x.1)) = some (c.1 == x.1.1 && c.2 == x.1.2) := pr_eq2 Try.underlying32 (by kernel_rfl) (by decide) (by decide) rfl rfl Try.underlying3 Try.underlying3 c.1 c.2 x.1.1 x.1.2
    rw [e, Option.bind_some]
    have ih := findAsking_cell c l (j + 1)
    simp only [keysOf] at ih
    cases h : (c.1 == x.1.1 && c.2 == x.1.2)
    · simp only [Bool.false_eq_true, if_false]
      rw [ih]
      cases atC c l with
      | none => rfl
      | some q => simp only [Option.map_some]; congr 3; omega
    · simp [pureRun_pure]
theorem findNow_cell {fs : Array Field} (c : Int × Int) : ∀ (l : List MapEntry) (j : Nat), l ≠ [] → Instr.findNow (.struct fs) (kc c) l j = none := by
  intro l j hl
  cases l with
  | nil => exact absurd rfl hl
  | cons a l => rfl
theorem afind_cell (c : Int × Int) (l : List ((Int × Int) × V)) : afind Try.prog 32 (kc c) (l.map fun x => (kc x.1, x.2)) = some (atC c l) := by
  unfold afind Instr.findKey
  rw [pr_bd, pureRun_underlying Try.underlying32, Option.bind_some]
  cases l with
  | nil => rfl
  | cons x l =>
    rw [findNow_cell c (keysOf ((x :: l).map fun x => (kc x.1, x.2))) 0 (by simp [keysOf])]
    simp only
    rw [findAsking_cell c (x :: l) 0]
    cases atC c (x :: l) <;> rfl
theorem akey_cell (b : Bool) (c : Int × Int) : akey Try.prog b 32 (kc c) = some () := by kernel_rfl
end Go.Proofs.Ytgmccnnjpejigaa
