/- Maps with numbers and cells for keys: looked into, turned. -/
import Derived.Test.YtgmccnnjpejigaaB4
set_option linter.unusedVariables false
set_option linter.unusedSimpArgs false
set_option maxRecDepth 10000
namespace Go.Proofs.Ytgmccnnjpejigaa
open Go Go.M Go.RowKit
attribute [local congr] acallF_cong aloop_cong bcase_cong resK_cong valK_cong wantK_cong callK_cong xputK_cong qputK_cong resM_cong rfK_cong
attribute [local irreducible] seqK blockK loopK nextK bcase resK valK wantK funK putK dputK xputK qputK callK aops aop acode adraw aloop acallF acall invK resM rfK rfEnd rdEnd rdMid around
def esI (l : List (Int × V)) : List (Value × V) := l.map fun x => (Value.int .i64 x.1, x.2)
def esC (l : List ((Int × Int) × V)) : List (Value × V) := l.map fun x => (kc x.1, x.2)
def getI (i : Int) (l : List (Int × V)) : Option V := (atI i l).bind fun q => (l[q]?).map (·.2)
def getC (c : Int × Int) (l : List ((Int × Int) × V)) : Option V := (atC c l).bind fun q => (l[q]?).map (·.2)
def putI (i : Int) (v : V) (l : List (Int × V)) : List (Int × V) := match atI i l with
  | some q => l.set q (i, v)
  | none => l ++ [(i, v)]
def putC (c : Int × Int) (v : V) (l : List ((Int × Int) × V)) : List ((Int × Int) × V) := match atC c l with
  | some q => l.set q (c, v)
  | none => l ++ [(c, v)]
theorem atI_spec {α : Type} {i : Int} : ∀ {l : List (Int × α)} {q : Nat}, atI i l = some q → ∃ x, l[q]? = some (i, x)
  | [], q, h => by simp [atI] at h
  | x :: l, q, h => by
    unfold atI at h
    split at h
    · rename_i hx
      simp only [Option.some.injEq] at h
      subst h
      have hx : i = x.1 := by simpa using hx
      exact ⟨x.2, by rw [hx]; rfl⟩
    · obtain ⟨r, hr, rfl⟩ := Option.map_eq_some_iff.1 h
      obtain ⟨y, hy⟩ := atI_spec hr
      exact ⟨y, by simpa using hy⟩
theorem atC_spec {α : Type} {c : Int × Int} : ∀ {l : List ((Int × Int) × α)} {q : Nat}, atC c l = some q → ∃ x, l[q]? = some (c, x)
  | [], q, h => by simp [atC] at h
  | x :: l, q, h => by
    unfold atC at h
    split at h
    · rename_i hx
      simp only [Option.some.injEq] at h
      subst h
      have hx : c = x.1 := by
        simp only [Bool.and_eq_true, beq_iff_eq] at hx
        exact Prod.ext hx.1 hx.2
      exact ⟨x.2, by rw [hx]; rfl⟩
    · obtain ⟨r, hr, rfl⟩ := Option.map_eq_some_iff.1 h
      obtain ⟨y, hy⟩ := atC_spec hr
      exact ⟨y, by simpa using hy⟩
theorem same_int (i : Int) : Instr.sameBits 10000 (.int .i64 i) (.int .i64 i) = true := by
  show Instr.sameBits (9999 + 1) _ _ = true
  simp [Instr.sameBits]
theorem same_cell (c : Int × Int) : Instr.sameBits 10000 (kc c) (kc c) = true := by
  show Instr.sameBits (9998 + 1 + 1) _ _ = true
  simp [Instr.sameBits, kc]
section
variable {st : List Ob} {a : Nat} {t e : TypeId}
theorem lk_int {l : List (Int × V)} {z : V} (ht : Try.prog.underlying t = some (.map 3 e)) (hz : azero Try.prog e = some z) (h : st[a]? = some (.map (esI l))) (i : Int) :
    alookup Try.prog st t (.map a) (.sc (.int .i64 i)) true = some (match getI i l with | some v => .tup [v, .sc (.bool true)] | none => .tup [z, .sc (.bool false)]) := by
  unfold alookup
  simp only [ht, toVal, h, akey_int Try.underlying3, esI, afind_int Try.underlying3]
  unfold getI
  cases hq : atI i l with
  | none => simp [hz]
  | some q =>
    obtain ⟨x, hx⟩ := atI_spec hq
    simp [hx]
theorem lk_cell {l : List ((Int × Int) × V)} {z : V} (ht : Try.prog.underlying t = some (.map 32 e)) (hz : azero Try.prog e = some z) (h : st[a]? = some (.map (esC l))) (x y : Int) :
    alookup Try.prog st t (.map a) (.agg [.sc (.int .i64 x), .sc (.int .i64 y)]) true = some (match getC (x, y) l with | some v => .tup [v, .sc (.bool true)] | none => .tup [z, .sc (.bool false)]) := by
  unfold alookup
  have hk : toVal (.agg [.sc (.int .i64 x), .sc (.int .i64 y)]) = some (kc (x, y)) := rfl
  simp only [ht, hk, h, akey_cell, esC, afind_cell]
  unfold getC
  cases hq : atC (x, y) l with
  | none => simp [hz]
  | some q =>
    obtain ⟨x, hx⟩ := atC_spec hq
    simp [hx]
theorem up_int {l : List (Int × V)} {v : V} (ht : Try.prog.underlying t = some (.map 3 e)) (hv : held v = true) (h : st[a]? = some (.map (esI l))) (i : Int) :
    aupdate Try.prog st t (.map a) (.sc (.int .i64 i)) v = some (st.set a (.map (esI (putI i v l)))) := by
  unfold aupdate
  simp only [ht, toVal, h, hv, if_true, akey_int Try.underlying3, esI, afind_int Try.underlying3]
  unfold putI
  cases hq : atI i l with
  | none => simp
  | some q =>
    obtain ⟨x, hx⟩ := atI_spec hq
    simp [hx, same_int, List.map_set]
theorem up_cell {l : List ((Int × Int) × V)} {v : V} (ht : Try.prog.underlying t = some (.map 32 e)) (hv : held v = true) (h : st[a]? = some (.map (esC l))) (x y : Int) :
    aupdate Try.prog st t (.map a) (.agg [.sc (.int .i64 x), .sc (.int .i64 y)]) v = some (st.set a (.map (esC (putC (x, y) v l)))) := by
  unfold aupdate
  have hk : toVal (.agg [.sc (.int .i64 x), .sc (.int .i64 y)]) = some (kc (x, y)) := rfl
  simp only [ht, hk, h, hv, if_true, akey_cell, esC, afind_cell]
  unfold putC
  cases hq : atC (x, y) l with
  | none => simp
  | some q =>
    obtain ⟨x, hx⟩ := atC_spec hq
    simp [hx, same_cell, List.map_set]
end
end Go.Proofs.Ytgmccnnjpejigaa
