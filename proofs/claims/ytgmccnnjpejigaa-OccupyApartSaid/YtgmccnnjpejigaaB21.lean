/- Maps with units: entries taken away; keys told. -/
import Derived.Test.YtgmccnnjpejigaaB15
import Derived.Test.YtgmccnnjpejigaaBP
set_option linter.unusedVariables false
set_option linter.unusedSimpArgs false
set_option maxRecDepth 10000
namespace Go.Proofs.Ytgmccnnjpejigaa
open Go Go.M Go.RowKit
attribute [local congr] acallF_cong aloop_cong bcase_cong resK_cong valK_cong wantK_cong callK_cong xputK_cong qputK_cong resM_cong rfK_cong
attribute [local irreducible] seqK blockK loopK nextK bcase resK valK wantK funK putK dputK xputK qputK callK aops aop acode adraw aloop acallF acall invK resM rfK rfEnd rdEnd rdMid around
theorem map_erase {α β : Type} (f : α → β) : ∀ (l : List α) (q : Nat), (l.eraseIdx q).map f = (l.map f).eraseIdx q
  | [], q => by simp
  | a :: l, 0 => by simp
  | a :: l, q + 1 => by simp [map_erase f l q]
section
variable {st : List Ob} {a : Nat} {t e : TypeId}
theorem dl_int {l : List (Int × V)} (ht : Try.prog.underlying t = some (.map 3 e)) (h : st[a]? = some (.map (esI l))) (i : Int) :
    adelete Try.prog st t (.map a) (.sc (.int .i64 i)) = some (.tup [], st.set a (.map (esI (delI i l)))) := by
  unfold adelete
  simp only [ht, toVal, h, akey_int Try.underlying3, esI, afind_int Try.underlying3]
  unfold delI
  cases hq : atI i l with
  | none => simp only; rw [set_self (by simpa [esI] using h)]
  | some q => simp only [map_erase]
theorem dl_cell {l : List ((Int × Int) × V)} (ht : Try.prog.underlying t = some (.map 32 e)) (h : st[a]? = some (.map (esC l))) (x y : Int) :
    adelete Try.prog st t (.map a) (.agg [.sc (.int .i64 x), .sc (.int .i64 y)]) = some (.tup [], st.set a (.map (esC (delC (x, y) l)))) := by
  unfold adelete
  have hk : toVal (.agg [.sc (.int .i64 x), .sc (.int .i64 y)]) = some (kc (x, y)) := rfl
  simp only [ht, hk, h, akey_cell, esC, afind_cell]
  unfold delC
  cases hq : atC (x, y) l with
  | none => simp only; rw [set_self (by simpa [esC] using h)]
  | some q => simp only [map_erase]
end
/-- Cells emptied, row by row. -/
def cutC (x y : Int) (W : Nat) (os : List ((Int × Int) × V)) : Nat → List ((Int × Int) × V)
  | 0 => os
  | k + 1 => delC (x + (k % W : Nat), y + (k / W : Nat)) (cutC x y W os k)
theorem keysI_esI : ∀ l : List (Int × V), keysI (esI l) = some (l.map (·.1))
  | [] => rfl
  | (i, v) :: l => by
    have := keysI_esI l
    simp only [esI, List.map_cons, keysI] at this ⊢
    rw [this]; rfl
theorem lk_int1 {st : List Ob} {a : Nat} {t e : TypeId} {l : List (Int × V)} {v : V} (ht : Try.prog.underlying t = some (.map 3 e)) (h : st[a]? = some (.map (esI l))) (i : Int) (hv : getI i l = some v) :
    alookup Try.prog st t (.map a) (.sc (.int .i64 i)) false = some v := by
  unfold alookup
  simp only [ht, toVal, h, akey_int Try.underlying3, esI, afind_int Try.underlying3]
  unfold getI at hv
  cases hq : atI i l with
  | none => rw [hq] at hv; cases hv
  | some q =>
    obtain ⟨x, hx⟩ := atI_spec hq
    rw [hq] at hv
    simp [hx] at hv ⊢
    exact hv

end Go.Proofs.Ytgmccnnjpejigaa
