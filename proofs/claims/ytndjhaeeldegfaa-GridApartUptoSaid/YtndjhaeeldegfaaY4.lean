/- Chapter 4: a map has not too many tiles. -/
import Derived.Test.YtndjhaeeldegfaaG20
set_option linter.unusedVariables false
set_option linter.unusedSimpArgs false
set_option maxRecDepth 10000
namespace Go.Proofs.Ytndjhaeeldegfaa
open Go Go.M Go.RowKit
attribute [local congr] acallF_cong aloop_cong bcase_cong resK_cong valK_cong wantK_cong callK_cong xputK_cong qputK_cong resM_cong rfK_cong
attribute [local irreducible] seqK blockK loopK nextK bcase resK valK wantK funK putK dputK xputK qputK callK aops aop acode adraw aloop acallF acall invK resM rfK rfEnd rdEnd rdMid around
section
variable {WW HH : Int}
theorem refOK_T {T : List Int} {L : List B4} (h : refOK WW HH T L = true) : T.length ≤ 16384 := by
  obtain ⟨⟨hW, hW'⟩, ⟨hH, hH'⟩, hTl, _⟩ := refOK_facts h
  have hb2 : WW * HH ≤ 128 * 128 := Int.mul_le_mul (by omega) (by omega) (by omega) (by omega)
  omega
end
end Go.Proofs.Ytndjhaeeldegfaa
