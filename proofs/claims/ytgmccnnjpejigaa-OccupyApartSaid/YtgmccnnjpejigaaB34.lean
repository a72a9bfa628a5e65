/- Chapters 5 and 22: acts, units and claims, as they are handed in. -/
import Derived.Test.YtgmccnnjpejigaaB32
set_option linter.unusedVariables false
set_option linter.unusedSimpArgs false
set_option maxRecDepth 10000
namespace Go.Proofs.Ytgmccnnjpejigaa
open Go Go.M Go.RowKit
attribute [local congr] acallF_cong aloop_cong bcase_cong resK_cong valK_cong wantK_cong callK_cong xputK_cong qputK_cong resM_cong rfK_cong
attribute [local irreducible] seqK blockK loopK nextK bcase resK valK wantK funK putK dputK xputK qputK callK aops aop acode adraw aloop acallF acall invK resM rfK rfEnd rdEnd rdMid around
theorem bytes_of {t : TypeId} {b : Nat} (h : M.bytesOf Try.prog t = some b) : Try.prog.bytesOf t = b := by
  unfold M.bytesOf at h
  unfold Program.bytesOf
  rw [h]; rfl
theorem wf_inR {i : Int} (h : (Lit.int IntKind.i64 i).wf = true) : inR i := by
  simp [Lit.wf, IntKind.max, IntKind.min, IntKind.signed, IntKind.bits] at h
  unfold inR; omega
set_option maxRecDepth 100000 in
theorem tv_rect {k : Nat} {ys : List V} (h : TV Try.prog (k + 2) 34 ys) : ∃ x y w hh : Int, ys = rc x y w hh := by
  have h := tv_struct h Try.underlying34
  obtain ⟨a0, b0, rfl, j0, h⟩ := h
  obtain ⟨a1, b1, rfl, j1, h⟩ := h
  obtain ⟨a2, b2, rfl, j2, h⟩ := h
  obtain rfl : b2 = [] := h
  have h := tv_struct j0 Try.underlying32
  obtain ⟨a3, b3, rfl, j3, h⟩ := h
  obtain ⟨a4, b4, rfl, j4, h⟩ := h
  obtain rfl : b4 = [] := h
  obtain ⟨x, rfl, _⟩ := tv_int j3 Try.underlying3
  obtain ⟨y, rfl, _⟩ := tv_int j4 Try.underlying3
  obtain ⟨w, rfl, _⟩ := tv_int j1 Try.underlying3
  obtain ⟨hh, rfl, _⟩ := tv_int j2 Try.underlying3
  exact ⟨x, y, w, hh, rfl⟩
set_option maxRecDepth 100000 in
theorem tv_acts {k : Nat} {ys : List V} (h : TV Try.prog (k + 5) 22 ys) : ∃ (lv : V) (E : List A6), ys = [lv] ∧ (∀ s, Rd Try.prog s 36 lv (E.flatMap A6.v) E.length) ∧ (∀ e ∈ E, inR e.id) ∧ E.length ≤ 2932031007402 := by
  obtain ⟨us, n, nil, full, rfl, hu, hn, hnil⟩ := tv_slice h Try.underlying22
  obtain ⟨E, rfl, rfl, hE⟩ := TVn.list (f := A6.v) (Q := fun e => inR e.id) (fun ys hy => by
    have h := tv_struct hy Try.underlying36
    obtain ⟨y1, z1, rfl, h1, h⟩ := h
    obtain ⟨y2, z2, rfl, h2, h⟩ := h
    obtain ⟨y3, z3, rfl, h3, h⟩ := h
    obtain rfl : z3 = [] := h
    obtain ⟨d, rfl, _⟩ := tv_int h1 Try.underlying3
    obtain ⟨i, rfl, hi⟩ := tv_int h2 Try.underlying3
    obtain ⟨x, y, w, hh, rfl⟩ := tv_rect h3
    exact ⟨⟨d, i, x, y, w, hh⟩, by simp [A6.v, rc], wf_inR hi⟩) hu
  rw [bytes_of by36] at hn
  have er : reachBytes = 140737488351232 := rfl
  rw [er] at hn
  exact ⟨.tsl (E.flatMap A6.v) E.length nil full, E, rfl, fun s => tsl_rd sz36 (flatMap_len (f := A6.v) (s := 6) (fun _ => rfl) _) (fun h => (hnil h).1), hE, by omega⟩
end Go.Proofs.Ytgmccnnjpejigaa
