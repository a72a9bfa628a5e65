/- Chapter 4: maps and edits, as they are handed in. -/
import Derived.Test.YtndjhaeeldegfaaG23
set_option linter.unusedVariables false
set_option linter.unusedSimpArgs false
set_option maxRecDepth 10000
namespace Go.Proofs.Ytndjhaeeldegfaa
open Go Go.M Go.RowKit
attribute [local congr] acallF_cong aloop_cong bcase_cong resK_cong valK_cong wantK_cong callK_cong xputK_cong qputK_cong resM_cong rfK_cong
attribute [local irreducible] seqK blockK loopK nextK bcase resK valK wantK funK putK dputK xputK qputK callK aops aop acode adraw aloop acallF acall invK resM rfK rfEnd rdEnd rdMid around
theorem bytes_of {t : TypeId} {b : Nat} (h : M.bytesOf Try.prog t = some b) : Try.prog.bytesOf t = b := by
  unfold M.bytesOf at h
  unfold Program.bytesOf
  rw [h]; rfl
set_option maxRecDepth 100000 in
theorem tv_bd {k : Nat} {ys : List V} (h : TV Try.prog (k + 3) 90 ys) : ∃ u : B4, ys = B4.v u := by
  have h := tv_struct h Try.underlying90
  obtain ⟨y1, z1, rfl, h1, h⟩ := h
  obtain ⟨y2, z2, rfl, h2, h⟩ := h
  obtain rfl : z2 = [] := h
  obtain ⟨i, rfl, _⟩ := tv_int h1 Try.underlying3
  have h := tv_struct h2 Try.underlying78
  obtain ⟨a0, b0, rfl, j0, h⟩ := h
  obtain ⟨a1, b1, rfl, j1, h⟩ := h
  obtain ⟨a2, b2, rfl, j2, h⟩ := h
  obtain rfl : b2 = [] := h
  have h := tv_struct j0 Try.underlying24
  obtain ⟨a3, b3, rfl, j3, h⟩ := h
  obtain ⟨a4, b4, rfl, j4, h⟩ := h
  obtain rfl : b4 = [] := h
  obtain ⟨x, rfl, _⟩ := tv_int j3 Try.underlying3
  obtain ⟨y, rfl, _⟩ := tv_int j4 Try.underlying3
  obtain ⟨w, rfl, _⟩ := tv_int j1 Try.underlying3
  obtain ⟨hh, rfl, _⟩ := tv_int j2 Try.underlying3
  exact ⟨⟨i, x, y, w, hh⟩, rfl⟩
set_option maxRecDepth 100000 in
/-- A map, as it is handed in. -/
theorem tv_map {k : Nat} {ys : List V} (h : TV Try.prog (k + 5) 65 ys) : ∃ (WW HH : Int) (tv bv : V) (T : List Int) (L : List B4), ys = mp WW HH tv bv ∧ (∀ s, Rd Try.prog s 5 tv (bs T) T.length) ∧ (∀ s, Rd Try.prog s 90 bv (L.flatMap B4.v) L.length) ∧ (one tv = true ∧ cellsV tv = [tv]) ∧ (one bv = true ∧ cellsV bv = [bv]) ∧
    (∀ t ∈ T, 0 ≤ t ∧ t < 256) ∧ T.length ≤ 140737488355328 ∧ L.length ≤ 3518437208883 := by
  have h := tv_struct h Try.underlying65
  obtain ⟨y1, z1, rfl, h1, h⟩ := h
  obtain ⟨y2, z2, rfl, h2, h⟩ := h
  obtain ⟨y3, z3, rfl, h3, h⟩ := h
  obtain ⟨y4, z4, rfl, h4, h⟩ := h
  obtain rfl : z4 = [] := h
  obtain ⟨WW, rfl, _⟩ := tv_int h1 Try.underlying3
  obtain ⟨HH, rfl, _⟩ := tv_int h2 Try.underlying3
  obtain ⟨us, n, nil, full, rfl, hu, hn, hnil⟩ := tv_slice h3 Try.underlying62
  obtain ⟨T, rfl, rfl, hT⟩ := tv_bytes Try.underlying5 hu
  obtain ⟨ws, n2, nil2, full2, rfl, hu2, hn2, hnil2⟩ := tv_slice h4 Try.underlying63
  obtain ⟨L, rfl, rfl, _⟩ := TVn.list (f := B4.v) (Q := fun _ => True) (fun ys hy => by
    obtain ⟨u, rfl⟩ := tv_bd hy
    exact ⟨u, rfl, trivial⟩) hu2
  rw [bytes_of by5] at hn
  rw [bytes_of by90] at hn2
  have er : reachBytes = 140737488351232 := rfl
  rw [er] at hn hn2
  exact ⟨WW, HH, .tsl (bs T) T.length nil full, .tsl (L.flatMap B4.v) L.length nil2 full2, T, L, rfl, fun s => tsl_rd sz5 (by rw [bs_len]; omega) (fun h => (hnil h).1), fun s => tsl_rd sz90 (flatMap_len (f := B4.v) (s := 5) (fun _ => rfl) _) (fun h => (hnil2 h).1), ⟨rfl, rfl⟩, ⟨rfl, rfl⟩, hT, by omega, by omega⟩
set_option maxRecDepth 100000 in
/-- A list of edits, as it is handed in. -/
theorem tv_edits {k : Nat} {ys : List V} (h : TV Try.prog (k + 5) 66 ys) : ∃ (lv : V) (E : List E4), ys = [lv] ∧ (∀ s, Rd Try.prog s 101 lv (E.flatMap E4.v) E.length) ∧ E.length ≤ 2932031007402 := by
  obtain ⟨us, n, nil, full, rfl, hu, hn, hnil⟩ := tv_slice h Try.underlying66
  obtain ⟨E, rfl, rfl, _⟩ := TVn.list (f := E4.v) (Q := fun _ => True) (fun ys hy => by
    have h := tv_struct hy Try.underlying101
    obtain ⟨y1, z1, rfl, h1, h⟩ := h
    obtain ⟨y2, z2, rfl, h2, h⟩ := h
    obtain rfl : z2 = [] := h
    obtain ⟨b, rfl⟩ := tv_bool h1 Try.underlying4
    obtain ⟨u, rfl⟩ := tv_bd h2
    exact ⟨⟨b, u⟩, by simp [E4.v], trivial⟩) hu
  rw [bytes_of by101] at hn
  have er : reachBytes = 140737488351232 := rfl
  rw [er] at hn
  exact ⟨.tsl (E.flatMap E4.v) E.length nil full, E, rfl, fun s => tsl_rd sz101 (flatMap_len (f := E4.v) (s := 6) (fun _ => rfl) _) (fun h => (hnil h).1), by omega⟩
end Go.Proofs.Ytndjhaeeldegfaa
