/- Commands, as they are handed in. -/
import Derived.Test.YtfndpnmdjblokaaCB
set_option linter.unusedVariables false
set_option linter.unusedSimpArgs false
set_option maxRecDepth 10000
namespace Go.Proofs.Ytfndpnmdjblokaa
open Go Go.M Go.RowKit
attribute [local congr] acallF_cong aloop_cong bcase_cong resK_cong valK_cong wantK_cong callK_cong xputK_cong qputK_cong
attribute [local irreducible] seqK blockK loopK nextK bcase resK valK wantK funK putK dputK xputK qputK callK aops aop acode adraw aloop acallF acall invK
theorem bulk_is : ∀ l : List Int, bulkVl (is l) = l.length
  | [] => rfl
  | n :: l => by simp only [is, List.map_cons, bulkVl, bulkV, List.length_cons]; rw [show List.map (fun n => V.sc (.int .i64 n)) l = is l from rfl, bulk_is l]; omega
theorem tv_ints {k n : Nat} {xs : List V} (h : TVn (TV Try.prog k 3) n xs) : ∃ l : List Int, l.length = n ∧ xs = is l ∧ ∀ x ∈ l, -9223372036854775808 ≤ x ∧ x < 9223372036854775808 := by
  obtain ⟨l, h1, h2, h3⟩ := TVn.list (f := fun b : Int => [V.sc (.int .i64 b)]) (Q := fun x => -9223372036854775808 ≤ x ∧ x < 9223372036854775808) (fun ys hy => by
    obtain ⟨n, rfl, hn⟩ := tv_int hy Try.underlying3
    exact ⟨n, rfl, wf_i64 hn⟩) h
  refine ⟨l, h1, ?_, h3⟩
  rw [h2]
  clear h1 h2 h3
  induction l with
  | nil => rfl
  | cons a l ih => simp [is, List.flatMap_cons] at ih ⊢; exact ih
/-- What stands in a command's numbers. -/
structure Cmd.wf (c : Cmd) : Prop where
  tick : -9223372036854775808 ≤ c.tick ∧ c.tick < 9223372036854775808
  player : -9223372036854775808 ≤ c.player ∧ c.player < 9223372036854775808
  seq : -9223372036854775808 ≤ c.seq ∧ c.seq < 9223372036854775808
  kind : -9223372036854775808 ≤ c.kind ∧ c.kind < 9223372036854775808
  units : ∀ x ∈ c.units, -9223372036854775808 ≤ x ∧ x < 9223372036854775808
  x : -9223372036854775808 ≤ c.x ∧ c.x < 9223372036854775808
  y : -9223372036854775808 ≤ c.y ∧ c.y < 9223372036854775808
  w : -9223372036854775808 ≤ c.w ∧ c.w < 9223372036854775808
  h : -9223372036854775808 ≤ c.h ∧ c.h < 9223372036854775808
  id : -9223372036854775808 ≤ c.id ∧ c.id < 9223372036854775808
  cls : -9223372036854775808 ≤ c.cls ∧ c.cls < 9223372036854775808
  sz : -9223372036854775808 ≤ c.sz ∧ c.sz < 9223372036854775808
set_option maxRecDepth 100000 in
theorem cmd1 {k : Nat} {ys : List V} (h : TV Try.prog (k + 3) 59 ys) (hb : bulkVl ys ≤ 1048576) : ∃ c : Cmd, ys = c.v ∧ (∀ s, c.at_ s) ∧ c.units.length ≤ 1048576 ∧ c.wf := by
  have h := tv_struct h Try.underlying59
  obtain ⟨y0, z0, rfl, h0, h⟩ := h
  obtain ⟨y1, z1, rfl, h1, h⟩ := h
  obtain ⟨y2, z2, rfl, h2, h⟩ := h
  obtain ⟨y3, z3, rfl, h3, h⟩ := h
  obtain ⟨y4, z4, rfl, h4, h⟩ := h
  obtain ⟨y5, z5, rfl, h5, h⟩ := h
  obtain ⟨y6, z6, rfl, h6, h⟩ := h
  obtain ⟨y7, z7, rfl, h7, h⟩ := h
  obtain ⟨y8, z8, rfl, h8, h⟩ := h
  obtain ⟨y9, z9, rfl, h9, h⟩ := h
  obtain rfl : z9 = [] := h
  obtain ⟨tick, rfl, w0⟩ := tv_int h0 Try.underlying3
  obtain ⟨player, rfl, w1⟩ := tv_int h1 Try.underlying3
  obtain ⟨seq, rfl, w2⟩ := tv_int h2 Try.underlying3
  obtain ⟨kind, rfl, w3⟩ := tv_int h3 Try.underlying3
  obtain ⟨us, n, nil, full, rfl, hu, hn, hnil⟩ := tv_slice h4 Try.underlying53
  obtain ⟨l, rfl, rfl, hl⟩ := tv_ints hu
  obtain ⟨a0, b0, rfl, i0, i1⟩ := tv_struct h5 Try.underlying55
  obtain ⟨a1, b1, rfl, i1, i2⟩ := i1
  obtain rfl : b1 = [] := i2
  obtain ⟨x, rfl, w4⟩ := tv_int i0 Try.underlying3
  obtain ⟨y, rfl, w5⟩ := tv_int i1 Try.underlying3
  obtain ⟨ww, rfl, w6⟩ := tv_int h6 Try.underlying3
  obtain ⟨hh, rfl, w7⟩ := tv_int h7 Try.underlying3
  obtain ⟨id, rfl, w8⟩ := tv_int h8 Try.underlying3
  obtain ⟨a2, b2, rfl, j0, j1⟩ := tv_struct h9 Try.underlying57
  obtain ⟨a3, b3, rfl, j1, j2⟩ := j1
  obtain rfl : b3 = [] := j2
  obtain ⟨cls, rfl, w9⟩ := tv_int j0 Try.underlying3
  obtain ⟨sz, rfl, w10⟩ := tv_int j1 Try.underlying3
  have hlen : l.length ≤ 1048576 := by
    simp only [bulkVl_append, bulkVl, bulkV, bulk_is] at hb
    omega
  refine ⟨⟨tick, player, seq, kind, .tsl (is l) l.length nil full, l, x, y, ww, hh, id, cls, sz⟩, rfl, fun s => ⟨tsl_rd sz3 (by simp [is]) (fun h => (hnil h).1), rfl, rfl, by simp only; omega⟩, hlen, ⟨wf_i64 w0, wf_i64 w1, wf_i64 w2, wf_i64 w3, hl, wf_i64 w4, wf_i64 w5, wf_i64 w6, wf_i64 w7, wf_i64 w8, wf_i64 w9, wf_i64 w10⟩⟩
end Go.Proofs.Ytfndpnmdjblokaa
