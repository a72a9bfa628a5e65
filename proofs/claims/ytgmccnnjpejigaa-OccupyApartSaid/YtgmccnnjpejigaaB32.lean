/- Chapter 5: what comes of an act, in one form. -/
import Derived.Test.YtgmccnnjpejigaaB31
set_option linter.unusedVariables false
set_option linter.unusedSimpArgs false
set_option maxRecDepth 10000
namespace Go.Proofs.Ytgmccnnjpejigaa
open Go Go.M Go.RowKit
attribute [local congr] acallF_cong aloop_cong bcase_cong resK_cong valK_cong wantK_cong callK_cong xputK_cong qputK_cong resM_cong rfK_cong
attribute [local irreducible] seqK blockK loopK nextK bcase resK valK wantK funK putK dputK xputK qputK callK aops aop acode adraw aloop acallF acall invK resM rfK rfEnd rdEnd rdMid around
section
variable {us : List (Int × V)} {os : List ((Int × Int) × V)} {L : List U}
theorem Rel.apart (h : Rel us os L) {p q : U} (hp : p ∈ L) (hq : q ∈ L) (hne : p.id ≠ q.id) : meetB p.x p.y p.w p.h q.x q.y q.w q.h = false := by
  rw [Bool.eq_false_iff]
  intro hh
  obtain ⟨a, b, h1, h2⟩ := (meet_in (h.val q hq) (h.val p hp)).1 hh
  have e1 := (h.go a b _).2 ⟨p, hp, h1, rfl⟩
  have e2 := (h.go a b _).2 ⟨q, hq, h2, rfl⟩
  rw [e1] at e2
  simp only [Option.some.injEq, V.sc.injEq, Value.int.injEq, true_and] at e2
  exact hne e2
theorem Gd.nil : Gd [] := ⟨List.Pairwise.nil, fun u hu => by simp at hu, by simp⟩
theorem Gd.place (h : Gd L) {u : U} (hl : L.length < 256) (hn : ∀ v ∈ L, v.id ≠ u.id) (hi : inR u.id) : Gd (insU u L) := by
  refine ⟨h.srt.insU u hn, fun v hv => ?_, by rw [insU_eq, insAt_len]; omega⟩
  rcases (mem_insAt u v L _).1 hv with rfl | hv
  · exact hi
  · exact h.rng v hv
theorem Gd.take (h : Gd L) (i : Nat) (hi : i < L.length) : Gd (L.take i ++ L.drop (i + 1)) := by
  refine ⟨h.srt.take i, fun v hv => h.rng v ?_, ?_⟩
  · rcases List.mem_append.1 hv with hv | hv
    · exact List.mem_of_mem_take hv
    · exact List.mem_of_mem_drop hv
  · have := h.len
    rw [List.length_append, List.length_take, List.length_drop]; omega
theorem Gd.move (h : Gd L) (i : Nat) (hi : i < L.length) (x y : Int) : Gd (L.set i (mvU L[i] x y)) := by
  refine ⟨h.srt.move i hi x y, fun v hv => ?_, by rw [List.length_set]; exact h.len⟩
  rcases List.mem_or_eq_of_mem_set hv with hv | rfl
  · exact h.rng v hv
  · exact h.rng L[i] (List.getElem_mem hi)
end
section
variable {n m : Nat} {st s : List Ob} {K : V → List Ob → Prop} {ix a b : Nat} {us : List (Int × V)} {os : List ((Int × Int) × V)} {L : List U} {x y w h id : Int}
theorem do_Put (hr : Rel us os L) (hg : Gd L) (hi : Ix st ix a b us os) (hab : a ≠ b) (hm : 4 < m) (hid : inR id)
    (h1 : ∀ e s, e ≠ 0 → Grw st s → K (.sc (.int .i64 e)) s)
    (h0 : ∀ us' os' L' s, Ix s ix a b us' os' → Rel us' os' L' → Gd L' → Kp a b st s → K (.sc (.int .i64 0)) s) :
    acallF Try.prog pl (n + 6) m 21 [.ref ix 0, .sc (.int .i64 id), .agg (rc x y w h)] st K :=
  o_Put hr hi hab hm (fun e s g => h1 _ s e g) fun _ hv hgn hno hl s hi' k =>
    h0 _ _ _ s hi' (hr.place ⟨id, x, y, w, h⟩ hv hgn hno) (hg.place hl (hr.new hgn) hid) k
theorem do_Take (hr : Rel us os L) (hg : Gd L) (hi : Ix st ix a b us os) (hab : a ≠ b) (hm : 4 < m)
    (h1 : ∀ e s, e ≠ 0 → Grw st s → K (.sc (.int .i64 e)) s)
    (h0 : ∀ us' os' L' s, Ix s ix a b us' os' → Rel us' os' L' → Gd L' → Kp a b st s → K (.sc (.int .i64 0)) s) :
    acallF Try.prog pl (n + 6) m 20 [.ref ix 0, .sc (.int .i64 id)] st K :=
  o_Take hr hi hab hm (fun _ s g => h1 _ s (by decide) g) fun i hil _ _ us' os' s hi' hr' k => h0 _ _ _ s hi' hr' (hg.take i hil) k
theorem do_Move (hr : Rel us os L) (hg : Gd L) (hi : Ix st ix a b us os) (hab : a ≠ b) (hm : 4 < m)
    (h1 : ∀ e s, e ≠ 0 → Grw st s → K (.sc (.int .i64 e)) s)
    (h0 : ∀ us' os' L' s, Ix s ix a b us' os' → Rel us' os' L' → Gd L' → Kp a b st s → K (.sc (.int .i64 0)) s) :
    acallF Try.prog pl (n + 7) m 19 [.ref ix 0, .sc (.int .i64 id), .agg (cl x y)] st K :=
  o_Move hr hi hab hm (fun _ s g => h1 _ s (by decide) g) (fun _ _ _ _ _ s g => h1 _ s (by decide) g) (fun _ _ _ _ _ _ s g => h1 _ s (by decide) g) fun i hil _ _ _ _ us' os' s hi' hr' k => h0 _ _ _ s hi' hr' (hg.move i hil x y) k
end
structure A6 where
  d : Int
  id : Int
  x : Int
  y : Int
  w : Int
  h : Int
def A6.v (e : A6) : List V := .sc (.int .i64 e.d) :: .sc (.int .i64 e.id) :: rc e.x e.y e.w e.h
end Go.Proofs.Ytgmccnnjpejigaa
