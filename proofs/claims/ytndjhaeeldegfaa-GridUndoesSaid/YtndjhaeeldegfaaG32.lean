/- Chapter 4: what lies behind edits may be a map. -/
import Derived.Test.YtndjhaeeldegfaaG20
set_option linter.unusedVariables false
set_option linter.unusedSimpArgs false
set_option maxRecDepth 10000
namespace Go.Proofs.Ytndjhaeeldegfaa
open Go Go.M Go.RowKit
attribute [local congr] acallF_cong aloop_cong bcase_cong resK_cong valK_cong wantK_cong callK_cong xputK_cong qputK_cong resM_cong rfK_cong
attribute [local irreducible] seqK blockK loopK nextK bcase resK valK wantK funK putK dputK xputK qputK callK aops aop acode adraw aloop acallF acall invK resM rfK rfEnd rdEnd rdMid around
section
variable {WW HH : Int} {us : List (Int × V)} {os : List ((Int × Int) × V)} {L : List B4}
theorem chk_all : ∀ (L pre : List B4), (∀ u ∈ pre ++ L, valB WW HH u = true) → Srt (pre ++ L) → (∀ u ∈ pre ++ L, ∀ p ∈ pre ++ L, p.id < u.id → meetB p.x p.y p.w p.h u.x u.y u.w u.h = false) → chk WW HH pre L = true
  | [], _, _, _, _ => rfl
  | u :: L, pre, hv, hs, hm => by
    have e : pre ++ u :: L = (pre ++ [u]) ++ L := by simp
    have hu : u ∈ pre ++ u :: L := by simp
    simp only [chk, Bool.and_eq_true]
    refine ⟨⟨hv u hu, List.all_eq_true.2 fun p hp => ?_⟩, chk_all L (pre ++ [u]) (by rw [← e]; exact hv) (by rw [← e]; exact hs) (by rw [← e]; exact hm)⟩
    have hpi : p ∈ pre ++ u :: L := by simp [hp]
    have hlt : p.id < u.id := by
      unfold Srt at hs
      rw [List.pairwise_append] at hs
      exact hs.2.2 p hp u (by simp)
    simp only [pairB, hm u hu p hpi hlt, decide_eq_true hlt, Bool.not_false, Bool.and_self]
theorem Rel.chk (h : Rel WW HH us os L) (hs : Srt L) : chk WW HH [] L = true := by
  refine chk_all L [] (by simpa using h.val) (by simpa using hs) ?_
  simp only [List.nil_append]
  intro u hu p hp hlt
  rw [Bool.eq_false_iff]
  intro hh
  obtain ⟨a, b, h1, h2⟩ := (meet_in (h.val u hu) (h.val p hp)).1 hh
  have e1 := (h.go a b _).2 ⟨p, hp, h1, rfl⟩
  have e2 := (h.go a b _).2 ⟨u, hu, h2, rfl⟩
  rw [e1] at e2
  simp only [Option.some.injEq, V.sc.injEq, Value.int.injEq, true_and] at e2
  omega
/-- What lies behind edits may be a map. -/
theorem Rel.refOK (h : Rel WW HH us os L) (hs : Srt L) {T : List Int} {L0 : List B4} (h0 : refOK WW HH T L0 = true) (hl : L.length ≤ 256) : refOK WW HH T L = true := by
  have hc := h.chk hs
  unfold Go.Proofs.Ytndjhaeeldegfaa.refOK at h0 ⊢
  simp only [Bool.and_eq_true, decide_eq_true_eq] at h0 ⊢
  exact ⟨⟨⟨h0.1.1.1, hl⟩, h0.1.2⟩, hc⟩
/-- Placed and razed again. -/
theorem Rel.undo (h : Rel WW HH us os L) (u : B4) (he : mayE us os WW HH u.id u.x u.y u.w u.h = 0) :
    Rel WW HH (putI u.id (.agg (rc u.x u.y u.w u.h)) us) (fillC (.sc (.int .i64 u.id)) u.x u.y u.w.toNat os (u.h.toNat * u.w.toNat)) (u :: L) ∧
    Rel WW HH (delI u.id (putI u.id (.agg (rc u.x u.y u.w u.h)) us)) (cutC u.x u.y u.w.toNat (fillC (.sc (.int .i64 u.id)) u.x u.y u.w.toNat os (u.h.toNat * u.w.toNat)) (u.h.toNat * u.w.toNat)) L := by
  have hn := h.new u he
  have hni : u ∉ L := fun hi => hn u hi rfl
  have hnd : ((u :: L).map B4.id).Nodup := by
    rw [List.map_cons, List.nodup_cons]
    refine ⟨fun hi => ?_, h.ids⟩
    obtain ⟨v, hv, he⟩ := List.mem_map.1 hi
    exact hn v hv he
  have h1 := h.put he (L' := u :: L) (fun v => by simp) hnd (by simp)
  refine ⟨h1, h1.raze (u := u) (by simp) (fun v => ?_) h.ids (by simp)⟩
  constructor
  · intro hv
    exact ⟨fun hh => hni (hh ▸ hv), by simp [hv]⟩
  · rintro ⟨h2, h3⟩
    rcases List.mem_cons.1 h3 with h4 | h4
    · exact absurd h4 h2
    · exact h4
theorem refOK_T {T : List Int} {L : List B4} (h : refOK WW HH T L = true) : T.length ≤ 16384 := by
  obtain ⟨⟨hW, hW'⟩, ⟨hH, hH'⟩, hTl, _⟩ := refOK_facts h
  have hb2 : WW * HH ≤ 128 * 128 := Int.mul_le_mul (by omega) (by omega) (by omega) (by omega)
  omega
end
end Go.Proofs.Ytndjhaeeldegfaa
