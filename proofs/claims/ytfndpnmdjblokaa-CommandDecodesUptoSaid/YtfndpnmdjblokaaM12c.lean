/- A region that draws its order: what its run in the text's order comes to. -/
import Derived.Test.YtfndpnmdjblokaaM12b
set_option linter.unusedVariables false
set_option linter.unusedSimpArgs false
namespace Go.M
open Go Go.RowKit
section
variable {P : Program} {ops : Array Oper}

def isAt (f : Op → Bool) (ops : Array Oper) (i : Nat) : Bool := match ops[i]? with
  | some o => f o.op
  | none => false
/-- How many of a kind lie ahead of i. -/
def cnt (f : Op → Bool) (ops : Array Oper) (i : Nat) : Nat := ((List.range i).filter (isAt f ops)).length
theorem idxs_eq (f : Op → Bool) : idxs f ops = (List.range ops.size).filter (isAt f ops) := rfl
theorem cnt_succ {f : Op → Bool} (i : Nat) : cnt f ops (i + 1) = cnt f ops i + if isAt f ops i = true then 1 else 0 := by
  unfold cnt
  rw [List.range_succ, List.filter_append, List.length_append]
  by_cases h : isAt f ops i = true <;> simp [h]
theorem cnt_mono {f : Op → Bool} {i j : Nat} (h : i ≤ j) : cnt f ops i ≤ cnt f ops j := by
  obtain ⟨k, rfl⟩ := Nat.exists_eq_add_of_le h
  clear h
  induction k with
  | zero => simp
  | succ k ih => rw [← Nat.add_assoc, cnt_succ]; omega
theorem isAt_lt {f : Op → Bool} {i : Nat} (h : isAt f ops i = true) : i < ops.size := by
  unfold isAt at h
  cases ho : ops[i]? with
  | none => rw [ho] at h; cases h
  | some o => exact (Array.getElem?_eq_some_iff.1 ho).1
theorem idxs_cnt {f : Op → Bool} {i : Nat} (h : isAt f ops i = true) : (idxs f ops)[cnt f ops i]? = some i := by
  have hlt := isAt_lt h
  rw [idxs_eq]
  obtain ⟨k, hk⟩ := Nat.exists_eq_add_of_le hlt
  rw [hk, List.range_add, List.filter_append, List.range_succ, List.filter_append, List.append_assoc]
  unfold cnt
  rw [List.getElem?_append_right (Nat.le_refl _), Nat.sub_self]
  simp [h]
theorem idxs_spec {f : Op → Bool} {k j : Nat} (h : (idxs f ops)[k]? = some j) : isAt f ops j = true ∧ cnt f ops j = k := by
  have hm := List.mem_of_getElem? h
  rw [idxs_eq, List.mem_filter] at hm
  refine ⟨hm.2, ?_⟩
  have h2 := idxs_cnt hm.2
  have hnd : (idxs f ops).Nodup := by rw [idxs_eq]; exact List.Pairwise.filter _ List.nodup_range
  have hl := (List.getElem?_eq_some_iff.1 h).1
  have hl2 := (List.getElem?_eq_some_iff.1 h2).1
  have e1 := (List.getElem?_eq_some_iff.1 h).2
  have e2 := (List.getElem?_eq_some_iff.1 h2).2
  rcases Nat.lt_trichotomy (cnt f ops j) k with hlt | heq | hlt
  · exact absurd (e2.trans e1.symm) (List.pairwise_iff_getElem.1 hnd _ _ hl2 hl hlt)
  · exact heq
  · exact absurd (e1.trans e2.symm) (List.pairwise_iff_getElem.1 hnd _ _ hl hl2 hlt)
theorem cnt_inj {f : Op → Bool} {i j : Nat} (hi : isAt f ops i = true) (hj : isAt f ops j = true) (h : cnt f ops i = cnt f ops j) : i = j := by
  have h1 := idxs_cnt hi
  have h2 := idxs_cnt hj
  rw [h, h2] at h1
  cases h1
  rfl
theorem cnt_all (f : Op → Bool) : cnt f ops ops.size = (idxs f ops).length := rfl
theorem cnt_at {f : Op → Bool} {k : Nat} (h : k < cnt f ops ops.size) : ∃ j, isAt f ops j = true ∧ cnt f ops j = k := by
  rw [cnt_all] at h
  exact ⟨_, idxs_spec (List.getElem?_eq_getElem h)⟩
theorem cnt_lt {f : Op → Bool} {i j : Nat} (hi : isAt f ops i = true) (h : i < j) : cnt f ops i < cnt f ops j := by
  have h1 := cnt_mono (f := f) (ops := ops) (show i + 1 ≤ j from h)
  rw [cnt_succ, if_pos hi] at h1
  omega

/-- What one operation comes to, where the operations come in the text's order. -/
def Fact (P : Program) (C : CallK) (ops : Array Oper) (plan : List PI) (base : Nat) (t0 : List V) (vs : Nat → V) (ss : Nat → List Ob) (xs : List (Option Ob)) (i : Nat) (o : Oper) (p : PI) : Prop :=
  (awanted ops (TL ops vs (fun _ => true) t0 i) o = some false ∧ vs i = .sc undef ∧ (isE o.op = true → ss (cnt isE ops i + 1) = ss (cnt isE ops i)) ∧ (isA o.op = true → xs[cnt isA ops i]? = some none)) ∨
  (awanted ops (TL ops vs (fun _ => true) t0 i) o = some true ∧ (
    (isA o.op = true ∧ ∃ X, aobj P (aev (TL ops vs (fun _ => true) t0 i)) (base + cnt isA ops i) o = some (vs i, X) ∧ xs[cnt isA ops i]? = some (some X)) ∨
    (isA o.op = false ∧ quietOp o.op = true ∧ ∀ k, p.lo ≤ k → k ≤ cnt isE ops i → qop P o (TL ops vs (fun _ => true) t0 i) (over (ovOf base xs p.needs) (ss k)) = some (vs i)) ∨
    (isA o.op = false ∧ quietOp o.op = false ∧ KG1 (over (ovOf base xs p.needs) (ss (cnt isE ops i))) (ss (cnt isE ops i + 1)) ∧ (ss (cnt isE ops i)).length ≤ (ss (cnt isE ops i + 1)).length ∧
      (∀ ov (K' : V → List Ob → Prop), Fine ov (ss (cnt isE ops i)).length → K' (vs i) (over ov (ss (cnt isE ops i + 1))) → aop P C o (TL ops vs (fun _ => true) t0 i) (over ov (over (ovOf base xs p.needs) (ss (cnt isE ops i)))) K') ∧
      (Grw (over (ovOf base xs p.needs) (ss (cnt isE ops i))) (ss (cnt isE ops i + 1)) ∨
        ∀ q ∈ p.stab, ∀ oq pq, ops[q]? = some oq → plan[q]? = some pq → q < i → (∀ a ∈ pq.needs, a < cnt isA ops q) → quietOp oq.op = true ∧ (awanted ops (TL ops vs (fun _ => true) t0 i) oq = some true → match oq.dst with
          | some d => d < (TL ops vs (fun _ => true) t0 i).length ∧ qop P oq (TL ops vs (fun _ => true) t0 i) (over (ovOf base xs pq.needs) (ss (cnt isE ops i + 1))) = some ((TL ops vs (fun _ => true) t0 i).getD d .dead)
          | none => False)))))

theorem ovOf_app {base : Nat} {xs ys : List (Option Ob)} {needs : List Nat} (h : ∀ a ∈ needs, a < xs.length) : ovOf base (xs ++ ys) needs = ovOf base xs needs := by
  funext i
  unfold ovOf
  split
  · rename_i hc
    rw [List.getElem?_append_left (h _ hc.2)]
  · rfl

theorem pend_all {plan : List PI} {base : Nat} {xs : List (Option Ob)} {t : List V} {st : List Ob} : ∀ {l : List Nat}, pendOK P ops plan base xs t st l → ∀ q ∈ l, ∀ oq pq, ops[q]? = some oq → plan[q]? = some pq →
    quietOp oq.op = true ∧ (awanted ops t oq = some true → match oq.dst with
      | some d => d < t.length ∧ qop P oq t (patch base xs pq.needs st) = some (t.getD d .dead)
      | none => False)
  | [], _, q, hq => by cases hq
  | a :: r, h, q, hq => by
    intro oq pq h1 h2
    simp only [pendOK] at h
    rcases List.mem_cons.1 hq with rfl | hq
    · have := h.1
      simp only [h1, h2] at this
      exact this
    · exact pend_all h.2 q hq oq pq h1 h2

/-- The run in the text's order, parted. -/
theorem extract {C : CallK} (hC : CF C) {plan : List PI} {base : Nat} {t0 : List V} (hlen : plan.length = ops.size) (hneeds : ∀ (i : Nat) (p : PI), plan[i]? = some p → ∀ a ∈ p.needs, a < cnt isA ops i) :
    ∀ (l : List Oper) (ps : List PI) (i : Nat) (st : List Ob) (hs : List (List Ob)) (xs : List (Option Ob)) (K : List V → List Ob → Prop) (vs0 : List V),
      (∀ j, l[j]? = ops[i + j]?) → (∀ j, ps[j]? = plan[i + j]?) → vs0.length = i → i ≤ ops.size → hs.length = cnt isE ops i → xs.length = cnt isA ops i → NoGone xs →
      adraw P C ops plan base l ps (TL ops (fun j => vs0.getD j .dead) (fun _ => true) t0 i) st hs xs K →
      ∃ (vs1 : List V) (ss1 : List (List Ob)) (xs1 : List (Option Ob)), NoGone (xs ++ xs1) ∧ (xs ++ xs1).length = cnt isA ops ops.size ∧
        K (TL ops (fun j => (vs0 ++ vs1).getD j .dead) (fun _ => true) t0 ops.size) (over (ovOf base (xs ++ xs1) (List.range (xs ++ xs1).length)) ((hs ++ st :: ss1).getD (cnt isE ops ops.size) [])) ∧
        ∀ j o p, i ≤ j → ops[j]? = some o → plan[j]? = some p → Fact P C ops plan base t0 (fun j => (vs0 ++ vs1).getD j .dead) (fun k => (hs ++ st :: ss1).getD k []) (xs ++ xs1) j o p := by
  intro l
  induction l with
  | nil =>
    intro ps i st hs xs K vs0 hl hps hv hi hh hx hg h
    have hi' : i = ops.size := by
      have := (hl 0).symm
      simp only [List.getElem?_nil, Nat.add_zero, Array.getElem?_eq_none_iff] at this
      omega
    subst hi'
    refine ⟨[], [], [], by simpa using hg, by simpa using hx, ?_, fun j o p h1 h2 h3 => ?_⟩
    · have h' : K (TL ops (fun j => vs0.getD j .dead) (fun _ => true) t0 ops.size) (patch base xs (List.range xs.length) st) := by cases ps <;> simpa [adraw] using h
      rw [patch_over hg] at h'
      have e1 : (hs ++ [st]).getD (cnt isE ops ops.size) [] = st := by rw [← hh]; simp
      simp only [List.append_nil, e1]
      exact h'
    · have := (Array.getElem?_eq_some_iff.1 h2).1; omega
  | cons o l ih =>
    intro ps i st hs xs K vs0 hl hps hv hi hh hx hg h
    have ho : ops[i]? = some o := by simpa using (hl 0).symm
    have hlt := (Array.getElem?_eq_some_iff.1 ho).1
    have hl' : ∀ j, l[j]? = ops[i + 1 + j]? := fun j => by have := hl (j + 1); simpa [Nat.add_assoc, Nat.add_comm 1 j] using this
    cases ps with
    | nil =>
      have := (hps 0).symm
      simp only [List.getElem?_nil, Nat.add_zero, List.getElem?_eq_none_iff] at this
      omega
    | cons p ps =>
      have hp : plan[i]? = some p := by simpa using (hps 0).symm
      have hps' : ∀ j, ps[j]? = plan[i + 1 + j]? := fun j => by have := hps (j + 1); simpa [Nat.add_assoc, Nat.add_comm 1 j] using this
      have hTL : ∀ v, aput (TL ops (fun j => vs0.getD j .dead) (fun _ => true) t0 i) o.dst v = TL ops (fun j => (vs0 ++ [v]).getD j .dead) (fun _ => true) t0 (i + 1) := fun v => by
        simp only [TL, if_true]
        rw [TL_vs (vs := fun j => (vs0 ++ [v]).getD j .dead) (vs' := fun j => vs0.getD j .dead) i fun j hj => by simp only [List.getD_eq_getElem?_getD]; rw [List.getElem?_append_left (by omega)]]
        have : dstOf ops i = o.dst := by simp [dstOf, ho]
        rw [this, ← hv]
        simp
      have hTi : ∀ v vs1, TL ops (fun j => ((vs0 ++ [v]) ++ vs1).getD j .dead) (fun _ => true) t0 i = TL ops (fun j => vs0.getD j .dead) (fun _ => true) t0 i := fun v vs1 =>
        TL_vs i fun j hj => by simp only [List.getD_eq_getElem?_getD]; rw [List.append_assoc, List.getElem?_append_left (by omega)]
      have hvi : ∀ v vs1, ((vs0 ++ [v]) ++ vs1).getD i .dead = v := fun v vs1 => by
        rw [List.append_assoc, List.getD_eq_getElem?_getD, List.getElem?_append_right (by omega), hv, Nat.sub_self]; rfl
      have hatE : isAt isE ops i = isE o.op := by simp [isAt, ho]
      have hatA : isAt isA ops i = isA o.op := by simp [isAt, ho]
      have hst : ∀ ss1 : List (List Ob), (hs ++ st :: ss1).getD (cnt isE ops i) [] = st := fun ss1 => by rw [← hh]; simp
      have hst' : ∀ (st' : List Ob) (ss1 : List (List Ob)), ((hs ++ [st]) ++ st' :: ss1).getD (cnt isE ops i) [] = st := fun st' ss1 => by rw [← hh]; simp
      have hst2 : ∀ (st' : List Ob) (ss1 : List (List Ob)), ((hs ++ [st]) ++ st' :: ss1).getD (cnt isE ops i + 1) [] = st' := fun st' ss1 => by
        rw [← hh, List.getD_eq_getElem?_getD, List.getElem?_append_right (by simp)]; simp
      simp only [adraw] at h
      split at h
      · rename_i hw
        split at h
        · rename_i hA
          split at h
          · rename_i v X hX
            rw [hTL] at h
            obtain ⟨vs1, ss1, xs1, h1, h2, h3, h4⟩ := ih ps (i + 1) st hs (xs ++ [some X]) K (vs0 ++ [v]) hl' hps' (by simp [hv]) hlt (by rw [cnt_succ, hatE, hh]; simp [isE, hA]) (by rw [cnt_succ, hatA, hA]; simp [hx]) (hg.snoc (by simpa using aobj_ng hX)) h
            rw [List.append_assoc xs] at h1 h2 h3
            refine ⟨[v] ++ vs1, ss1, [some X] ++ xs1, h1, h2, ?_, fun j o' p' hj ho' hp' => ?_⟩
            · rw [← List.append_assoc]; exact h3
            · rw [← List.append_assoc, ← List.append_assoc]
              by_cases hji : j = i
              · subst hji
                rw [ho] at ho'; rw [hp] at hp'; cases ho'; cases hp'
                refine .inr ⟨by rw [hTi]; exact hw, .inl ⟨hA, X, ?_, ?_⟩⟩
                · rw [hTi]; dsimp only; rw [hvi, ← hx]; exact hX
                · rw [List.append_assoc, ← hx]; simp
              · exact h4 j o' p' (by omega) ho' hp'
          · exact h.elim
        · rename_i hA
          split at h
          · rename_i hQ
            split at h
            · rename_i v hv'
              obtain ⟨hm, h⟩ := h
              rw [hTL] at h
              obtain ⟨vs1, ss1, xs1, h1, h2, h3, h4⟩ := ih ps (i + 1) st hs xs K (vs0 ++ [v]) hl' hps' (by simp [hv]) hlt (by rw [cnt_succ, hatE, hh]; simp [isE, hQ]) (by rw [cnt_succ, hatA, hx]; simp [hA]) hg h
              refine ⟨[v] ++ vs1, ss1, xs1, h1, h2, ?_, fun j o' p' hj ho' hp' => ?_⟩
              · rw [← List.append_assoc]; exact h3
              · rw [← List.append_assoc]
                by_cases hji : j = i
                · subst hji
                  rw [ho] at ho'; rw [hp] at hp'; cases ho'; cases hp'
                  refine .inr ⟨by rw [hTi]; exact hw, .inr (.inl ⟨by simpa using hA, hQ, fun k k1 k2 => ?_⟩)⟩
                  rw [hTi]
                  dsimp only
                  rw [hvi, ovOf_app (fun a ha => by rw [hx]; exact hneeds _ _ hp a ha), ← patch_over hg]
                  by_cases hk : k = cnt isE ops j
                  · subst hk; rw [hst]; exact hv'
                  · have hkl : k < hs.length := by omega
                    by_cases hmm : memOp o.op = true
                    · refine hm hmm _ ?_
                      rw [List.getD_eq_getElem?_getD, List.getElem?_append_left hkl, List.getElem?_eq_getElem hkl, Option.getD_some]
                      rw [List.mem_iff_getElem?]
                      exact ⟨k - p.lo, by rw [List.getElem?_drop, show p.lo + (k - p.lo) = k by omega, List.getElem?_eq_getElem hkl]⟩
                    · exact qop_any hQ (by simpa using hmm) hv'
                · exact h4 j o' p' (by omega) ho' hp'
            · exact h.elim
          · rename_i hQ
            have hE : isE o.op = true := by simp [isE, hA, hQ]
            obtain ⟨v, st1, ⟨k0, k1⟩, k2, k3, k4⟩ := aop_CF hC h
            rw [hTL] at k1
            rw [patch_len hg] at k3 k4
            obtain ⟨vs1, ss1, xs1, h1, h2, h3, h4⟩ := ih ps (i + 1) st1 (hs ++ [st]) xs K (vs0 ++ [v]) hl' hps' (by simp [hv]) hlt (by rw [cnt_succ, hatE, hE]; simp [hh]) (by rw [cnt_succ, hatA, hx]; simp [hA]) hg k1
            refine ⟨[v] ++ vs1, st1 :: ss1, xs1, h1, h2, ?_, fun j o' p' hj ho' hp' => ?_⟩
            · rw [← List.append_assoc, show hs ++ st :: st1 :: ss1 = (hs ++ [st]) ++ st1 :: ss1 by simp]; exact h3
            · rw [← List.append_assoc, show hs ++ st :: st1 :: ss1 = (hs ++ [st]) ++ st1 :: ss1 by simp]
              by_cases hji : j = i
              · subst hji
                rw [ho] at ho'; rw [hp] at hp'; cases ho'; cases hp'
                have hov := ovOf_app (base := base) (xs := xs) (ys := xs1) (needs := p.needs) (fun a ha => by rw [hx]; exact hneeds _ _ hp a ha)
                refine .inr ⟨by rw [hTi]; exact hw, .inr (.inr ⟨by simpa using hA, by simpa using hQ, ?_, ?_, ?_, ?_⟩)⟩
                · dsimp only; rw [hst', hst2, hov, ← patch_over hg]; exact k2
                · dsimp only; rw [hst', hst2]; exact k3
                · intro ov K' hf hk
                  dsimp only; rw [hst', hTi, hov, ← patch_over hg]
                  dsimp only at hf hk
                  rw [hst'] at hf
                  rw [hst2, hvi] at hk
                  exact k4 ov K' hf hk
                · dsimp only; rw [hst', hst2, hov, ← patch_over hg]
                  rcases k0 with k0 | k0
                  · exact .inl k0
                  · refine .inr fun q hq oq pq hoq hpq hqi hn => ?_
                    obtain ⟨j1, j2⟩ := pend_all k0 q hq oq pq hoq hpq
                    refine ⟨j1, fun hw' => ?_⟩
                    rw [hTi] at hw' ⊢
                    rw [ovOf_app (fun a ha => by have := hn a ha; have := cnt_mono (f := isA) (ops := ops) (Nat.le_of_lt hqi); omega), ← patch_over hg]
                    exact j2 hw'
              · exact h4 j o' p' (by omega) ho' hp'
      · rename_i hw
        rw [hTL] at h
        by_cases hE : isE o.op = true
        · have hA : isA o.op = false := by simp only [isE, Bool.and_eq_true, Bool.not_eq_true'] at hE; exact hE.2
          simp only [hE, hA, if_true, Bool.false_eq_true, if_false] at h
          obtain ⟨vs1, ss1, xs1, h1, h2, h3, h4⟩ := ih ps (i + 1) st (hs ++ [st]) xs K (vs0 ++ [.sc undef]) hl' hps' (by simp [hv]) hlt (by rw [cnt_succ, hatE, hE]; simp [hh]) (by rw [cnt_succ, hatA, hx]; simp [hA]) hg h
          refine ⟨[.sc undef] ++ vs1, st :: ss1, xs1, h1, h2, ?_, fun j o' p' hj ho' hp' => ?_⟩
          · rw [← List.append_assoc, show hs ++ st :: st :: ss1 = (hs ++ [st]) ++ st :: ss1 by simp]; exact h3
          · rw [← List.append_assoc, show hs ++ st :: st :: ss1 = (hs ++ [st]) ++ st :: ss1 by simp]
            by_cases hji : j = i
            · subst hji
              rw [ho] at ho'; rw [hp] at hp'; cases ho'; cases hp'
              exact .inl ⟨by rw [hTi]; exact hw, hvi _ _, fun _ => by dsimp only; rw [hst', hst2], fun hA' => by rw [hA] at hA'; cases hA'⟩
            · exact h4 j o' p' (by omega) ho' hp'
        · by_cases hA : isA o.op = true
          · simp only [hE, hA, if_true, Bool.false_eq_true, if_false] at h
            obtain ⟨vs1, ss1, xs1, h1, h2, h3, h4⟩ := ih ps (i + 1) st hs (xs ++ [none]) K (vs0 ++ [.sc undef]) hl' hps' (by simp [hv]) hlt (by rw [cnt_succ, hatE, hh]; simp [hE]) (by rw [cnt_succ, hatA, hA]; simp [hx]) (hg.snoc (by simp)) h
            rw [List.append_assoc xs] at h1 h2 h3
            refine ⟨[.sc undef] ++ vs1, ss1, [none] ++ xs1, h1, h2, ?_, fun j o' p' hj ho' hp' => ?_⟩
            · rw [← List.append_assoc]; exact h3
            · rw [← List.append_assoc, ← List.append_assoc]
              by_cases hji : j = i
              · subst hji
                rw [ho] at ho'; rw [hp] at hp'; cases ho'; cases hp'
                exact .inl ⟨by rw [hTi]; exact hw, hvi _ _, fun hE' => absurd hE' hE, fun _ => by rw [List.append_assoc, ← hx]; simp⟩
              · exact h4 j o' p' (by omega) ho' hp'
          · simp only [hE, hA, if_true, Bool.false_eq_true, if_false] at h
            obtain ⟨vs1, ss1, xs1, h1, h2, h3, h4⟩ := ih ps (i + 1) st hs xs K (vs0 ++ [.sc undef]) hl' hps' (by simp [hv]) hlt (by rw [cnt_succ, hatE, hh]; simp [hE]) (by rw [cnt_succ, hatA, hx]; simp [hA]) hg h
            refine ⟨[.sc undef] ++ vs1, ss1, xs1, h1, h2, ?_, fun j o' p' hj ho' hp' => ?_⟩
            · rw [← List.append_assoc]; exact h3
            · rw [← List.append_assoc]
              by_cases hji : j = i
              · subst hji
                rw [ho] at ho'; rw [hp] at hp'; cases ho'; cases hp'
                exact .inl ⟨by rw [hTi]; exact hw, hvi _ _, fun hE' => absurd hE' hE, fun hA' => absurd hA' hA⟩
              · exact h4 j o' p' (by omega) ho' hp'
      · exact h.elim
end
end Go.M
