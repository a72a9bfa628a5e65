/- Functions that range over maps, told as a whole: what they leave, with nobody's new memory forgotten. -/
import Derived.Test.YtgmccnnjpejigaaM21
set_option linter.unusedVariables false
set_option linter.unusedSimpArgs false
set_option linter.unusedSectionVars false
namespace Go.M
open Go Go.RowKit
section
variable {P : Program} {σ σ' σ0 σr : Sg} {w w' w0 w1 wr : World} {m : Nat}
theorem Bnd.size {I : Option It} (h : Bnd P σ0 w0 σ w I) : w0.heap.size ≤ w.heap.size := by
  cases I with
  | none => exact (show Stp P σ0 σ w0 w from h).size
  | some it =>
    obtain ⟨σr, wr, ens, clock, sb, h1, h2, h3, h4, _⟩ := h
    exact Nat.le_trans h2.size h4.size
theorem bcode_sound {C : CallK} (hC : CS P C) (hF : ∀ f args st K, f ≠ P.funcs.size → C f args st K → ∃ fn : Func, P.funcs[f]? = some fn ∧ fn.body.isNone = false ∧ (fn.name == "runtime.NumGoroutine") = false) (hm : P.follows .mixedOrders = true) (hCF : CF C) (pl : Nat → Option (List PI)) (m : Nat) :
    ∀ (c : Code) (t : List V) (a : Act) (σ : Sg) (w : World) (I : Option It) (K : BK) (Q : Exit → Act → World → Prop),
    codeOK pl false c = true → bcode P C m pl c K t σ.st I → Good P σ w → RT P w0.heap.size σ w t a → Bnd P σ0 w0 σ w I →
    (∀ e t' st' I' σ' w' a', K e t' st' I' → σ'.st = st' → Good P σ' w' → RT P w0.heap.size σ' w' t' a' → Bnd P σ0 w0 σ' w' I' → Q e a' w') → c.wpIn (Wr none) 0 P Q a w := by
  have fall : ∀ (c : Code) (t : List V) (a : Act) (σ : Sg) (w : World) (I : Option It) (K : BK) (Q : Exit → Act → World → Prop),
    codeOK pl false c = true → acode P C m pl c (fun e t st => K e t st I) t σ.st → Good P σ w → RT P w0.heap.size σ w t a → Bnd P σ0 w0 σ w I →
    (∀ e t' st' I' σ' w' a', K e t' st' I' → σ'.st = st' → Good P σ' w' → RT P w0.heap.size σ' w' t' a' → Bnd P σ0 w0 σ' w' I' → Q e a' w') → c.wpIn (Wr none) 0 P Q a w := fun c t a σ w I K Q hok h g hr hb hq =>
    acode_sound (ro := none) hC hF hm hCF pl m (rd := false) (.inl rfl) c t a σ w _ Q hok (fun l hl => by cases hl) hb.size h g hr fun e t' st' σ' w' a' k1 k2 k3 k4 k5 => hq e t' st' I σ' w' a' k1 k2 k3 k5 (hb.mono k4)
  intro c
  induction c with
  | region id ops draw =>
    intro t a σ w I K Q hok h g hr hb hq
    cases draw with
    | false =>
      simp only [bcode] at h
      exact wpIn_region_list (bops_sound hC hF ops.toList t a σ w I _ h g hr hb fun t' st' I' σ' w' a' k1 k2 k3 k4 k5 => hq _ _ _ _ _ _ _ k1 k2 k3 k4 k5)
    | true => exact fall _ t a σ w I K Q hok (by simpa only [bcode] using h) g hr hb hq
  | seq x y ihx ihy =>
    intro t a σ w I K Q hok h g hr hb hq
    simp only [bcode] at h
    simp only [codeOK, Bool.and_eq_true] at hok
    refine wpIn_seq (ihx t a σ w I _ _ hok.1 h g hr hb fun e t' st' I' σ' w' a' k1 k2 k3 k4 k5 => ?_)
    subst k2
    cases e with
    | normal => exact ihy t' a' σ' w' I' K Q hok.2 k1 k3 k4 k5 hq
    | _ => exact hq _ _ _ _ _ _ _ k1 rfl k3 k4 k5
  | cond c x y ihx ihy =>
    intro t a σ w I K Q hok h g hr hb hq
    simp only [bcode] at h
    split at h
    · rename_i b hc
      have he := hr.eval c
      rw [hc] at he
      simp only [RV] at he
      simp only [codeOK, Bool.and_eq_true] at hok
      refine wpIn_cond he ?_
      cases b with
      | true => exact ihx t a σ w I K Q hok.1 (by simpa using h) g hr hb hq
      | false => exact ihy t a σ w I K Q hok.2 (by simpa using h) g hr hb hq
    · exact h.elim
  | block id b ih =>
    intro t a σ w I K Q hok h g hr hb hq
    simp only [bcode] at h
    refine wpIn_block (ih t a σ w I _ _ (by simpa [codeOK] using hok) h g hr hb fun e t' st' I' σ' w' a' k1 k2 k3 k4 k5 => ?_)
    cases e with
    | exit j =>
      simp only [Exit.inBlock]
      simp only at k1
      split
      · rename_i hj
        rw [if_pos hj] at k1
        exact hq _ _ _ _ _ _ _ k1 k2 k3 k4 k5
      · rename_i hj
        rw [if_neg hj] at k1
        exact hq _ _ _ _ _ _ _ k1 k2 k3 k4 k5
    | _ => exact hq _ _ _ _ _ _ _ k1 k2 k3 k4 k5
  | loop b ih =>
    intro t a σ w I K Q hok h g hr hb hq
    simp only [bcode] at h
    refine wpIn_loop_rounds m ?_
    have key : ∀ (k : Nat) (t : List V) (a : Act) (σ : Sg) (w : World) (I : Option It) (K : BK), bloop (bcode P C m pl b) k K t σ.st I → Good P σ w → RT P w0.heap.size σ w t a → Bnd P σ0 w0 σ w I →
        (∀ e t' st' I' σ' w' a', K e t' st' I' → σ'.st = st' → Good P σ' w' → RT P w0.heap.size σ' w' t' a' → Bnd P σ0 w0 σ' w' I' → Q e a' w') → Code.roundsIn (Wr none) 0 P b Q k a w := by
      intro k
      induction k with
      | zero => intro t a σ w I K h g hr hb hq; exact h.elim
      | succ k ihk =>
        intro t a σ w I K h g hr hb hq
        simp only [bloop] at h
        rw [roundsIn_succ]
        refine ih t a σ w I _ _ (by simpa [codeOK] using hok) h g hr hb fun e t' st' I' σ' w' a' k1 k2 k3 k4 k5 => ?_
        subst k2
        cases e with
        | normal => exact ihk t' a' σ' w' I' K k1 k3 k4 k5 hq
        | _ => exact hq _ _ _ _ _ _ _ k1 rfl k3 k4 k5
    exact key m t a σ w I K h g hr hb hq
  | _ => exact fun t a σ w I K Q hok h g hr hb hq => fall _ t a σ w I K Q hok (by simpa only [bcode] using h) g hr hb hq
/-! ### Nobody's new memory, forgotten -/
def Sg.cut (σ σ' : Sg) : Sg := { st := σ.st, φ := σ'.φ, L := fun b => match σ'.L b with
  | .obj i => if i < σ.st.length then .obj i else .frn
  | x => x }
theorem cut_pers {b : Nat} (h : σ'.L b = .pers) : (σ.cut σ').L b = .pers := by simp only [Sg.cut, h]
theorem cut_obj {b i : Nat} (h : σ'.L b = .obj i) (hi : i < σ.st.length) : (σ.cut σ').L b = .obj i := by simp only [Sg.cut, h, hi, if_true]
theorem cut_frn {b : Nat} (h : σ'.L b = .frn) : (σ.cut σ').L b = .frn := by simp only [Sg.cut, h]
theorem Hold.cut (hg : Grw σ.st σ'.st) {id b k C : Nat} (hid : id < σ.st.length) (h : Hold P σ' w' id b k C) : Hold P (σ.cut σ') w' id b k C := by
  obtain ⟨e, xs, n, lo, fz, s, us, fr, h1, h2, h3, h4, h5, h5', h6, h7, h8, h9, h10⟩ := h
  have h0 : σ.st[id]? = some (.row e xs n lo fz) := by
    have := hg _ _ (List.getElem?_eq_getElem hid)
    rw [h1] at this
    rw [List.getElem?_eq_getElem hid, ← this]
  refine ⟨e, xs, n, lo, fz, s, us, fr, h0, h2, h3, h4, h5, h5', h6, ?_, RCl.mono (w := w') (fun b hb => ⟨cut_pers hb, rfl⟩) h8, h9, h10⟩
  rcases h7 with h7 | ⟨q, h7⟩
  · exact .inl (cut_obj h7 hid)
  · exact .inr ⟨q, cut_pers h7⟩
mutual
theorem RV.cut (hg : Grw σ.st σ'.st) : ∀ {x : V} {u0 u : Value}, RV P σ w x u0 → RV P σ' w' x u → RV P (σ.cut σ') w' x u
  | .sc _, _, _, _, h => by simpa [RV] using h
  | .tsl .., _, _, _, h => by simp only [RV] at h ⊢; exact RC.mono (w := w') (fun b hb => ⟨cut_pers hb, rfl⟩) h
  | .sl id off len full g, _, _, h0, h => by
    simp only [RV] at h0 h ⊢
    obtain ⟨e, xs, n, lo, fz, s, h1, h2, h3, hs, h4⟩ := h0
    obtain ⟨e', xs', n', lo', fz', s', k1, k2, k3, ks, k4⟩ := h
    have := hg _ _ h1
    rw [k1] at this
    cases this
    refine ⟨e, xs, n, lo, fz, s', h1, k2, k3, ks, fun hlo => ?_⟩
    obtain ⟨b, c, C, h5, h6, h7⟩ := k4 hlo
    exact ⟨b, c, C, h5, h6.cut hg (List.getElem?_eq_some_iff.1 h1).1, h7⟩
  | .ref id off, _, _, h0, h => by
    simp only [RV] at h0 h ⊢
    exact ⟨h.1, h0.2⟩
  | .rref id off e, _, _, h0, h => by
    simp only [RV] at h0 h ⊢
    obtain ⟨ty, xs, n, lo, fz, h1, h2, hs, h3⟩ := h0
    obtain ⟨ty', xs', n', lo', fz', k1, k2, ks, k3⟩ := h
    have := hg _ _ h1
    rw [k1] at this
    cases this
    refine ⟨ty, xs, n, lo, fz, h1, k2, ks, fun hlo => ?_⟩
    obtain ⟨b, C, s, h4, h5, h7⟩ := k3 hlo
    exact ⟨b, C, s, h4, h5, h7.cut hg (List.getElem?_eq_some_iff.1 h1).1⟩
  | .tref xs, _, _, _, h => by
    simp only [RV] at h ⊢
    obtain ⟨a, us, h1, h2, h3, h4⟩ := h
    exact ⟨a, us, h1, RCl.mono (w := w') (fun b hb => ⟨cut_pers hb, rfl⟩) h2, h3, fun hn => cut_pers (h4 hn)⟩
  | .agg xs, _, _, h0, h => by
    simp only [RV] at h0 h ⊢
    obtain ⟨us0, _, h2⟩ := h0
    obtain ⟨us, k1, k2⟩ := h
    exact ⟨us, k1, RVl.cut hg h2 k2⟩
  | .tup xs, _, _, h0, h => by
    simp only [RV] at h0 h ⊢
    obtain ⟨us0, _, h2⟩ := h0
    obtain ⟨us, k1, k2⟩ := h
    exact ⟨us, k1, RVl.cut hg h2 k2⟩
  | .map id, _, _, h0, h => by
    simp only [RV] at h0 h ⊢
    exact ⟨h.1, h0.2⟩
  | .fn f caps, _, _, h0, h => by
    simp only [RV] at h0 h ⊢
    obtain ⟨us0, _, h2⟩ := h0
    obtain ⟨us, k1, k2⟩ := h
    exact ⟨us, k1, RVl.cut hg h2 k2⟩
  | .yl id, _, _, h0, h => by
    simp only [RV] at h0 h ⊢
    exact ⟨h.1, h0.2⟩
  | .dead, _, _, _, _ => by simp only [RV]
theorem RVl.cut (hg : Grw σ.st σ'.st) : ∀ {xs : List V} {us0 us : List Value}, RVl P σ w xs us0 → RVl P σ' w' xs us → RVl P (σ.cut σ') w' xs us
  | [], _, _, _, h => by simpa [RVl] using h
  | x :: xs, _, _, h0, h => by
    simp only [RVl] at h0 h ⊢
    obtain ⟨u0, us0, _, h1, h2⟩ := h0
    obtain ⟨u, us, k1, k2, k3⟩ := h
    exact ⟨u, us, k1, RV.cut hg h1 k2, RVl.cut hg h2 k3⟩
end
theorem REs.cut (hg : Grw σ.st σ'.st) : ∀ {es : List (Value × V)} {ens0 ens : List MapEntry}, REs P σ w es ens0 → REs P σ' w' es ens → REs P (σ.cut σ') w' es ens
  | [], _, _, _, h => by simpa [REs] using h
  | (k, v) :: l, _, _, h0, h => by
    simp only [REs] at h0 h ⊢
    obtain ⟨e0, es0, _, _, h3, h4⟩ := h0
    obtain ⟨e, es', k1, k2, k3, k4⟩ := h
    exact ⟨e, es', k1, k2, RV.cut hg h3 k3, REs.cut hg h4 k4⟩
theorem RO.cut (hg : Grw σ.st σ'.st) {id : Nat} (hid : id < σ.st.length) : ∀ {o : Ob}, RO P σ w id o → RO P σ' w' id o → RO P (σ.cut σ') w' id o
  | .cells xs, h0, h => by
    simp only [RO] at h0 h ⊢
    obtain ⟨us0, e0, _, h2, _⟩ := h0
    obtain ⟨us, e, k1, k2, k3, k4⟩ := h
    exact ⟨us, e, k1, RVl.cut hg h2 k2, k3, cut_obj k4 hid⟩
  | .row e xs n lo fz, h0, h => by
    simp only [RO] at h ⊢
    obtain ⟨us, s, C, h1, h2, h3, h4, h5, h5', h6, h6', h7, h8, h9⟩ := h
    exact ⟨us, s, C, h1, h2, h3, h4, h5, h5', h6, h6', RCl.mono (w := w') (fun b hb => ⟨cut_pers hb, rfl⟩) h7, fun hf => cut_obj (h8 hf) hid, fun hf => cut_pers (h9 hf)⟩
  | .map es, h0, h => by
    simp only [RO] at h0 h ⊢
    obtain ⟨ens0, c0, _, h2, _⟩ := h0
    obtain ⟨ens, c, k1, k2, k3, k4⟩ := h
    exact ⟨ens, c, k1, REs.cut hg h2 k2, cut_obj k3 hid, k4⟩
  | .held es, h0, h => by
    simp only [RO] at h0 h ⊢
    obtain ⟨ens0, c0, _, h2, _⟩ := h0
    obtain ⟨ens, c, k1, k2, k3, k4⟩ := h
    exact ⟨ens, c, k1, REs.cut hg h2 k2, cut_frn k3, k4⟩
  | .loop s pend pl t ps a b, h0, h => by
    simp only [RO] at h0 h ⊢
    obtain ⟨r0, _, _, _, h4, _⟩ := h0
    obtain ⟨r, k1, k2, k3, k4, k5, k6, k7, k8, k9⟩ := h
    exact ⟨r, k1, k2, k3, RVl.cut hg h4 k4, k5, k6, k7, cut_obj k8 hid, k9⟩
  | .gone, _, _ => by simp [RO]
/-- What is new is forgotten. -/
theorem forget (g : Good P σ w) (g' : Good P σ' w') (p : Stp P σ σ' w w') (hg : Grw σ.st σ'.st) : Good P (σ.cut σ') w' ∧ Stp P σ (σ.cut σ') w w' := by
  refine ⟨⟨fun id o hi => ?_, fun b i hb => ?_, fun b hb => ?_⟩, ?_⟩
  · have hi : σ.st[id]? = some o := hi
    exact RO.cut hg (List.getElem?_eq_some_iff.1 hi).1 (g.1 _ _ hi) (g'.1 _ _ (hg _ _ hi))
  · simp only [Sg.cut] at hb
    split at hb
    · rename_i j hj
      split at hb
      · cases hb
        exact ⟨(g'.2.1 _ _ hj).1, by assumption⟩
      · cases hb
    · rename_i hne
      exact absurd hb (hne i)
  · exact cut_frn (g'.2.2 _ hb)
  · refine Stp.of p.os p.tape p.output p.size (fun b hb hf => ?_) (fun b hb => ?_) (fun i xs hi => ⟨(p.cells i xs hi).1, xs, hi⟩) (fun i hi => ⟨(p.map i hi).1, hi⟩) (fun i hi => ⟨(p.loop i hi).1, hi⟩) (fun i e xs n lo fz hi => ⟨xs, n, lo, fz, hi, Nat.le_refl _, Nat.le_refl _, fun b k C h1 h2 hh => ?_⟩) (fun i es hi => ⟨hi, ?_⟩)
    · obtain ⟨k1, k2⟩ := p.frn b hb hf
      exact ⟨cut_frn k1, k2⟩
    · obtain ⟨k1, k2⟩ := p.pers b hb
      exact ⟨cut_pers k1, k2⟩
    · obtain ⟨xs', n', lo', fz', k1, k2, k3, k4⟩ := p.row i e xs n lo fz hi
      have := hg _ _ hi
      rw [k1] at this
      cases this
      exact (k4 b k C h1 h2 hh).cut hg (List.getElem?_eq_some_iff.1 hi).1
    · exact (p.hld _ _ (hg _ _ hi)).2
/-- The state behind a function, where it may still have ranged. -/
def back (I : Option It) (st st2 : List Ob) : Prop := match I with
  | none => st2 = st
  | some it => st[it.a]? = some (.held it.es) ∧ st2 = st.set it.a (.map it.es)
theorem bnd_back {B0 : Nat} {I : Option It} {t : List V} {a : Act} {st2 : List Ob} (hb : Bnd P σ0 w0 σ w I) (g : Good P σ w) (hr : RT P B0 σ w t a) (h : back I σ.st st2) : ∃ σu, σu.st = st2 ∧ Good P σu w ∧ Stp P σ0 σu w0 w ∧ RT P B0 σu w t a := by
  cases I with
  | none => exact ⟨σ, h.symm, g, hb, hr⟩
  | some it =>
    obtain ⟨hh, rfl⟩ := h
    obtain ⟨σr, wr, ens, clock, sb, h1, h2, h3, h4, h5, h6, h7, h8, h9, h10, h11, h12, h13, h14, h15, h16⟩ := hb
    obtain ⟨gu, pu⟩ := unh_ok g hh h1 h3 h4
    refine ⟨σ.unh it.a it.es, rfl, gu, h2.trans pu, RT.stq hr (unh_stq g hh) fun D hD hD2 => ⟨?_, rfl⟩⟩
    simp only [Sg.unh]
    rw [if_neg (fun he => by rw [he, h9, h7] at hD2; cases hD2)]
    exact hD
/-- A row that is to stay. -/
def Sg.adopt (σ : Sg) (e : TypeId) (xs : List V) (n B : Nat) : Sg := { st := σ.st ++ [.row e xs n 0 false], φ := fun i => if i = σ.st.length then B else σ.φ i, L := fun b => if b = B then .obj σ.st.length else σ.L b }
theorem adopt_ok {σc : Sg} {e : TypeId} {xs : List V} {us : Array Value} {n s C B : Nat} (g0 : Good P σ w) (g : Good P σc w') (p : Stp P σ σc w w') (hst : σc.st = σ.st) (hB : σc.L B = .frn) (hB0 : B < w.heap.size → σ.L B ≠ .frn) (hh : w'.heap[B]? = some (.cells us e (0, 0))) (hs : szOf P e = some s) (h0 : 0 < s)
    (hr : RCl σc.L w' xs (us.toList.take (n * s))) (hl : xs.length = n * s) (hC : us.size = C * s) (hn : n ≤ C) (hm : C ≤ maxLen) :
    Good P (σc.adopt e xs n B) w' ∧ Stp P σ (σc.adopt e xs n B) w w' ∧ RV P (σc.adopt e xs n B) w' (.sl σ.st.length 0 n false n) (.slice (some ⟨B, 0, none⟩) n C) := by
  have hBl := (Array.getElem?_eq_some_iff.1 hh).1
  have old : ∀ {i : Nat}, i < σc.st.length → (σc.adopt e xs n B).st[i]? = σc.st[i]? := fun hi => by simp only [Sg.adopt]; rw [List.getElem?_append_left hi]
  have new : (σc.adopt e xs n B).st[σc.st.length]? = some (.row e xs n 0 false) := by simp [Sg.adopt]
  have oφ : ∀ {i : Nat}, i < σc.st.length → (σc.adopt e xs n B).φ i = σc.φ i := fun hi => by simp only [Sg.adopt]; rw [if_neg (by omega)]
  have oL : ∀ {b : Nat}, σc.L b ≠ .frn → (σc.adopt e xs n B).L b = σc.L b := fun hb => by simp only [Sg.adopt]; rw [if_neg (fun he => hb (by rw [he]; exact hB))]
  have hp : ∀ b, σc.L b = .pers → (σc.adopt e xs n B).L b = .pers ∧ w'.heap[b]? = w'.heap[b]? := fun b hb => ⟨by rw [oL (by rw [hb]; simp)]; exact hb, rfl⟩
  have lt : ∀ {i : Nat} {o : Ob}, σc.st[i]? = some o → i < σc.st.length := fun hi => (List.getElem?_eq_some_iff.1 hi).1
  have hst2 : Stq P σc (σc.adopt e xs n B) w' w' := by
    refine ⟨rfl, rfl, rfl, Nat.le_refl _, hp, fun i ys hi => ⟨oφ (lt hi), ys, by rw [old (lt hi)]; exact hi⟩, fun i hi => ⟨oφ hi.lt, hi.keep (old hi.lt)⟩, fun i hi => ?_, fun i e' ys n' lo fz hi => ⟨ys, n', lo, fz, by rw [old (lt hi)]; exact hi, Nat.le_refl _, Nat.le_refl _, fun b k C' _ _ hh' => ?_⟩⟩
    · obtain ⟨s', p', pl', t', ps', a', b', hi⟩ := hi
      exact ⟨oφ (lt hi), s', p', pl', t', ps', a', b', by rw [old (lt hi)]; exact hi⟩
    · obtain ⟨e2, xs2, n2, lo2, fz2, s2, us2, fr, h1, h2, h3, h4, h5, h5', h6, h7, h8, h9, h10⟩ := hh'
      refine ⟨e2, xs2, n2, lo2, fz2, s2, us2, fr, by rw [old (lt hi)]; exact h1, h2, h3, h4, h5, h5', h6, ?_, RCl.mono hp h8, h9, fun hk => by rw [oφ (lt hi)]; exact h10 hk⟩
      rw [oL (by rcases h7 with h7 | ⟨_, h7⟩ <;> rw [h7] <;> simp)]
      exact h7
  refine ⟨⟨fun i o hi => ?_, fun b i hb => ?_, fun b hb => ?_⟩, ?_, ?_⟩
  · by_cases hil : i < σc.st.length
    · rw [old hil] at hi
      have hro := g.1 _ _ hi
      by_cases hne : o = .gone
      · subst hne; simp [RO]
      · refine RO.mono hst2 (oφ hil) ?_ rfl hro
        by_cases hhe : ∃ es, o = .held es
        · obtain ⟨es, rfl⟩ := hhe
          simp only [RO] at hro
          obtain ⟨ens, c, k1, _, k3, _⟩ := hro
          simp only [Sg.adopt]
          rw [if_neg (fun he => by rw [he, hh] at k1; cases k1)]
        · refine oL ?_
          cases o with
          | held es => exact absurd ⟨es, rfl⟩ hhe
          | gone => exact absurd rfl hne
          | cells ys => simp only [RO] at hro; obtain ⟨_, _, _, _, _, h4⟩ := hro; rw [h4]; simp
          | row e' ys n' lo fz =>
            simp only [RO] at hro
            obtain ⟨_, _, _, _, _, _, _, _, _, _, _, _, h8, h9⟩ := hro
            cases fz with
            | false => rw [h8 rfl]; simp
            | true => rw [h9 rfl]; simp
          | map es => simp only [RO] at hro; obtain ⟨_, _, _, _, h4, _⟩ := hro; rw [h4]; simp
          | loop s p pl t ps a b => simp only [RO] at hro; obtain ⟨_, _, _, _, _, _, _, _, h4, _⟩ := hro; rw [h4]; simp
    · have hie : i = σc.st.length := by
        have := (List.getElem?_eq_some_iff.1 hi).1
        simp only [Sg.adopt, List.length_append, List.length_cons, List.length_nil] at this
        omega
      subst hie
      rw [new] at hi
      cases hi
      simp only [RO]
      exact ⟨us, s, C, hs, h0, by simp only [Sg.adopt, if_true]; exact hh, hC, hn, hm, hl, Nat.zero_le _, RCl.mono hp hr, fun _ => by simp [Sg.adopt], fun h => by cases h⟩
  · simp only [Sg.adopt] at hb ⊢
    split at hb
    · rename_i hbB
      cases hb
      exact ⟨by rw [hbB]; exact hBl, by simp⟩
    · have := g.2.1 b i hb
      exact ⟨this.1, by simp only [List.length_append]; omega⟩
  · simp only [Sg.adopt]
    rw [if_neg (by omega)]
    exact g.2.2 b hb
  · refine Stp.of p.os p.tape p.output p.size (fun b hb hf => ?_) (fun b hb => ?_) (fun i xs' hi => ?_) (fun i hi => ?_) (fun i hi => ?_) (fun i e' ys n' lo fz hi => ?_) (fun i es hi => ?_)
    · obtain ⟨k1, k2⟩ := p.frn b hb hf
      refine ⟨?_, k2⟩
      simp only [Sg.adopt]
      rw [if_neg (fun he => by subst he; exact hB0 hb hf)]
      exact k1
    · obtain ⟨k1, k2⟩ := p.pers b hb
      exact ⟨(hp b k1).1, k2⟩
    · obtain ⟨k1, xs2, k2⟩ := p.cells i xs' hi
      exact ⟨(oφ (lt k2)).trans k1, xs2, by rw [old (lt k2)]; exact k2⟩
    · obtain ⟨k1, k2⟩ := p.map i hi
      exact ⟨(oφ k2.lt).trans k1, k2.keep (old k2.lt)⟩
    · obtain ⟨k1, k2⟩ := p.loop i hi
      obtain ⟨s', p', pl', t', ps', a', b', k2⟩ := k2
      exact ⟨(oφ (lt k2)).trans k1, s', p', pl', t', ps', a', b', by rw [old (lt k2)]; exact k2⟩
    · obtain ⟨xs2, n2, lo2, fz2, k1, k2, k3, k4⟩ := p.row i e' ys n' lo fz hi
      obtain ⟨xs3, n3, lo3, fz3, j1, j2, j3, j4⟩ := hst2.row i e' xs2 n2 lo2 fz2 k1
      have : lo3 = lo2 := by rw [old (lt k1), k1] at j1; cases j1; rfl
      exact ⟨xs3, n3, lo3, fz3, j1, by omega, by omega, fun b k C' h1 h2 hh' => j4 b k C' h1 (by omega) (k4 b k C' (by omega) h2 hh')⟩
    · by_cases hil : i < σc.st.length
      · rw [old hil] at hi
        obtain ⟨k1, k2⟩ := p.hld _ _ hi
        exact ⟨k1, (oφ hil).trans k2⟩
      · have hie : i = σc.st.length := by
          have := (List.getElem?_eq_some_iff.1 hi).1
          simp only [Sg.adopt, List.length_append, List.length_cons, List.length_nil] at this
          omega
        subst hie
        rw [new] at hi
        cases hi
  · simp only [RV]
    rw [← hst]
    refine ⟨e, xs, n, 0, false, s, new, hs, by omega, ⟨_, _, rfl, hn, hm, fun h => by cases h⟩, fun _ => ⟨B, C, C, by simp, ?_, by omega, fun _ => by omega⟩⟩
    refine ⟨e, xs, n, 0, false, s, us, _, new, hs, h0, by omega, by omega, by omega, hh, .inl (by simp [Sg.adopt]), ?_, ?_, fun _ => ⟨by simp [Sg.adopt], hC⟩⟩
    · rw [List.take_of_length_le (by rw [hl]; exact Nat.le_refl _)]
      exact RCl.mono hp hr
    · rw [hC]; exact Nat.mul_le_mul_right _ hn
/-- It is told the same in any memory. -/
def flat (v : V) : Prop := ∀ (P : Program) (σ1 σ2 : Sg) (w1 w2 : World) (u : Value), RV P σ1 w1 v u → RV P σ2 w2 v u
theorem flat_sc (x : Value) : flat (.sc x) := fun P σ1 σ2 w1 w2 u h => by simpa only [RV] using h
theorem flat_nil : flat (.tsl [] 0 true true) := fun P σ1 σ2 w1 w2 u h => by
  simp only [RV, RC, RCl] at h ⊢
  obtain ⟨A, c, us, h1, h2, h3, h4, h5, h6, rfl, h8⟩ := h
  exact ⟨A, c, [], h1, h2, h3, h4, h5, h6, rfl, fun a ha => ⟨fun j u hj => by simp at hj, fun hn => absurd rfl hn⟩⟩
/-- What such a function may leave: nothing, or one row. -/
def fin (st : List Ob) (v : V) (stF : List Ob) (v2 : V) (st2 : List Ob) : Prop := (v2 = v ∧ flat v ∧ stF = st) ∨
  ∃ e xs n lo id, v2 = .sl id 0 n false n ∧ st2[id]? = some (.row e xs n lo false) ∧ lo ≤ n ∧ st.length ≤ id ∧ v = .sl st.length 0 n false n ∧ stF = st ++ [.row e xs n 0 false]
/-- A FUNCTION THAT IS TOLD BY THE MACHINE THAT RANGES OVER MAPS. -/
theorem told_code {C : CallK} (hC : CS P C) (hF : ∀ f args st K, f ≠ P.funcs.size → C f args st K → ∃ fn : Func, P.funcs[f]? = some fn ∧ fn.body.isNone = false ∧ (fn.name == "runtime.NumGoroutine") = false) (hm : P.follows .mixedOrders = true) (hCF : CF C) {plf : Nat → Option (List PI)} {m : Nat} {f : FuncId} {fn : Func} {c : Code} (hfn : P.funcs[f]? = some fn) (hbody : fn.body = some c) (hok : codeOK plf false c = true)
    {args : List V} {st stF : List Ob} {v : V} (hf : stF = st ∨ ∃ e xs n, stF = st ++ [.row e xs n 0 false])
    (h : ∀ ov, Fine ov st.length → bcode P C m plf c (fun e t st' I => (e = .normal ∨ e = .ret) ∧ ∃ st2 v2, back I st' st2 ∧ ares P fn t st2 = some v2 ∧ Grw (over ov st) st2 ∧ fin st v stF v2 st2) (args ++ List.replicate (fn.ntmps - args.length) (.sc undef)) (over ov st) none) : Told P f args st v stF := by
  refine ⟨⟨fn, hfn, by rw [hbody]; rfl⟩, fun i hi => ?_, ?_, fun ov hov σ w us hst g hr => ?_⟩
  · rcases hf with rfl | ⟨e, xs, n, rfl⟩
    · exact hi
    · rw [List.getElem?_append_left (List.getElem?_eq_some_iff.1 hi).1]; exact hi
  · rcases hf with rfl | ⟨e, xs, n, rfl⟩ <;> simp
  refine callsIn_of_wp_marks hfn hbody trivial ?_
  have h := h ov hov
  rw [← hst] at h
  refine bcode_sound (σ0 := σ) (w0 := w) hC hF hm hCF plf m c _ _ σ w none _ _ hok h g ?_ (show Stp P σ σ w w from .refl) ?_
  · refine ⟨?_, MK.nil _ _ _⟩
    have hl := RVl.length hr
    simp only [Array.toList_append, Array.toList_replicate, List.size_toArray, hl]
    refine RVl.app hr ?_
    generalize fn.ntmps - args.length = k
    induction k with
    | zero => simp [RVl]
    | succ k ih => simp only [List.replicate_succ, RVl]; exact ⟨_, _, rfl, by simp only [RV], ih⟩
  intro e t' st' I' σ' w' a' hk hst' g' hr' hb'
  subst hst'
  obtain ⟨he, st2, v2, hbk, hv, hg, hfin⟩ := hk
  obtain ⟨σu, rfl, gu, pu, hru⟩ := bnd_back hb' g' hr' hbk
  obtain ⟨hrt, Ds, hds, hnd, hmk⟩ := hru
  have key : LeavesInM Fence.wide 0 P fn a'.tmps (RK P (fun v' s' => v' = v ∧ s' = over ov stF) σ w) a'.defers .returning w' := by
    rw [hds]
    refine leaves_marks (t := t') (σ0 := σ) (w0 := w) (fun w2 g2 p2 hr2 => ?_) Ds w' hnd hmk gu pu hrt
    obtain ⟨u, h1, h2⟩ := res_sound (B := 0) g2 (t := t') (a := { tmps := a'.tmps, defers := [] }) ⟨hr2, MK.nil _ _ _⟩ hv
    obtain ⟨gc, pc⟩ := forget g g2 p2 (hg)
    rcases hfin with ⟨rfl, hfl, rfl⟩ | ⟨e, xs, n, lo, id, rfl, hid, hlo, hlen, rfl, rfl⟩
    · exact ⟨u, h1, _, u, _, σ.cut σu, rfl, ⟨rfl, rfl⟩, hst, gc, pc, hfl _ _ _ _ _ _ h2⟩
    · have hro := g2.1 _ _ hid
      simp only [RO] at hro
      obtain ⟨us2, s, C2, r1, r2, r3, r4, r5, r6, r7, r8, r9, r10, r11⟩ := hro
      have hL := r10 trivial
      have hlst : σ.st.length = st.length := by rw [hst, over_len]
      have hBf : (σ.cut σu).L (σu.φ id) = .frn := by simp only [Sg.cut, hL]; rw [if_neg (by omega)]
      obtain ⟨ga, pa, ra⟩ := adopt_ok (e := e) (xs := xs) (us := us2) (n := n) (s := s) (C := C2) g gc pc rfl hBf (fun hb hf => by have := (p2.frn _ hb hf).1; rw [hL] at this; cases this) r3 r1 r2 (RCl.mono (w := w2) (fun b hb => ⟨cut_pers hb, rfl⟩) r9) r7 r4 r5 r6
      simp only [RV] at h2
      obtain ⟨e3, xs3, n3, lo3, fz3, s3, z1, z2, z3, _, z5⟩ := h2
      rw [hid] at z1
      cases z1
      obtain ⟨b, c3, C3, q1, q2, q3, q4⟩ := z5 hlo
      obtain ⟨e4, xs4, n4, lo4, fz4, s4, us4, fr4, y1, y2, y3, y4, y5, y6, y7, y8, y9, y10, y11⟩ := q2
      rw [hid] at y1
      cases y1
      obtain ⟨rfl, y12⟩ := y11 rfl
      rw [r3] at y7
      cases y7
      rw [r1] at y2
      cases y2
      have hC : C3 = C2 := Nat.eq_of_mul_eq_mul_right r2 (by rw [← y12, ← r4])
      subst hC
      have hc3 : c3 = C3 := by have := q4 rfl; omega
      subst hc3
      rw [Nat.zero_mul] at q1
      rw [hlst] at ra
      refine ⟨u, h1, _, u, _, (σ.cut σu).adopt e xs n (σu.φ id), rfl, ⟨rfl, rfl⟩, ?_, ga, pa, by rw [q1]; exact ra⟩
      show σ.st ++ [_] = _
      rw [hst]
      exact fill_push _ (by simp)
  rcases he with rfl | rfl
  · exact key
  · exact key
end
end Go.M
