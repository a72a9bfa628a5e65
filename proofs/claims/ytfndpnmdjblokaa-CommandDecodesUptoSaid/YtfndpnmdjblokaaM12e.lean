/- A region that draws its order, in the run. -/
import Derived.Test.YtfndpnmdjblokaaM12d
set_option linter.unusedVariables false
set_option linter.unusedSimpArgs false
set_option linter.unusedSectionVars false
namespace Go.M
open Go Go.RowKit
section
variable {P : Program} {C : CallK} {ops : Array Oper} {plan : List PI} {R : List (List Nat)} {base : Nat} {t0 : List V} {vs : Nat → V} {ss : Nat → List Ob} {xs : List (Option Ob)}

/-- Which new objects are there. -/
def ordL (ops : Array Oper) (n : Nat) (listed : Array Bool) : List Nat := (List.range n).filter fun a => match (idxs isA ops)[a]? with
  | some j => listed.getD j false
  | none => false

theorem ordL_mem {n : Nat} {listed : Array Bool} {a : Nat} : a ∈ ordL ops n listed ↔ a < n ∧ ∃ j, (idxs isA ops)[a]? = some j ∧ listed.getD j false = true := by
  unfold ordL
  rw [List.mem_filter, List.mem_range]
  constructor
  · rintro ⟨h1, h2⟩
    refine ⟨h1, ?_⟩
    split at h2
    · rename_i j hj; exact ⟨j, hj, h2⟩
    · cases h2
  · rintro ⟨h1, j, hj, h2⟩
    exact ⟨h1, by rw [hj]; exact h2⟩

theorem ovOf_congr {needs needs' : List Nat} (h : ∀ a, (xs[a]?).getD none ≠ none → (a ∈ needs ↔ a ∈ needs')) : ovOf base xs needs = ovOf base xs needs' := by
  funext i
  unfold ovOf
  by_cases hb : base ≤ i
  · by_cases hn : (xs[i - base]?).getD none = none
    · rw [hn]; simp
    · have := h _ hn
      by_cases hm : i - base ∈ needs
      · rw [if_pos ⟨hb, hm⟩, if_pos ⟨hb, this.1 hm⟩]
      · rw [if_neg (fun h => hm h.2), if_neg (fun h => hm (this.2 h.2))]
  · rw [if_neg (fun h => hb h.1), if_neg (fun h => hb h.1)]

theorem ovOf_fine (ng : NoGone xs) {needs : List Nat} {n : Nat} (h : base + xs.length ≤ n) : Fine (ovOf base xs needs) n := by
  refine ⟨fun i hi => ?_, ovOf_ng ng needs⟩
  unfold ovOf
  split
  · rw [List.getElem?_eq_none (by omega)]; rfl
  · rfl

/-- The state of a run in whatever order: what is listed has come, k of those that turn memory have. -/
structure Inv (P : Program) (ops : Array Oper) (base : Nat) (t0 : List V) (vs : Nat → V) (ss : Nat → List Ob) (xs : List (Option Ob)) (σ0 : Sg) (w0 : World) (listed : Array Bool) (k : Nat) (a : Act) (w : World) (σ : Sg) : Prop where
  size : listed.size = ops.size
  closed : Closed ops listed
  pre : ∀ i, isAt isE ops i = true → (listed.getD i false = true ↔ cnt isE ops i < k)
  le : k ≤ cnt isE ops ops.size
  st : σ.st = over (ovOf base xs (ordL ops xs.length listed)) (ss k)
  good : Good P σ w
  stp : Stp P σ0 σ w0 w
  rt : RT P σ w (TL ops vs (fun i => listed.getD i false) t0 ops.size) a

theorem getD_set {listed : Array Bool} {i j : Nat} (hi : i < listed.size) : (listed.setIfInBounds i true).getD j false = if j = i then true else listed.getD j false := by
  simp only [Array.getD_eq_getD_getElem?, Array.getElem?_setIfInBounds]
  by_cases h : j = i
  · subst h; simp [hi]
  · simp [h, Ne.symm h]

variable (hp : PlanP ops plan R) (hr : Run P C ops plan base t0 vs ss xs)
include hp hr

theorem Inv.agree {σ0 σ : Sg} {w0 w : World} {listed : Array Bool} {k : Nat} {a : Act} (v : Inv P ops base t0 vs ss xs σ0 w0 listed k a w σ) {i : Nat} {o : Oper} (ho : ops[i]? = some o) (hun : listed.getD i false = false) (hd : ∀ e ∈ directs ops i, listed.getD e false = true) :
    Agree ops o (TL ops vs (fun i => listed.getD i false) t0 ops.size) (TL ops vs (fun _ => true) t0 i) := fun d hdl => by
  have hi := (Array.getElem?_eq_some_iff.1 ho).1
  have e1 : TL ops vs (fun _ => true) t0 i = TL ops vs (fun m => decide (m < i)) t0 ops.size := by
    rw [TL_stop (m := i) ops.size (by omega) fun m h1 _ => by simp; omega]
    exact TL_congr i fun m hm => by simp [hm]
  rw [e1]
  refine TL_agree ops.size fun m hm hdm => ?_
  obtain ⟨om, hom⟩ : ∃ om, ops[m]? = some om := ⟨_, Array.getElem?_eq_getElem hm⟩
  have hdm' : om.dst = some d := by simpa [dstOf, hom] using hdm
  rcases Nat.lt_trichotomy m i with h | h | h
  · simp only [h, decide_true]
    cases hl : listed.getD m false with
    | true => rfl
    | false =>
      rcases hp.pair m i om o h hom ho with hw | hw
      · have := hd m hw; rw [hl] at this; cases this
      · exact absurd hdl ((Oper.apart_spec hw).1 d hdm')
  · subst h; simp [hun]
  · have h' : ¬ m < i := by omega
    simp only [h', decide_false]
    cases hl : listed.getD m false with
    | false => rfl
    | true =>
      rcases hp.pair i m o om h ho hom with hw | hw
      · have := v.closed m hl i hw; rw [hun] at this; cases this
      · exact absurd hdl ((Oper.apart_spec hw).2.2 d hdm')

theorem Inv.tl {σ0 σ : Sg} {w0 w : World} {listed : Array Bool} {k : Nat} {a : Act} (v : Inv P ops base t0 vs ss xs σ0 w0 listed k a w σ) {i : Nat} {o : Oper} (ho : ops[i]? = some o) (hun : listed.getD i false = false) :
    TL ops vs (fun j => (listed.setIfInBounds i true).getD j false) t0 ops.size = aput (TL ops vs (fun i => listed.getD i false) t0 ops.size) o.dst (vs i) := by
  have hi := (Array.getElem?_eq_some_iff.1 ho).1
  have hd : dstOf ops i = o.dst := by simp [dstOf, ho]
  rw [← hd]
  refine TL_set (S := fun i => listed.getD i false) hun (fun j hj => ?_) ?_ ops.size hi fun j h1 h2 hl x hx => ?_
  · try simp only
    rw [getD_set (by rw [v.size]; exact hi), if_neg hj]
  · try simp only
    rw [getD_set (by rw [v.size]; exact hi), if_pos rfl]
  · obtain ⟨oj, hoj⟩ : ∃ oj, ops[j]? = some oj := ⟨_, Array.getElem?_eq_getElem h2⟩
    rw [hd] at hx
    rcases hp.pair i j o oj h1 ho hoj with hw | hw
    · have := v.closed j hl i hw; rw [hun] at this; cases this
    · have := (Oper.apart_spec hw).2.1 x hx
      simpa [dstOf, hoj] using this

/-- One more has come. -/
theorem Inv.next {σ0 σ σ' : Sg} {w0 w w' : World} {listed : Array Bool} {k k' : Nat} {a : Act} {u : Value} (v : Inv P ops base t0 vs ss xs σ0 w0 listed k a w σ) {i : Nat} {o : Oper} (ho : ops[i]? = some o) (hun : listed.getD i false = false) (hd : ∀ e ∈ directs ops i, listed.getD e false = true)
    (hk : k' = k + if isE o.op = true then 1 else 0) (hck : isE o.op = true → cnt isE ops i = k)
    (hst : σ'.st = over (ovOf base xs (ordL ops xs.length (listed.setIfInBounds i true))) (ss k')) (hg : Good P σ' w') (hs : Stp P σ σ' w w') (hv : RV P σ' w' (vs i) u) :
    Inv P ops base t0 vs ss xs σ0 w0 (listed.setIfInBounds i true) k' (a.put o.dst u) w' σ' := by
  have hi := (Array.getElem?_eq_some_iff.1 ho).1
  have his : i < listed.size := by rw [v.size]; exact hi
  have hatE : isAt isE ops i = isE o.op := by simp [isAt, ho]
  refine ⟨by simp [v.size], fun j hj e he => ?_, fun j hj => ?_, ?_, hst, hg, v.stp.trans hs, ?_⟩
  · rw [getD_set his] at hj ⊢
    by_cases hji : j = i
    · subst hji
      split
      · rfl
      · exact hd e he
    · rw [if_neg hji] at hj
      split
      · rfl
      · exact v.closed j hj e he
  · rw [getD_set his]
    by_cases hji : j = i
    · subst hji
      rw [hatE] at hj
      simp only [if_true, true_iff]
      rw [hk, if_pos hj, hck hj]
      omega
    · rw [if_neg hji, v.pre j hj, hk]
      by_cases hE : isE o.op = true
      · rw [if_pos hE]
        have hne : cnt isE ops j ≠ k := fun h => hji (cnt_inj hj (by rw [hatE]; exact hE) (by rw [h, hck hE]))
        omega
      · rw [if_neg hE]; simp
  · rw [hk]
    split
    · rename_i hE
      have h1 := cnt_lt (f := isE) (by rw [hatE]; exact hE) (show i < ops.size from hi)
      rw [hck hE] at h1
      omega
    · have := v.le; omega
  · rw [Inv.tl hp hr v ho hun]
    exact (v.rt.mono hs).put o.dst hv

theorem ordL_next {listed : Array Bool} {i : Nat} {o : Oper} (hsz : listed.size = ops.size) (ho : ops[i]? = some o) (hA : isA o.op = false ∨ xs[cnt isA ops i]? = some none) :
    ovOf base xs (ordL ops xs.length (listed.setIfInBounds i true)) = ovOf base xs (ordL ops xs.length listed) := by
  have hi := (Array.getElem?_eq_some_iff.1 ho).1
  refine ovOf_congr fun a hn => ?_
  rw [ordL_mem, ordL_mem]
  refine and_congr_right fun hal => exists_congr fun j => and_congr_right fun hj => ?_
  rw [getD_set (by rw [hsz]; exact hi)]
  obtain ⟨h1, h2⟩ := idxs_spec hj
  by_cases hji : j = i
  · subst hji
    rcases hA with hA | hA
    · simp [isAt, ho, hA] at h1
    · rw [h2] at hA; rw [hA] at hn; simp at hn
  · rw [if_neg hji]

theorem draw_any {σ0 : Sg} {w0 : World} {Q : Exit → Act → World → Prop} (hC : CS P C) (hF : ∀ f args st K, C f args st K → ∃ fn : Func, P.funcs[f]? = some fn ∧ fn.body.isNone = false ∧ (fn.name == "runtime.NumGoroutine") = false)
    (hlb : base + xs.length ≤ (ss 0).length)
    (hQ : ∀ a w σ, σ.st = over (ovOf base xs (List.range xs.length)) (ss (cnt isE ops ops.size)) → Good P σ w → Stp P σ0 σ w0 w → RT P σ w (TL ops vs (fun _ => true) t0 ops.size) a → Q .normal a w) :
    ∀ (fuel : Nat) (listed : Array Bool) (k : Nat) (a : Act) (w : World) (σ : Sg), Inv P ops base t0 vs ss xs σ0 w0 listed k a w σ → ((List.range ops.size).filter fun i => !listed.getD i false).length ≤ fuel → wpAny P .any ops Q fuel listed a w := by
  have fin : ∀ (listed : Array Bool) (k : Nat) (a : Act) (w : World) (σ : Sg), Inv P ops base t0 vs ss xs σ0 w0 listed k a w σ → (∀ i, i < ops.size → listed.getD i false = true) → Q .normal a w := by
    intro listed k a w σ v hall
    have hk : k = cnt isE ops ops.size := by
      rcases Nat.lt_or_ge k (cnt isE ops ops.size) with h | h
      · obtain ⟨j, hj, hjk⟩ := cnt_at h
        have := (v.pre j hj).1 (hall j (isAt_lt hj))
        omega
      · have := v.le; omega
    subst hk
    refine hQ a w σ ?_ v.good v.stp ?_
    · rw [v.st]
      congr 1
      refine ovOf_congr fun a hn => ?_
      rw [ordL_mem, List.mem_range]
      refine ⟨fun h => h.1, fun h => ⟨h, ?_⟩⟩
      have hl : a < (idxs isA ops).length := by rw [← cnt_all, ← hr.lenx]; exact h
      exact ⟨_, List.getElem?_eq_getElem hl, hall _ (isAt_lt (idxs_spec (List.getElem?_eq_getElem hl)).1)⟩
    · have e := TL_congr (ops := ops) (vs := vs) (t0 := t0) (S := fun i => listed.getD i false) (S' := fun _ => true) ops.size fun i hi => hall i hi
      rw [← e]
      exact v.rt
  have nored : ∀ (listed : Array Bool), listed.size = ops.size → Region.ready .any ops listed = [] → ∀ i, i < ops.size → listed.getD i false = true := by
    intro listed hsz hready i
    induction i using Nat.strongRecOn with
    | _ i ih =>
      intro hi
      cases hl : listed.getD i false with
      | true => rfl
      | false =>
        have : i ∈ Region.ready .any ops listed := by
          rw [mem_ready]
          refine ⟨?_, ops[i], Array.getElem?_eq_getElem hi, fun e he hb => ?_⟩
          · have his : i < listed.size := by omega
            simp [his] at hl ⊢
            exact hl
          · have hmem : e.on ∈ directs ops i := by
              simp only [directs, Array.getElem?_eq_getElem hi]
              exact List.mem_map.2 ⟨e, List.mem_filter.2 ⟨by simpa using he, hb⟩, rfl⟩
            have := hp.back i hi _ hmem
            exact ih _ this (by omega)
        rw [hready] at this
        cases this
  intro fuel
  induction fuel with
  | zero =>
    intro listed k a w σ v hcount
    have hall : ∀ i, i < ops.size → listed.getD i false = true := fun i hi => by
      cases hl : listed.getD i false with
      | true => rfl
      | false =>
        have : i ∈ (List.range ops.size).filter fun i => !listed.getD i false := List.mem_filter.2 ⟨List.mem_range.2 hi, by simp [hl]⟩
        have := List.length_pos_of_mem this
        omega
    refine ⟨?_, fin listed k a w σ v hall⟩
    apply List.eq_nil_iff_forall_not_mem.2
    intro j hj
    obtain ⟨h1, o, ho, _⟩ := mem_ready.1 hj
    have hjl := (Array.getElem?_eq_some_iff.1 ho).1
    have := hall j hjl
    have hjs : j < listed.size := by rw [v.size]; exact hjl
    simp [hjs] at h1 this
    rw [h1] at this
    cases this
  | succ fuel ih =>
    intro listed k a w σ v hcount
    refine ⟨fun hready => fin listed k a w σ v (nored listed v.size hready), fun i hi => ?_⟩
    obtain ⟨hun1, o, ho, hdep⟩ := mem_ready.1 hi
    have hil := (Array.getElem?_eq_some_iff.1 ho).1
    have his : i < listed.size := by rw [v.size]; exact hil
    have hun : listed.getD i false = false := by simp [his] at hun1 ⊢; exact hun1
    have hd : ∀ e ∈ directs ops i, listed.getD e false = true := fun e he => by
      simp only [directs, ho] at he
      obtain ⟨x, hx, rfl⟩ := List.mem_map.1 he
      obtain ⟨hx1, hx2⟩ := List.mem_filter.1 hx
      exact hdep x (by simpa using hx1) hx2
    have hcount' : ((List.range ops.size).filter fun j => !(listed.setIfInBounds i true).getD j false).length ≤ fuel := by
      have := filter_less (p := fun j => !listed.getD j false) (p' := fun j => !(listed.setIfInBounds i true).getD j false) (i := i) (by simp [hun]) (by rw [getD_set his]; simp) (fun j hj => by rw [getD_set his, if_neg hj]) List.nodup_range (List.mem_range.2 hil)
      omega
    have hatE : isAt isE ops i = isE o.op := by simp [isAt, ho]
    have hatA : isAt isA ops i = isA o.op := by simp [isAt, ho]
    have hag := Inv.agree hp hr v ho hun hd
    have hreach := hp.reach v.closed i hil hd
    have hck : isE o.op = true → cnt isE ops i = k := fun hE => by
      have hE' : isAt isE ops i = true := by rw [hatE]; exact hE
      rcases Nat.lt_trichotomy (cnt isE ops i) k with h | h | h
      · have := (v.pre i hE').2 h; rw [hun] at this; cases this
      · exact h
      · have hkn : k < cnt isE ops ops.size := Nat.lt_of_lt_of_le h (cnt_mono (Nat.le_of_lt hil))
        obtain ⟨j, hj, hjk⟩ := cnt_at hkn
        rcases hp.chain i hE' j (by have := idxs_cnt hj; exact List.mem_of_getElem? this) with hij | hR
        · have := cnt_mono (f := isE) (ops := ops) hij; omega
        · have := (v.pre j hj).1 (hreach j hR); omega
    obtain ⟨o', p, ho', hpl, hf⟩ := Run.item hp hr hil
    rw [ho] at ho'; cases ho'
    have hneeds : ∀ b ∈ p.needs, b ∈ ordL ops xs.length listed := fun b hb => by
      obtain ⟨j, hj, hR⟩ := hp.needs i p hpl b hb
      have := (List.getElem?_eq_some_iff.1 hj).1
      rw [← cnt_all, ← hr.lenx] at this
      exact ordL_mem.2 ⟨this, j, hj, hreach j hR⟩
    have hsub : ∀ (x : Nat) (X : Ob), ovOf base xs p.needs x = some X → X ≠ .gone ∧ ovOf base xs (ordL ops xs.length listed) x = some X := fun x X hX => by
      refine ⟨fun h => ovOf_ng hr.ng p.needs x (by rw [hX, h]), ?_⟩
      unfold ovOf at hX ⊢
      split at hX
      · rename_i hc
        rw [if_pos ⟨hc.1, hneeds _ hc.2⟩]
        exact hX
      · cases hX
    have hle0 : (ss 0).length ≤ (ss k).length := Run.len hp hr k v.le
    unfold wpOp
    simp only [ho]
    rcases hf with ⟨hw, hvi, hE1, hA1⟩ | ⟨hw, hf⟩
    · have hw' := hag.wanted.trans hw
      rw [if_neg (by rw [wanted_sound v.rt hw']; simp)]
      refine ih _ (k + if isE o.op = true then 1 else 0) _ w σ (Inv.next hp hr v ho hun hd rfl hck ?_ v.good .refl (by rw [hvi]; simp only [RV])) hcount'
      rw [ordL_next hp hr v.size ho (by cases hA : isA o.op with
        | false => exact .inl rfl
        | true => exact .inr (hA1 hA)), v.st]
      by_cases hE : isE o.op = true
      · rw [if_pos hE, ← hck hE, hE1 hE]
      · rw [if_neg hE]; rfl
    · have hw' := hag.wanted.trans hw
      rw [if_pos (wanted_sound v.rt hw')]
      refine .inl ?_
      rcases hf with ⟨hA, X, hX, hxX⟩ | ⟨hA, hQu, hq⟩ | ⟨hA, hQu, hkg, hlen, hcall, _⟩
      · -- a new object
        have hat : isAt isA ops i = true := by rw [hatA]; exact hA
        have hac : cnt isA ops i < cnt isA ops ops.size := cnt_lt hat hil
        have hE : isE o.op = false := by simp [isE, hA]
        have hfree : (ss k)[base + cnt isA ops i]? = some .gone := by
          refine Run.free hp hr hac k v.le fun j pj hj hjk hplj hmem => ?_
          obtain ⟨j', hj', hR⟩ := hp.needs j pj hplj _ hmem
          have hjj : j' = i := by have := idxs_cnt hat; rw [this] at hj'; cases hj'; rfl
          subst hjj
          have hjl : listed.getD j false = true := (v.pre j hj).2 hjk
          have := hp.reach v.closed j (isAt_lt hj) (v.closed j hjl) _ hR
          rw [hun] at this; cases this
        have hnot : cnt isA ops i ∉ ordL ops xs.length listed := fun h => by
          obtain ⟨_, j, hj, hl⟩ := ordL_mem.1 h
          have := idxs_cnt hat
          rw [this] at hj; cases hj
          rw [hun] at hl; cases hl
        have hgone : σ.st[base + cnt isA ops i]? = some .gone := by
          rw [v.st, over_at, hfree]
          have : ovOf base xs (ordL ops xs.length listed) (base + cnt isA ops i) = none := by
            unfold ovOf
            rw [if_neg]
            rintro ⟨_, hm⟩
            rw [Nat.add_sub_cancel_left] at hm
            exact hnot hm
          simp [this]
        have hX' : aobj P (aev (TL ops vs (fun i => listed.getD i false) t0 ops.size)) (base + cnt isA ops i) o = some (vs i, X) := by
          rw [aobj_congr hag.op]; exact hX
        obtain ⟨u, w', h1, h2, h3, h4⟩ := aobj_sound v.good (fun x => v.rt.eval x) hgone hX'
        unfold Oper.wp
        rw [h1]
        refine ih _ k _ w' (σ.fill (base + cnt isA ops i) X w.heap.size) (Inv.next hp hr v ho hun hd (by simp [hE]) hck ?_ h2 h3 h4) hcount'
        have hXn : X ≠ .gone := aobj_ng hX
        show σ.st.set (base + cnt isA ops i) X = _
        apply List.ext_getElem?
        intro x
        rw [v.st, over_at]
        by_cases hx : x = base + cnt isA ops i
        · subst hx
          rw [List.getElem?_set_self (by rw [over_len]; exact (List.getElem?_eq_some_iff.1 hfree).1), hfree]
          have : ovOf base xs (ordL ops xs.length (listed.setIfInBounds i true)) (base + cnt isA ops i) = some X := by
            unfold ovOf
            rw [if_pos ⟨Nat.le_add_right _ _, by
              rw [Nat.add_sub_cancel_left]
              exact ordL_mem.2 ⟨by rw [hr.lenx]; exact hac, i, idxs_cnt hat, by rw [getD_set his, if_pos rfl]⟩⟩, Nat.add_sub_cancel_left, hxX]
            rfl
          simp [this]
        · rw [List.getElem?_set_ne (Ne.symm hx), over_at]
          have : ovOf base xs (ordL ops xs.length (listed.setIfInBounds i true)) x = ovOf base xs (ordL ops xs.length listed) x := by
            unfold ovOf
            by_cases hb : base ≤ x
            · have hiff : x - base ∈ ordL ops xs.length (listed.setIfInBounds i true) ↔ x - base ∈ ordL ops xs.length listed := by
                rw [ordL_mem, ordL_mem]
                refine and_congr_right fun _ => exists_congr fun j => and_congr_right fun hj => ?_
                rw [getD_set his]
                by_cases hji : j = i
                · subst hji
                  obtain ⟨_, h2⟩ := idxs_spec hj
                  omega
                · rw [if_neg hji]
              by_cases hm : x - base ∈ ordL ops xs.length listed
              · rw [if_pos ⟨hb, hiff.2 hm⟩, if_pos ⟨hb, hm⟩]
              · rw [if_neg (fun h => hm (hiff.1 h.2)), if_neg (fun h => hm h.2)]
            · rw [if_neg (fun h => hb h.1), if_neg (fun h => hb h.1)]
          rw [this]
      · -- a quiet one
        have hE : isE o.op = false := by simp [isE, hQu]
        have hlo : p.lo ≤ k := by
          rcases hp.lo i p hpl with h | ⟨j, hj, hR⟩
          · omega
          · obtain ⟨h1, h2⟩ := idxs_spec hj
            have := (v.pre j h1).1 (hreach j hR)
            omega
        have hlo2 : p.lo ≤ cnt isE ops i := by
          rcases hp.lo i p hpl with h | ⟨j, hj, hR⟩
          · omega
          · obtain ⟨h1, h2⟩ := idxs_spec hj
            have := cnt_lt h1 (hp.lt i hil j hR)
            omega
        have hno : ∀ j, isAt isE ops j = true → cnt isE ops j < k → i ∉ R.getD j [] := fun j hj hjk hR => by
          have hjl := (v.pre j hj).2 hjk
          have := hp.reach v.closed j (isAt_lt hj) (v.closed j hjl) i hR
          rw [hun] at this; cases this
        have hval : qop P o (TL ops vs (fun _ => true) t0 i) (over (ovOf base xs p.needs) (ss k)) = some (vs i) := by
          rcases Nat.lt_or_ge k (cnt isE ops i) with h | h
          · exact hq k hlo (by omega)
          · exact Run.quiet hp hr ho hpl hQu hw hq (k - cnt isE ops i) k (by omega) hlo2 v.le hno
        have hval2 : qop P o (TL ops vs (fun i => listed.getD i false) t0 ops.size) σ.st = some (vs i) := by
          rw [qop_congr hag, v.st, ← over_over hsub]
          exact qop_le (LE.over _) hQu hval
        have hop : aop P C o (TL ops vs (fun i => listed.getD i false) t0 ops.size) σ.st fun v' _ => v' = vs i := by
          unfold qop at hval2
          unfold aop
          split at hval2
          · rename_i c hc
            try simp only [hc]
            unfold acall
            split at hval2
            · rename_i b hb
              obtain ⟨⟨y, s⟩, hy, hyv⟩ := Option.map_eq_some_iff.1 hval2
              simp only [hb, hy]
              exact hyv
            · cases hval2
          · rename_i hne
            obtain ⟨⟨y, s⟩, hy, hyv⟩ := Option.map_eq_some_iff.1 hval2
            try (split; · (rename_i c hc; exact absurd hc (hne c)))
            simp only [hy]
            exact hyv
        refine Oper.wp_of_still (K := fun a' => wpAny P .any ops Q fuel (listed.setIfInBounds i true) a' w) (fun a' h => h) (quiet_sound hQu v.good v.rt hop fun v' u hv' hu => ?_)
        subst hv'
        refine ih _ k _ w σ (Inv.next hp hr v ho hun hd (by simp [hE]) hck ?_ v.good .refl hu) hcount'
        rw [ordL_next hp hr v.size ho (.inl hA), v.st]
      · -- one that turns memory
        have hE : isE o.op = true := by simp [isE, hA, hQu]
        have hki := hck hE
        rw [hki] at hcall
        have hop : aop P C o (TL ops vs (fun i => listed.getD i false) t0 ops.size) σ.st fun v' st' => v' = vs i ∧ st' = over (ovOf base xs (ordL ops xs.length listed)) (ss (k + 1)) := by
          rw [aop_congr hag, v.st, ← over_over hsub]
          exact hcall _ _ (ovOf_fine hr.ng (by omega)) ⟨rfl, rfl⟩
        refine aop_sound hC hF v.good v.rt hop fun v' u st' σ' w' hv' hst' hg' hs' hu => ?_
        obtain ⟨rfl, rfl⟩ := hv'
        refine ih _ (k + 1) _ w' σ' (Inv.next hp hr v ho hun hd (by simp [hE]) hck ?_ hg' hs' hu) hcount'
        rw [ordL_next hp hr v.size ho (.inl hA), hst']
end
end Go.M
