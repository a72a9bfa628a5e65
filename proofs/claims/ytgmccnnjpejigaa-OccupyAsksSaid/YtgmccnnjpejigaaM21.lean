/- The machine for functions that range over maps: an entry that is left comes out, whichever. -/
import Derived.Test.YtgmccnnjpejigaaM20
set_option linter.unusedVariables false
set_option linter.unusedSimpArgs false
set_option linter.unusedSectionVars false
namespace Go.M
open Go Go.RowKit
/-- One ranges over map a: where the iterator lies, the map's entries, which were given, the last one. -/
structure It where
  B : Nat
  a : Nat
  es : List (Value × V)
  seen : List Nat
  cur : Option Nat
def keyV : Value → V
  | .agg cs => .agg (cs.toList.map .sc)
  | v => .sc v
abbrev BK := Exit → List V → List Ob → Option It → Prop
def bops (P : Program) (C : CallK) (ops : Array Oper) : List Oper → List V → List Ob → Option It → (List V → List Ob → Option It → Prop) → Prop
  | [], t, st, I, K => K t st I
  | o :: rest, t, st, I, K => match o.op with
    | .range ty x => o.guard = none ∧ I = none ∧ ∃ a es, aev t x = .map a ∧ st[a]? = some (.map es) ∧ (∃ k e, P.underlying ty = some (.map k e)) ∧
        ∀ b, bops P C ops rest (aput t o.dst (.sc (.pointer (some ⟨b, 0, none⟩)))) (st.set a (.held es)) (some ⟨b, a, es, [], none⟩) K
    | .next x false => o.guard = none ∧ ∃ it, I = some it ∧ aev t x = .sc (.pointer (some ⟨it.B, 0, none⟩)) ∧ st[it.a]? = some (.held it.es) ∧
        ((∀ j, j < it.es.length → j ∈ it.seen) → bops P C ops rest (aput t o.dst (.tup [.sc (.bool false)])) (st.set it.a (.map it.es)) none K) ∧
        (∀ j (h : j < it.es.length), j ∉ it.seen → bops P C ops rest (aput t o.dst (.tup [.sc (.bool true), keyV it.es[j].1, it.es[j].2])) st (some { it with seen := it.seen ++ [j], cur := some j }) K)
    | .entry x => o.guard = none ∧ ∃ it, I = some it ∧ aev t x = .sc (.pointer (some ⟨it.B, 0, none⟩)) ∧ st[it.a]? = some (.held it.es) ∧
        ∃ j, it.cur = some j ∧ ∃ h : j < it.es.length, bops P C ops rest (aput t o.dst (.tup [keyV it.es[j].1, it.es[j].2])) st I K
    | _ => match awanted ops t o with
      | some true => aop P C o t st fun v st' => bops P C ops rest (aput t o.dst v) st' I K
      | some false => bops P C ops rest (aput t o.dst (.sc undef)) st I K
      | none => False
def bloop (body : BK → List V → List Ob → Option It → Prop) : Nat → BK → List V → List Ob → Option It → Prop
  | 0, _, _, _, _ => False
  | m + 1, K, t, st, I => body (fun e t st I => match e with
    | .normal => bloop body m K t st I
    | e => K e t st I) t st I
def bcode (P : Program) (C : CallK) (m : Nat) (pl : Nat → Option (List PI)) : Code → BK → List V → List Ob → Option It → Prop
  | .region _ ops false, K, t, st, I => bops P C ops ops.toList t st I fun t st I => K .normal t st I
  | .seq a b, K, t, st, I => bcode P C m pl a (fun e t st I => match e with
    | .normal => bcode P C m pl b K t st I
    | e => K e t st I) t st I
  | .cond c a b, K, t, st, I => match aev t c with
    | .sc (.bool x) => if x then bcode P C m pl a K t st I else bcode P C m pl b K t st I
    | _ => False
  | .block id b, K, t, st, I => bcode P C m pl b (fun e t st I => match e with
    | .exit j => if j = id then K .normal t st I else K (.exit j) t st I
    | e => K e t st I) t st I
  | .loop b, K, t, st, I => bloop (bcode P C m pl b) m K t st I
  | c, K, t, st, I => acode P C m pl c (fun e t st => K e t st I) t st
section
variable {P : Program} {σ σ' σ0 σr : Sg} {w w' w0 w1 wr : World} {B0 : Nat}
/-- What holds all along. -/
def Bnd (P : Program) (σ0 : Sg) (w0 : World) (σ : Sg) (w : World) : Option It → Prop
  | none => Stp P σ0 σ w0 w
  | some it => ∃ (σr : Sg) (wr : World) (ens : Array MapEntry) (clock : Nat) (sb : Array Nat), Good P σr wr ∧ Stp P σ0 σr w0 wr ∧ σr.st[it.a]? = some (.map it.es) ∧ Stp P (σr.hide it.a it.es) σ wr w ∧
      StB ens.toList clock ∧ ens.toList.length = it.es.length ∧ w.heap[σr.φ it.a]? = some (.map ens clock) ∧ σ.L (σr.φ it.a) = .frn ∧ σ.φ it.a = σr.φ it.a ∧ isMap σ.st it.a ∧
      w.heap[it.B]? = some (.mapIter (some (σr.φ it.a)) clock sb clock) ∧ σ.L it.B = .frn ∧ wr.heap.size ≤ it.B ∧ it.B ≠ σr.φ it.a ∧
      (∀ j, j < it.es.length → ∀ e, ens.toList[j]? = some e → (sb.contains e.born = true ↔ j ∈ it.seen)) ∧
      (∀ j, it.cur = some j → ∀ e, ens.toList[j]? = some e → ∃ sb0 : Array Nat, sb = sb0.push e.born)
theorem Bnd.mono {I : Option It} (h : Bnd P σ0 w0 σ w I) (k : Stp P σ σ' w w') : Bnd P σ0 w0 σ' w' I := by
  cases I with
  | none => exact (show Stp P σ0 σ w0 w from h).trans k
  | some it =>
    obtain ⟨σr, wr, ens, clock, sb, h1, h2, h3, h4, h5, h6, h7, h8, h9, h10, h11, h12, h13, h14, h15, h16⟩ := h
    obtain ⟨k1, k2⟩ := k.frn _ (Array.getElem?_eq_some_iff.1 h7).1 h8
    obtain ⟨k3, k4⟩ := k.frn _ (Array.getElem?_eq_some_iff.1 h11).1 h12
    obtain ⟨k5, k6⟩ := k.map _ h10
    exact ⟨σr, wr, ens, clock, sb, h1, h2, h3, h4.trans k, h5, h6, k2.trans h7, k1, k5.trans h9, k6, k4.trans h11, k3, h13, h14, h15, h16⟩
theorem RVl.sc : ∀ us : List Value, RVl P σ w (us.map V.sc) us
  | [] => by simp [RVl]
  | u :: us => by simp only [List.map_cons, RVl]; exact ⟨u, us, rfl, by simp only [RV], RVl.sc us⟩
theorem RV.keyV (k : Value) : RV P σ w (keyV k) k := by
  cases k with
  | agg cs => simp only [M.keyV, RV]; exact ⟨cs.toList, by simp, RVl.sc _⟩
  | _ => simp only [M.keyV, RV]
theorem REs.at_ : ∀ {es : List (Value × V)} {ens : List MapEntry}, REs P σ w es ens → ∀ (j : Nat) (h : j < es.length), ∃ e, ens[j]? = some e ∧ e.key = es[j].1 ∧ RV P σ w es[j].2 e.val
  | [], ens, h, j, hj => by simp at hj
  | (k, v) :: l, ens, h, 0, hj => by
    simp only [REs] at h
    obtain ⟨e, es', rfl, h2, h3, h4⟩ := h
    exact ⟨e, rfl, h2, h3⟩
  | (k, v) :: l, ens, h, j + 1, hj => by
    simp only [REs] at h
    obtain ⟨e, es', rfl, h2, h3, h4⟩ := h
    simp only [List.length_cons] at hj
    obtain ⟨e', k1, k2, k3⟩ := REs.at_ h4 j (by omega)
    exact ⟨e', by simpa using k1, by simpa using k2, by simpa using k3⟩
/-- The temporaries, where nobody's memory has turned but a block that nobody knows. -/
theorem RT.stq {t : List V} {a : Act} (h : RT P B0 σ w t a) (k : Stq P σ σ' w w') (hm : ∀ D, σ.L D = .frn → w.heap[D]? = some (.deferred (some [])) → σ'.L D = .frn ∧ w'.heap[D]? = w.heap[D]?) : RT P B0 σ' w' t a := by
  refine ⟨RVl.mono k h.1, ?_⟩
  obtain ⟨Ds, h1, h2, h3⟩ := h.2
  refine ⟨Ds, h1, h2, fun D hD => ?_⟩
  obtain ⟨k1, k2, k3, k4⟩ := h3 D hD
  obtain ⟨q1, q2⟩ := hm D k3 k4
  exact ⟨k1, Nat.lt_of_lt_of_le k2 k.size, q1, q2.trans k4⟩
theorem wpIn_value {o : Oper} {a : Act} {u : Value} {next : Act → World → Prop} {Q : Exit → Act → World → Prop} {ro : Option Nat} (hd : ∀ c, o.op ≠ .defer c) (h : (execOp a.eval o).run P w = .ok (.value u) w') (hn : next (a.put o.dst u) w') : o.wpIn (Wr ro) 0 P a w next Q := by
  refine ⟨fun _ _ => trivial, ?_⟩
  rw [Oper.semAt_eq _ _ _ hd, h]
  exact hn
theorem iter_set (g : Good P σ w) {r : Nat} (hl : σ.L r = .frn) {m : Option Nat} {sn : Nat} {sb : Array Nat} {c : Nat} (hr : w.heap[r]? = some (.mapIter m sn sb c)) (o : Obj) {w1 : World} (h1 : w1 = w ∨ w1 = w.drew) :
    Good P σ (w1.putObj r o) ∧ Stq P σ σ w (w1.putObj r o) ∧ (∀ b, b ≠ r → (w1.putObj r o).heap[b]? = w.heap[b]?) ∧ (w1.putObj r o).heap[r]? = some o := by
  have hlt := (Array.getElem?_eq_some_iff.1 hr).1
  rcases h1 with rfl | rfl
  · obtain ⟨k1, k2⟩ := shut_mark (o := o) g hl (fun ens c h => by rw [hr] at h; cases h)
    exact ⟨k1, k2, fun b hb => World.putObj_heap_other hb, World.putObj_heap_same hlt⟩
  · obtain ⟨k1, k2⟩ := shut_mark (o := o) (g.drew (w.drawn + 1)) hl (fun ens c h => by rw [show ({ w with drawn := w.drawn + 1 } : World).heap = w.heap from rfl, hr] at h; cases h)
    have e0 := (Stp.drew (P := P) (σ := σ) (w := w) (w.drawn + 1)).toStq
    refine ⟨k1, ?_, fun b hb => World.putObj_heap_other hb, World.putObj_heap_same hlt⟩
    refine ⟨k2.os, k2.tape, k2.output, k2.size, k2.pers, k2.cells, k2.map, k2.loop, fun id e xs n lo fz hi => ?_⟩
    obtain ⟨xs', n', lo', fz', q1, q2, q3, q4⟩ := e0.row id e xs n lo fz hi
    obtain ⟨xs2, n2, lo2, fz2, j1, j2, j3, j4⟩ := k2.row id e xs' n' lo' fz' q1
    exact ⟨xs2, n2, lo2, fz2, j1, by omega, by omega, fun b k C hlo hj hh => j4 b k C hlo (by omega) (q4 b k C (by omega) hj hh)⟩
theorem bops_sound {C : CallK} (hC : CS P C) (hF : ∀ f args st K, f ≠ P.funcs.size → C f args st K → ∃ fn : Func, P.funcs[f]? = some fn ∧ fn.body.isNone = false ∧ (fn.name == "runtime.NumGoroutine") = false) {ops : Array Oper} {Q : Exit → Act → World → Prop} :
    ∀ (l : List Oper) (t : List V) (a : Act) (σ : Sg) (w : World) (I : Option It) (K : List V → List Ob → Option It → Prop),
    bops P C ops l t σ.st I K → Good P σ w → RT P B0 σ w t a → Bnd P σ0 w0 σ w I → (∀ t' st' I' σ' w' a', K t' st' I' → σ'.st = st' → Good P σ' w' → RT P B0 σ' w' t' a' → Bnd P σ0 w0 σ' w' I' → Q .normal a' w') → wpListIn (Wr none) 0 P ops Q l a w
  | [], t, a, σ, w, I, K, h, g, hr, hb, hq => by
    simp only [bops] at h
    exact hq _ _ _ _ _ _ h rfl g hr hb
  | o :: l, t, a, σ, w, I, K, h, g, hr, hb, hq => by
    simp only [bops] at h
    unfold wpListIn
    split at h
    · rename_i ty x hop
      obtain ⟨hg, rfl, m, es, hx, hm, ⟨k, e, hu⟩, h⟩ := h
      have hw : awanted ops t o = some true := by simp only [awanted, hg]
      rw [if_pos (wanted_sound hr hw)]
      have hxv := hr.eval x
      rw [hx] at hxv
      simp only [RV] at hxv
      have hro := g.1 _ _ hm
      simp only [RO] at hro
      obtain ⟨ens, clock, q1, q2, q3, q4⟩ := hro
      have lm := (Array.getElem?_eq_some_iff.1 q1).1
      have lst := (List.getElem?_eq_some_iff.1 hm).1
      have hrun : (execOp a.eval o).run P w = .ok (.value (.pointer (some ⟨w.heap.size, 0, none⟩))) (w.alloc (.mapIter (some (σ.φ m)) clock #[] clock)) := by
        simp only [execOp, hop, hxv.1]
        exact run_v (α := Unit) (run_range_map w ty k e (σ.φ m) ens clock hu q1)
      refine wpIn_value (fun c hc => by rw [hop] at hc; cases hc) hrun ?_
      have hbel : Below w.heap.size w (w.alloc (.mapIter (some (σ.φ m)) clock #[] clock)) := ⟨rfl, rfl, rfl, by show _ ≤ (w.heap.push _).size; simp, fun k hk => heap_push (w1 := w.alloc _) (by show w.heap.push _ = _; rfl) hk⟩
      have gh := hide_good g hm
      obtain ⟨g1, p1⟩ := grow_none gh hbel
      have hr1 : RT P B0 (σ.hide m es) (w.alloc (.mapIter (some (σ.φ m)) clock #[] clock)) t a := RT.mono p1 (RT.stq hr (hide_stq g hm) fun D hD _ => ⟨by simp only [Sg.hide]; split <;> first | rfl | exact hD, rfl⟩)
      refine bops_sound hC hF l _ _ (σ.hide m es) _ (some ⟨w.heap.size, m, es, [], none⟩) K (h _) g1 (hr1.put o.dst (by simp only [RV])) ?_ hq
      refine ⟨σ, w, ens, clock, #[], g, hb, hm, p1, q4, REs.length q2, (heap_push (w1 := w.alloc _) (by show w.heap.push _ = _; rfl) lm).trans q1, by simp [Sg.hide], rfl, ⟨es, .inr (hide_at lst)⟩, heap_alloc_new _ _, ?_, Nat.le_refl _, by show w.heap.size ≠ σ.φ m; omega, fun j hj e he => by simp, fun j hj => by cases hj⟩
      simp only [Sg.hide]
      rw [if_neg (by omega)]
      exact g.2.2 _ (Nat.le_refl _)
    · rename_i x hop
      obtain ⟨hg, it, rfl, hx, hh, hstop, hgo⟩ := h
      have hw : awanted ops t o = some true := by simp only [awanted, hg]
      rw [if_pos (wanted_sound hr hw)]
      have hxv := hr.eval x
      rw [hx] at hxv
      simp only [RV] at hxv
      obtain ⟨σr, wr, ens, clock, sb, h1, h2, h3, h4, h5, h6, h7, h8, h9, h10, h11, h12, h13, h14, h15, h16⟩ := hb
      have hro := g.1 _ _ hh
      simp only [RO] at hro
      obtain ⟨ens', clock', q1, q2, q3, q4⟩ := hro
      rw [h9, h7] at q1
      cases q1
      have hnm : ∀ {D : Nat}, w.heap[D]? = some (.deferred (some [])) → D ≠ it.B ∧ D ≠ σ.φ it.a := fun hD => ⟨fun he => (by rw [he, h11] at hD; cases hD), fun he => (by rw [he, h9, h7] at hD; cases hD)⟩
      rcases run_next_at (P := P) w o.type it.B (σr.φ it.a) clock clock sb ens clock h11 h7 (fun x hx => h5.1 x hx) (Nat.le_refl _) with ⟨hl, hrun⟩ | ⟨e, he, w1, hw1, hrun⟩
      · have hrun' : (execOp a.eval o).run P w = .ok (.value (.tuple #[.bool false])) w := by
          simp only [execOp, hop, hxv]
          exact run_v (α := Unit) hrun
        refine wpIn_value (fun c hc => by rw [hop] at hc; cases hc) hrun' ?_
        obtain ⟨gu, pu⟩ := unh_ok g hh h1 h3 h4
        have hr1 : RT P B0 (σ.unh it.a it.es) w t a := RT.stq hr (unh_stq g hh) fun D hD hD2 => ⟨by simp only [Sg.unh]; rw [if_neg (hnm hD2).2]; exact hD, rfl⟩
        refine bops_sound hC hF l _ _ (σ.unh it.a it.es) _ none K (hstop fun j hj => ?_) gu (hr1.put o.dst (by simp only [RV, RVl]; exact ⟨[.bool false], rfl, _, _, rfl, rfl, rfl⟩)) (h2.trans pu) hq
        obtain ⟨e, he, _⟩ := REs.at_ q2 j hj
        exact (h15 j hj e he).1 (all_seen ens sb hl e (List.mem_of_getElem? he))
      · have hrun' : (execOp a.eval o).run P w = .ok (.value (.tuple #[.bool true, e.key, e.val])) (w1.putObj it.B (.mapIter (some (σr.φ it.a)) clock (sb.push e.born) clock)) := by
          simp only [execOp, hop, hxv]
          exact run_v (α := Unit) hrun
        refine wpIn_value (fun c hc => by rw [hop] at hc; cases hc) hrun' ?_
        obtain ⟨he1, he2⟩ := mem_left he
        obtain ⟨j, hj⟩ := List.mem_iff_getElem?.1 he1
        have hjl : j < it.es.length := by rw [← h6]; exact (List.getElem?_eq_some_iff.1 hj).1
        have hjn : j ∉ it.seen := fun hs => by rw [(h15 j hjl e hj).2 hs] at he2; cases he2
        obtain ⟨g1, s1, u1, u2⟩ := iter_set g h12 h11 (.mapIter (some (σr.φ it.a)) clock (sb.push e.born) clock) hw1
        have hr1 := RT.stq hr s1 fun D hD hD2 => ⟨hD, u1 _ (hnm hD2).1⟩
        obtain ⟨e', k1, k2, k3⟩ := REs.at_ q2 j hjl
        rw [hj] at k1
        cases k1
        refine bops_sound hC hF l _ _ σ _ (some { it with seen := it.seen ++ [j], cur := some j }) K (hgo j hjl hjn) g1 (hr1.put o.dst ?_) ?_ hq
        · simp only [RV, RVl]
          exact ⟨[.bool true, e.key, e.val], rfl, _, _, rfl, rfl, _, _, rfl, by rw [← k2]; exact RV.keyV _, _, _, rfl, RV.mono s1 k3, rfl⟩
        · refine ⟨σr, wr, ens, clock, sb.push e.born, h1, h2, h3, ?_, h5, h6, (u1 _ (Ne.symm h14)).trans h7, h8, h9, h10, u2, h12, h13, h14, fun j' hj' e' he' => ?_, fun j' hj' e' he' => ?_⟩
          · refine ⟨⟨s1.os.trans h4.os, s1.tape.trans h4.tape, s1.output.trans h4.output, Nat.le_trans h4.size s1.size, fun b hb => ?_, h4.cells, h4.map, h4.loop, fun i e xs n lo fz hi => ?_⟩, fun b hb hl => ?_, h4.hld⟩
            · obtain ⟨z1, z2⟩ := h4.pers b hb
              obtain ⟨z3, z4⟩ := s1.pers b z1
              exact ⟨z3, z4.trans z2⟩
            · obtain ⟨xs', n', lo', fz', z1, z2, z3, z4⟩ := h4.row i e xs n lo fz hi
              obtain ⟨xs2, n2, lo2, fz2, y1, y2, y3, y4⟩ := s1.row i e xs' n' lo' fz' z1
              exact ⟨xs2, n2, lo2, fz2, y1, by omega, by omega, fun b k C hlo hk hh => y4 b k C hlo (by omega) (z4 b k C (by omega) hk hh)⟩
            · obtain ⟨z1, z2⟩ := h4.frn b hb hl
              exact ⟨z1, (u1 b (by omega)).trans z2⟩
          · rw [contains_push]
            simp only [Bool.or_eq_true, beq_iff_eq, List.mem_append, List.mem_singleton]
            rw [h15 j' hj' e' he']
            refine or_congr Iff.rfl ⟨fun hbb => ?_, fun hjj => ?_⟩
            · have heq := born_inj h5.2 (List.mem_of_getElem? he') (List.mem_of_getElem? hj) hbb
              subst heq
              obtain ⟨a1, a2⟩ := List.getElem?_eq_some_iff.1 he'
              obtain ⟨b1, b2⟩ := List.getElem?_eq_some_iff.1 hj
              exact (List.getElem_inj (h₀ := by rw [List.length_map]; exact a1) (h₁ := by rw [List.length_map]; exact b1) h5.2).1 (by rw [List.getElem_map, List.getElem_map, a2, b2])
            · subst hjj
              rw [hj] at he'
              cases he'
              rfl
          · simp only [Option.some.injEq] at hj'
            subst hj'
            rw [hj] at he'
            cases he'
            exact ⟨sb, rfl⟩
    · rename_i x hop
      obtain ⟨hg, it, rfl, hx, hh, j, hcur, hjl, h⟩ := h
      have hw : awanted ops t o = some true := by simp only [awanted, hg]
      rw [if_pos (wanted_sound hr hw)]
      have hxv := hr.eval x
      rw [hx] at hxv
      simp only [RV] at hxv
      have hb0 := hb
      obtain ⟨σr, wr, ens, clock, sb, h1, h2, h3, h4, h5, h6, h7, h8, h9, h10, h11, h12, h13, h14, h15, h16⟩ := hb
      have hro := g.1 _ _ hh
      simp only [RO] at hro
      obtain ⟨ens', clock', q1, q2, q3, q4⟩ := hro
      rw [h9, h7] at q1
      cases q1
      obtain ⟨e, k1, k2, k3⟩ := REs.at_ q2 j hjl
      obtain ⟨sb0, rfl⟩ := h16 j hcur e k1
      have hrun' : (execOp a.eval o).run P w = .ok (.value (.tuple #[e.key, e.val])) w := by
        simp only [execOp, hop, hxv]
        exact run_v (α := Unit) (run_entry_at (P := P) w it.B (σr.φ it.a) clock sb0 ens clock e h11 h7 (List.mem_of_getElem? k1) h5.2)
      refine wpIn_value (fun c hc => by rw [hop] at hc; cases hc) hrun' ?_
      refine bops_sound hC hF l _ _ σ _ _ K h g (hr.put o.dst ?_) hb0 hq
      simp only [RV, RVl]
      exact ⟨[e.key, e.val], rfl, _, _, rfl, by rw [← k2]; exact RV.keyV _, _, _, rfl, k3, rfl⟩
    · split at h
      · rename_i hw
        rw [if_pos (wanted_sound hr hw)]
        refine aop_sound hC hF g hr h fun v u st' σ' w' k1 k2 k3 k4 k5 => ?_
        subst k2
        exact bops_sound hC hF l _ _ σ' w' I K k1 k3 ((hr.mono k4).put o.dst k5) (hb.mono k4) hq
      · rename_i hw
        rw [if_neg (by rw [wanted_sound hr hw]; simp)]
        exact ⟨fun _ _ => trivial, bops_sound hC hF l _ _ σ w I K h g (hr.put o.dst (by simp only [RV])) hb hq⟩
      · exact h.elim
end
end Go.M
