/- Stepping the machine that ranges over maps; frames as functions. -/
import Derived.Test.YtgmccnnjpejigaaM19
import Derived.Test.YtgmccnnjpejigaaM22
set_option linter.unusedVariables false
set_option linter.unusedSimpArgs false
namespace Go.M
open Go Go.RowKit
def noRop : Op → Bool
  | .range .. => false
  | .next .. => false
  | .entry .. => false
  | _ => true
def noR : Code → Bool
  | .region _ ops false => ops.toList.all fun o => noRop o.op
  | .seq a b => noR a && noR b
  | .cond _ a b => noR a && noR b
  | .block _ b => noR b
  | .loop b => noR b
  | _ => true
def unB (K : BK) (I : Option It) : ExK := fun e t st => K e t st I
def bsK (P : Program) (C : CallK) (m : Nat) (pl : Nat → Option (List PI)) (b : Code) (K : BK) : BK := fun e t st I => match e with
  | .normal => bcode P C m pl b K t st I
  | e => K e t st I
def bblK (id : Nat) (K : BK) : BK := fun e t st I => match e with
  | .exit j => if j = id then K .normal t st I else K (.exit j) t st I
  | e => K e t st I
def bivK (J : List V → List Ob → Option It → Prop) (K : BK) : BK := fun e t st I => match e with
  | .normal => J t st I
  | e => K e t st I
def bnK (K : BK) (I : Option It) : List V → List Ob → Prop := fun t st => K .normal t st I
def bopK (P : Program) (C : CallK) (ops : Array Oper) (l : List Oper) (I : Option It) (K : BK) : List V → List Ob → Prop := fun t st => bops P C ops l t st I fun t st I => K .normal t st I
section
variable {P : Program} {C : CallK} {m : Nat} {pl : Nat → Option (List PI)} {K : BK} {t : List V} {st : List Ob} {I : Option It}
theorem unB_eq (e : Exit) : unB K I e t st = K e t st I := propext ⟨fun h => h, fun h => h⟩
theorem bsK_normal {b : Code} : bsK P C m pl b K .normal t st I = bcode P C m pl b K t st I := propext ⟨fun h => h, fun h => h⟩
theorem bsK_exit {b : Code} (j : Nat) : bsK P C m pl b K (.exit j) t st I = K (.exit j) t st I := propext ⟨fun h => h, fun h => h⟩
theorem bsK_ret {b : Code} : bsK P C m pl b K .ret t st I = K .ret t st I := propext ⟨fun h => h, fun h => h⟩
theorem bblK_normal {id : Nat} : bblK id K .normal t st I = K .normal t st I := propext ⟨fun h => h, fun h => h⟩
theorem bblK_exit {id : Nat} (j : Nat) : bblK id K (.exit j) t st I = if j = id then K .normal t st I else K (.exit j) t st I := propext ⟨fun h => h, fun h => h⟩
theorem bblK_ret {id : Nat} : bblK id K .ret t st I = K .ret t st I := propext ⟨fun h => h, fun h => h⟩
theorem bivK_normal {J : List V → List Ob → Option It → Prop} : bivK J K .normal t st I = J t st I := propext ⟨fun h => h, fun h => h⟩
theorem bivK_exit {J : List V → List Ob → Option It → Prop} (j : Nat) : bivK J K (.exit j) t st I = K (.exit j) t st I := propext ⟨fun h => h, fun h => h⟩
theorem bivK_ret {J : List V → List Ob → Option It → Prop} : bivK J K .ret t st I = K .ret t st I := propext ⟨fun h => h, fun h => h⟩
theorem bopK_eq {ops : Array Oper} {l : List Oper} : bopK P C ops l I K t st = bops P C ops l t st I (fun t st I => K .normal t st I) := propext ⟨fun h => h, fun h => h⟩
theorem bc_seq {a b : Code} (h : bcode P C m pl a (bsK P C m pl b K) t st I) : bcode P C m pl (.seq a b) K t st I := by
  simp only [bcode]
  exact h
theorem bc_block {id : Nat} {b : Code} (h : bcode P C m pl b (bblK id K) t st I) : bcode P C m pl (.block id b) K t st I := by
  simp only [bcode]
  exact h
theorem bc_loop {b : Code} (h : bloop (bcode P C m pl b) m K t st I) : bcode P C m pl (.loop b) K t st I := by
  simp only [bcode]
  exact h
theorem bops_of_aops (hC : CMono C) {ops : Array Oper} : ∀ (l l2 : List Oper) (t : List V) (st : List Ob) (K : List V → List Ob → Option It → Prop), (l.all fun o => noRop o.op) = true → aops P C ops l t st (fun t st => bops P C ops l2 t st I K) → bops P C ops (l ++ l2) t st I K
  | [], l2, t, st, K, _, h => h
  | o :: l, l2, t, st, K, hn, h => by
    simp only [List.all_cons, Bool.and_eq_true] at hn
    have ih := fun t st (h : aops P C ops l t st fun t st => bops P C ops l2 t st I K) => bops_of_aops hC l l2 t st K hn.2 h
    simp only [aops] at h
    have key : (match awanted ops t o with
      | some true => aop P C o t st fun v st' => bops P C ops (l ++ l2) (aput t o.dst v) st' I K
      | some false => bops P C ops (l ++ l2) (aput t o.dst (.sc undef)) st I K
      | none => False) := by
      cases hw : awanted ops t o with
      | none => rw [hw] at h; exact h.elim
      | some b =>
        rw [hw] at h
        cases b with
        | true => exact aop_mono hC (fun v st h => ih _ _ h) h
        | false => exact ih _ _ h
    have hno := hn.1
    simp only [List.cons_append, bops]
    split
    · rename_i hop; rw [hop] at hno; simp [noRop] at hno
    · rename_i hop; rw [hop] at hno; simp [noRop] at hno
    · rename_i hop; rw [hop] at hno; simp [noRop] at hno
    · exact key
/-- The first operations of a region. -/
theorem bc_reg {id : Nat} {l : List Oper} (hC : CMono C) (k : Nat) (hn : ((l.take k).all fun o => noRop o.op) = true) (h : aops P C l.toArray (l.take k) t st (bopK P C l.toArray (l.drop k) I K)) : bcode P C m pl (.region id l.toArray false) K t st I := by
  simp only [bcode]
  have := bops_of_aops hC (l.take k) (l.drop k) t st (fun t st I => K .normal t st I) hn h
  rw [List.take_append_drop] at this
  exact this
theorem bc_ac (hC : CMono C) : ∀ {c : Code} {K : BK} {t : List V} {st : List Ob} {I : Option It}, noR c = true → acode P C m pl c (unB K I) t st → bcode P C m pl c K t st I := by
  intro c
  induction c with
  | region id ops draw =>
    intro K t st I hn h
    cases draw with
    | true => simp only [bcode]; exact h
    | false =>
      simp only [acode] at h
      simp only [noR] at hn
      simp only [bcode]
      have := bops_of_aops (I := I) hC ops.toList [] t st (fun t st I => K .normal t st I) hn (aops_mono hC (fun t st h => by simp only [bops]; exact h) h)
      rw [List.append_nil] at this
      exact this
  | seq a b iha ihb =>
    intro K t st I hn h
    simp only [noR, Bool.and_eq_true] at hn
    simp only [acode] at h
    simp only [bcode]
    refine iha hn.1 (acode_mono hC _ (fun e t st h => ?_) h)
    cases e with
    | normal => exact ihb hn.2 h
    | _ => exact h
  | cond c a b iha ihb =>
    intro K t st I hn h
    simp only [noR, Bool.and_eq_true] at hn
    simp only [acode] at h
    split at h
    · rename_i x hx
      simp only [bcode, hx]
      split at h
      · rename_i hh; rw [if_pos hh]; exact iha hn.1 h
      · rename_i hh; rw [if_neg hh]; exact ihb hn.2 h
    · exact h.elim
  | block id b ih =>
    intro K t st I hn h
    simp only [noR] at hn
    simp only [acode] at h
    simp only [bcode]
    refine ih hn (acode_mono hC _ (fun e t st h => ?_) h)
    cases e with
    | exit j =>
      simp only [unB] at h ⊢
      exact h
    | _ => exact h
  | loop b ih =>
    intro K t st I hn h
    simp only [noR] at hn
    simp only [acode] at h
    simp only [bcode]
    have key : ∀ (k : Nat) (t : List V) (st : List Ob), aloop (acode P C m pl b) k (unB K I) t st → bloop (bcode P C m pl b) k K t st I := by
      intro k
      induction k with
      | zero => intro t st h; exact h.elim
      | succ k ihk =>
        intro t st h
        simp only [aloop] at h
        simp only [bloop]
        refine ih hn (acode_mono hC _ (fun e t st h => ?_) h)
        cases e with
        | normal => exact ihk t st h
        | _ => exact h
    exact key m t st h
  | _ => intro K t st I hn h; simp only [bcode]; exact h
variable {ops : Array Oper} {r : List Oper} {dst : Option Tmp} {ty : TypeId} {pos : String} {after : Array Edge} {KK : List V → List Ob → Option It → Prop}
theorem bo_nil : bops P C ops [] t st I KK = KK t st I := by simp only [bops]
theorem bo_range {x : Operand} {rt : TypeId} {a : Nat} {es : List (Value × V)} {k e : TypeId} (hx : aev t x = .map a) (hm : st[a]? = some (.map es)) (hu : P.underlying rt = some (.map k e))
    (h : ∀ b, bops P C ops r (aput t dst (.sc (.pointer (some ⟨b, 0, none⟩)))) (st.set a (.held es)) (some ⟨b, a, es, [], none⟩) KK) : bops P C ops ({ dst := dst, op := .range rt x, type := ty, pos := pos, after := after, guard := none } :: r) t st none KK := by
  simp only [bops]
  exact ⟨trivial, trivial, a, es, hx, hm, ⟨k, e, hu⟩, h⟩
theorem bo_next {x : Operand} {it : It} (hx : aev t x = .sc (.pointer (some ⟨it.B, 0, none⟩))) (hh : st[it.a]? = some (.held it.es))
    (h0 : (∀ j, j < it.es.length → j ∈ it.seen) → bops P C ops r (aput t dst (.tup [.sc (.bool false)])) (st.set it.a (.map it.es)) none KK)
    (h1 : ∀ j (h : j < it.es.length), j ∉ it.seen → bops P C ops r (aput t dst (.tup [.sc (.bool true), keyV it.es[j].1, it.es[j].2])) st (some { it with seen := it.seen ++ [j], cur := some j }) KK) :
    bops P C ops ({ dst := dst, op := .next x false, type := ty, pos := pos, after := after, guard := none } :: r) t st (some it) KK := by
  simp only [bops]
  exact ⟨trivial, it, rfl, hx, hh, h0, h1⟩
theorem bo_entry {x : Operand} {it : It} {j : Nat} (hx : aev t x = .sc (.pointer (some ⟨it.B, 0, none⟩))) (hh : st[it.a]? = some (.held it.es)) (hc : it.cur = some j) (hj : j < it.es.length)
    (h : bops P C ops r (aput t dst (.tup [keyV it.es[j].1, it.es[j].2])) st (some it) KK) :
    bops P C ops ({ dst := dst, op := .entry x, type := ty, pos := pos, after := after, guard := none } :: r) t st (some it) KK := by
  simp only [bops]
  exact ⟨trivial, it, rfl, hx, hh, j, hc, hj, h⟩
/-- The operations behind. -/
theorem bo_rest (hC : CMono C) {l : List Oper} (hn : (l.all fun o => noRop o.op) = true) (h : aops P C ops l t st (bopK P C ops [] I K)) : bops P C ops l t st I (fun t st I => K .normal t st I) := by
  have := bops_of_aops (I := I) hC l [] t st (fun t st I => K .normal t st I) hn h
  rwa [List.append_nil] at this
end
/-- A loop, by what holds at its head. -/
theorem bloop_forF {P : Program} {pl : Plans} {pf : Nat → Option (List PI)} {n m k N : Nat} {b : Code} {K : BK} {f : Nat → V} {st : List Ob} {I : Option It} (J : Nat → (Nat → V) → List Ob → Option It → Prop) (h0 : J k f st I)
    (step : ∀ J' : Nat → List V → List Ob → Option It → Prop, (∀ k f s I, J k f s I → J' k (ofF N f) s I) → ∀ k f st I, J k f st I → ∃ j, k = j + 1 ∧ bcode P (acallF P pl n m) m pf b (bivK (J' j) K) (ofF N f) st I) : bloop (bcode P (acallF P pl n m) m pf b) k K (ofF N f) st I := by
  have key : ∀ k f st I, J k f st I → bloop (bcode P (acallF P pl n m) m pf b) k K (ofF N f) st I := by
    intro k
    induction k with
    | zero =>
      intro f st I h
      obtain ⟨j, hj, _⟩ := step (fun _ _ _ _ => True) (fun _ _ _ _ _ => trivial) 0 f st I h
      omega
    | succ k ih =>
      intro f st I h
      obtain ⟨j, hj, hb⟩ := step (fun k' t s I => k' = k → bloop (bcode P (acallF P pl n m) m pf b) k' K t s I) (fun k' f' s I h hk => by rw [hk] at h ⊢; exact ih f' s I h) (k + 1) f st I h
      obtain rfl : j = k := by omega
      have e : (fun (t : List V) (s : List Ob) (I : Option It) => j = j → bloop (bcode P (acallF P pl n m) m pf b) j K t s I) = bloop (bcode P (acallF P pl n m) m pf b) j K := by
        funext t s I
        exact propext ⟨fun h => h rfl, fun h _ => h⟩
      rw [e] at hb
      simp only [bloop]
      exact hb
  exact key k f st I h0
/-- What is owed at the end. -/
def toldK (P : Program) (fn : Func) (st : List Ob) (v : V) (stF : List Ob) (ov : Nat → Option Ob) : BK := fun e t st' I => (e = .normal ∨ e = .ret) ∧ ∃ st2 v2, back I st' st2 ∧ ares P fn t st2 = some v2 ∧ Grw (over ov st) st2 ∧ fin st v stF v2 st2
theorem toldK_ret {P : Program} {fn : Func} {st stF st' st2 : List Ob} {v v2 : V} {ov : Nat → Option Ob} {t : List V} {I : Option It} (h1 : back I st' st2) (h2 : ares P fn t st2 = some v2) (h3 : Grw (over ov st) st2) (h4 : fin st v stF v2 st2) : toldK P fn st v stF ov .ret t st' I := ⟨.inr rfl, st2, v2, h1, h2, h3, h4⟩
theorem acallF_fn {P : Program} (hN : ∀ (f : FuncId) (fn : Func), P.funcs[f]? = some fn → (fn.name == "runtime.NumGoroutine") = false) {pl : Plans} (hP : PrimOK P pl) {m n : Nat} : ∀ f args st K, f ≠ P.funcs.size → acallF P pl n m f args st K → ∃ fn : Func, P.funcs[f]? = some fn ∧ fn.body.isNone = false ∧ (fn.name == "runtime.NumGoroutine") = false := by
  intro f args st K hfs h
  cases n with
  | zero => exact h.elim
  | succ n =>
    simp only [acallF] at h
    split at h
    · rename_i fn hfn
      rcases h with ⟨v, st', ht, hk⟩ | h
      · obtain ⟨⟨fn', h1, h2⟩, _⟩ := ht
        exact ⟨fn', h1, h2, hN f fn' h1⟩
      split at h
      · rename_i pg pe hp
        obtain ⟨_, ⟨fn', h1, h2⟩, _, _⟩ := hP f _ _ hp
        exact ⟨fn', h1, h2, hN f fn' h1⟩
      split at h
      · rename_i c hc
        exact ⟨fn, hfn, by rw [hc]; rfl, hN f fn hfn⟩
      · exact h.elim
    · rw [if_neg hfs] at h
      exact h.elim
/-- A FUNCTION THAT IS TOLD AS A WHOLE, by its code. -/
theorem told_inF {P : Program} (hm : P.follows .mixedOrders = true) (hN : ∀ (f : FuncId) (fn : Func), P.funcs[f]? = some fn → (fn.name == "runtime.NumGoroutine") = false) {pl : Plans} (hD : plansOK P pl = true) (hP : PrimOK P pl) {n m f N : Nat} {fn : Func} {c : Code} (hf : P.funcs[f]? = some fn) (hb : fn.body = some c) (hn : fn.ntmps = N) {args : List V} (ha : args.length ≤ N) {st stF : List Ob} {v : V} (hfin : stF = st ∨ ∃ e xs n, stF = st ++ [.row e xs n 0 false])
    (h : ∀ ov, Fine ov st.length → bcode P (acallF P pl n m) m (pl f) c (toldK P fn st v stF ov) (ofF N (argF args)) (over ov st) none) : Told P f args st v stF := by
  refine told_code (m := m) (plf := pl f) (acallF_sound hm hN hD hP m n) (acallF_fn hN hP) hm (acallF_CF n) hf hb ?_ hfin fun ov hov => ?_
  · unfold plansOK at hD
    have := (List.all_eq_true.1 hD) f (List.mem_range.2 (Array.getElem?_eq_some_iff.1 hf).1)
    simpa [hf, hb] using this
  · rw [hn, init_ofF ha]
    exact h ov hov
end Go.M
