/- How the machine is reckoned: numbers, tests, conversions. -/
import Derived.Test.YtpdhoicpaonggaaGreatM13
set_option linter.unusedVariables false
set_option linter.unusedSimpArgs false
namespace Go.M
open Go Go.RowKit
section
variable {P : Program}

theorem pureRun_pure {α : Type} (a : α) : pureRun P (pure a) = some a := rfl
theorem pureRun_bind {α β : Type} (f : α → Sem β) : ∀ (s : Sem α), pureRun P (s >>= f) = (pureRun P s).bind fun a => pureRun P (f a)
  | .pure a => rfl
  | .program k => by show pureRun P ((k P) >>= f) = _; rw [pureRun_bind f (k P)]; rfl
  | .mark m k => by show pureRun P (k >>= f) = _; rw [pureRun_bind f k]; rfl
  | .load .. => rfl
  | .store .. => rfl
  | .new .. => rfl
  | .shape .. => rfl
  | .freeze .. => rfl
  | .frozen .. => rfl
  | .getObj .. => rfl
  | .setObj .. => rfl
  | .choose .. => rfl
  | .sys .. => rfl
  | .halt .. => rfl

theorem eqGuard_int (op : BinOp) (t : TypeId) (x y : Operand) (j k : IntKind) (a b : Int) : eqGuard op t x y (.int j a) (.int k b) = pure () := by cases op <;> rfl
theorem eqGuard_bool (op : BinOp) (t : TypeId) (x y : Operand) (a b : Bool) : eqGuard op t x y (.bool a) (.bool b) = pure () := by cases op <;> rfl
theorem eqGuard_string (op : BinOp) (t : TypeId) (x y : Operand) (a b : ByteArray) : eqGuard op t x y (.string a) (.string b) = pure () := by cases op <;> rfl
theorem eqGuard_pointer (op : BinOp) (t : TypeId) (x y : Operand) (a b : Option Addr) : eqGuard op t x y (.pointer a) (.pointer b) = pure () := by cases op <;> rfl

def ibin (op : BinOp) (k : IntKind) (a b : Int) : Option Value :=
  match op with
  | .add => some (.int k (k.wrap (a + b)))
  | .sub => some (.int k (k.wrap (a - b)))
  | .mul => some (.int k (k.wrap (a * b)))
  | .quo => if b = 0 then none else some (.int k (k.wrap (a.tdiv b)))
  | .rem => if b = 0 then none else some (.int k (a.tmod b))
  | .and => some (.int k (bits .and k a b))
  | .or => some (.int k (bits .or k a b))
  | .xor => some (.int k (bits .xor k a b))
  | .andNot => some (.int k (bits .andNot k a b))
  | .shl => none
  | .shr => none
  | .eql => some (.bool (a == b))
  | .neq => some (.bool (a != b))
  | .lss => some (.bool (a < b))
  | .leq => some (.bool (a ≤ b))
  | .gtr => some (.bool (a > b))
  | .geq => some (.bool (a ≥ b))

theorem pr_int {op : BinOp} (t : TypeId) (x y : Operand) (k : IntKind) (a b : Int) (h1 : op ≠ .shl) (h2 : op ≠ .shr) :
    pureRun P (do eqGuard op t x y (.int k a) (.int k b); binOp op t (.int k a) (.int k b)) = ibin op k a b := by
  rw [eqGuard_int]
  cases op <;> first | exact absurd rfl h1 | exact absurd rfl h2 | skip
  all_goals simp only [pureRun_bind, pureRun_pure, Option.bind_some, ibin]
  case quo => simp only [binOp, ne_eq, not_true, if_false, Op.intDiv]; split <;> simp_all [runtimePanic, pureRun_bind, pureRun, program, goPanic, pureRun_pure]
  case rem => simp only [binOp, ne_eq, not_true, if_false, Op.intDiv]; split <;> simp_all [runtimePanic, pureRun_bind, pureRun, program, goPanic, pureRun_pure]
  all_goals simp [binOp, Op.intArith, Op.intBits, Op.intCmp, pureRun_pure, bits]

theorem pr_shr (t : TypeId) (x y : Operand) (k k' : IntKind) (a b : Int) (h : 0 ≤ b) :
    pureRun P (do eqGuard .shr t x y (.int k a) (.int k' b); binOp .shr t (.int k a) (.int k' b)) = some (.int k (a.fdiv (2 ^ min b.toNat k.bits))) := by
  rw [eqGuard_int]
  simp only [pureRun_bind, pureRun_pure, Option.bind_some]
  simp only [binOp, Op.shift, if_neg (show ¬ b < 0 by omega), pureRun_pure]
theorem pr_shl (t : TypeId) (x y : Operand) (k k' : IntKind) (a b : Int) (h : 0 ≤ b) :
    pureRun P (do eqGuard .shl t x y (.int k a) (.int k' b); binOp .shl t (.int k a) (.int k' b)) = some (.int k (k.wrap (a * 2 ^ min b.toNat k.bits))) := by
  rw [eqGuard_int]
  simp only [pureRun_bind, pureRun_pure, Option.bind_some]
  simp only [binOp, Op.shift, if_neg (show ¬ b < 0 by omega), pureRun_pure]

theorem pr_eqs (t : TypeId) (x y : Operand) (a b : ByteArray) : pureRun P (do eqGuard .eql t x y (.string a) (.string b); binOp .eql t (.string a) (.string b)) = some (.bool (a.toList == b.toList)) := by
  rw [eqGuard_string]
  simp [pureRun_bind, pureRun_pure, binOp, Op.stringOp]
theorem pr_nes (t : TypeId) (x y : Operand) (a b : ByteArray) : pureRun P (do eqGuard .neq t x y (.string a) (.string b); binOp .neq t (.string a) (.string b)) = some (.bool !(a.toList == b.toList)) := by
  rw [eqGuard_string]
  simp [pureRun_bind, pureRun_pure, binOp, Op.stringOp]

theorem pureRun_underlying {t : TypeId} {d : TypeDesc} (h : P.underlying t = some d) : pureRun P (underlying t) = some d := by
  simp [underlying, pureRun_bind, program, pureRun, h, pureRun_pure]

theorem pr_eqb {t : TypeId} (h : P.underlying t = some .bool) (x y : Operand) (a b : Bool) : pureRun P (do eqGuard .eql t x y (.bool a) (.bool b); binOp .eql t (.bool a) (.bool b)) = some (.bool (a == b)) := by
  rw [eqGuard_bool]
  simp only [pureRun_bind, pureRun_pure, Option.bind_some]
  show pureRun P (do pure (Value.bool (← Op.equalIn (9999 + 1) t (.bool a) (.bool b)))) = _
  rw [pureRun_bind, Op.equalIn, pureRun_bind, pureRun_underlying h]
  rfl
theorem pr_neb {t : TypeId} (h : P.underlying t = some .bool) (x y : Operand) (a b : Bool) : pureRun P (do eqGuard .neq t x y (.bool a) (.bool b); binOp .neq t (.bool a) (.bool b)) = some (.bool (!(a == b))) := by
  rw [eqGuard_bool]
  simp only [pureRun_bind, pureRun_pure, Option.bind_some]
  show pureRun P (do pure (Value.bool (!(← Op.equalIn (9999 + 1) t (.bool a) (.bool b))))) = _
  rw [pureRun_bind, Op.equalIn, pureRun_bind, pureRun_underlying h]
  rfl
theorem pr_eqnil {t e : TypeId} (h : P.underlying t = some (.pointer e)) (x y : Operand) : pureRun P (do eqGuard .eql t x y (.pointer none) (.pointer none); binOp .eql t (.pointer none) (.pointer none)) = some (.bool true) := by
  rw [eqGuard_pointer]
  simp only [pureRun_bind, pureRun_pure, Option.bind_some]
  show pureRun P (do pure (Value.bool (← Op.equalIn (9999 + 1) t (.pointer none) (.pointer none)))) = _
  rw [pureRun_bind, Op.equalIn, pureRun_bind, pureRun_underlying h]
  rfl
theorem pr_nenil {t e : TypeId} (h : P.underlying t = some (.pointer e)) (x y : Operand) : pureRun P (do eqGuard .neq t x y (.pointer none) (.pointer none); binOp .neq t (.pointer none) (.pointer none)) = some (.bool false) := by
  rw [eqGuard_pointer]
  simp only [pureRun_bind, pureRun_pure, Option.bind_some]
  show pureRun P (do pure (Value.bool (!(← Op.equalIn (9999 + 1) t (.pointer none) (.pointer none))))) = _
  rw [pureRun_bind, Op.equalIn, pureRun_bind, pureRun_underlying h]
  rfl

theorem pr_conv {s d : TypeId} {ds : TypeDesc} {k j : IntKind} (hs : P.underlying s = some ds) (hd : P.underlying d = some (.int k)) (n : Int) : pureRun P (convert s d (.int j n)) = some (.int k (k.wrap n)) := by
  unfold convert
  rw [pureRun_bind, pureRun_underlying hs, Option.bind_some, pureRun_bind, pureRun_underlying hd, Option.bind_some]
  cases ds <;> rfl
theorem pr_convs {s d : TypeId} {ds : TypeDesc} (hs : P.underlying s = some ds) (hd : P.underlying d = some .string) (b : ByteArray) : pureRun P (convert s d (.string b)) = some (.string b) := by
  unfold convert
  rw [pureRun_bind, pureRun_underlying hs, Option.bind_some, pureRun_bind, pureRun_underlying hd, Option.bind_some]
  cases ds <;> rfl
theorem pr_not (b : Bool) : pureRun P (Op.unary .not (.bool b)) = some (.bool !b) := rfl
theorem pr_neg (k : IntKind) (n : Int) : pureRun P (Op.unary .neg (.int k n)) = some (.int k (k.wrap (0 - n))) := rfl

theorem max2_int (k : IntKind) (a b : Int) : pureRun P (Builtin.max2 (.int k a) (.int k b)) = some (.int k (if a < b then b else a)) := by
  simp [Builtin.max2, pureRun_pure]

def seqK (P : Program) (C : CallK) (m : Nat) (pl : Nat → Option (List PI)) (b : Code) (K : ExK) : ExK := fun e t st => match e with
  | .normal => acode P C m pl b K t st
  | e => K e t st
def blockK (id : Nat) (K : ExK) : ExK := fun e t st => match e with
  | .exit j => if j = id then K .normal t st else K (.exit j) t st
  | e => K e t st
def loopK (body : ExK → List V → List Ob → Prop) (k : Nat) (K : ExK) : ExK := fun e t st => match e with
  | .normal => aloop body k K t st
  | e => K e t st
def nextK (K : ExK) : List V → List Ob → Prop := fun t st => K .normal t st
def bcase (v : V) (p q : Prop) : Prop := match v with
  | .sc (.bool x) => if x then p else q
  | _ => False
def resK (r : Option (V × List Ob)) (k : V → List Ob → Prop) : Prop := match r with
  | some (v, st) => k v st
  | none => False
def valK (r : Option V) (k : V → Prop) : Prop := match r with
  | some v => k v
  | none => False
def wantK (w : Option Bool) (p q : Prop) : Prop := match w with
  | some true => p
  | some false => q
  | none => False
def funK (P : Program) (fn : Func) (K : V → List Ob → Prop) : ExK := fun e t st' => (e = .normal ∨ e = .ret) ∧ match ares P fn t st' with
  | some v => K v st'
  | none => False
def putK (P : Program) (C : CallK) (ops : Array Oper) (r : List Oper) (d : Option Tmp) (t : List V) (K : List V → List Ob → Prop) : V → List Ob → Prop := fun v st => aops P C ops r (aput t d v) st K
def dputK (P : Program) (C : CallK) (ops : Array Oper) (plan : List PI) (base : Nat) (o : Oper) (p : PI) (r : List Oper) (ps : List PI) (t : List V) (st : List Ob) (hs : List (List Ob)) (xs : List (Option Ob)) (K : List V → List Ob → Prop) : V → List Ob → Prop :=
  fun v st' => (Grw (patch base xs p.needs st) st' ∨ pendOK P ops plan base xs t st' p.stab) ∧ adraw P C ops plan base r ps (aput t o.dst v) st' (hs ++ [st]) xs K
variable {C : CallK} {m : Nat} {pl : Nat → Option (List PI)} {K : ExK} {t : List V} {st : List Ob} {b : Code} {id : Nat}
theorem seqK_normal : seqK P C m pl b K .normal t st = acode P C m pl b K t st := propext ⟨fun h => h, fun h => h⟩
theorem seqK_exit (j : Nat) : seqK P C m pl b K (.exit j) t st = K (.exit j) t st := propext ⟨fun h => h, fun h => h⟩
theorem seqK_ret : seqK P C m pl b K .ret t st = K .ret t st := propext ⟨fun h => h, fun h => h⟩
theorem blockK_normal : blockK id K .normal t st = K .normal t st := propext ⟨fun h => h, fun h => h⟩
theorem blockK_exit (j : Nat) : blockK id K (.exit j) t st = if j = id then K .normal t st else K (.exit j) t st := propext ⟨fun h => h, fun h => h⟩
theorem blockK_ret : blockK id K .ret t st = K .ret t st := propext ⟨fun h => h, fun h => h⟩
theorem nextK_eq : nextK K t st = K .normal t st := propext ⟨fun h => h, fun h => h⟩
theorem loopK_normal {body : ExK → List V → List Ob → Prop} {k : Nat} : loopK body k K .normal t st = aloop body k K t st := propext ⟨fun h => h, fun h => h⟩
theorem loopK_exit {body : ExK → List V → List Ob → Prop} {k : Nat} (j : Nat) : loopK body k K (.exit j) t st = K (.exit j) t st := propext ⟨fun h => h, fun h => h⟩
theorem loopK_ret {body : ExK → List V → List Ob → Prop} {k : Nat} : loopK body k K .ret t st = K .ret t st := propext ⟨fun h => h, fun h => h⟩
theorem resK_some (v : V) (st : List Ob) (k : V → List Ob → Prop) : resK (some (v, st)) k = k v st := propext ⟨fun h => h, fun h => h⟩
theorem valK_some (v : V) (k : V → Prop) : valK (some v) k = k v := propext ⟨fun h => h, fun h => h⟩
theorem wantK_true (p q : Prop) : wantK (some true) p q = p := propext ⟨fun h => h, fun h => h⟩
theorem wantK_false (p q : Prop) : wantK (some false) p q = q := propext ⟨fun h => h, fun h => h⟩
theorem putK_eq {ops : Array Oper} {r : List Oper} {d : Option Tmp} {K : List V → List Ob → Prop} (v : V) (st : List Ob) : putK P C ops r d t K v st = aops P C ops r (aput t d v) st K := propext ⟨fun h => h, fun h => h⟩
theorem dputK_eq {ops : Array Oper} {plan : List PI} {base : Nat} {o : Oper} {p : PI} {r : List Oper} {ps : List PI} {hs : List (List Ob)} {xs : List (Option Ob)} {K : List V → List Ob → Prop} (v : V) (st' : List Ob) :
  dputK P C ops plan base o p r ps t st hs xs K v st' = ((Grw (patch base xs p.needs st) st' ∨ pendOK P ops plan base xs t st' p.stab) ∧ adraw P C ops plan base r ps (aput t o.dst v) st' (hs ++ [st]) xs K) := propext ⟨fun h => h, fun h => h⟩
theorem funK_normal {fn : Func} {K : V → List Ob → Prop} : funK P fn K .normal t st = valK (ares P fn t st) fun v => K v st := by
  unfold funK valK; simp
theorem funK_ret {fn : Func} {K : V → List Ob → Prop} : funK P fn K .ret t st = valK (ares P fn t st) fun v => K v st := by
  unfold funK valK; simp

theorem acode_seq (a b : Code) : acode P C m pl (.seq a b) K t st = acode P C m pl a (seqK P C m pl b K) t st := by rw [acode]; rfl
theorem acode_reg (id : Nat) (ops : Array Oper) : acode P C m pl (.region id ops false) K t st = aops P C ops ops.toList t st (nextK K) := by
  rw [acode]; rfl
theorem acode_draw {id : Nat} {ops : Array Oper} : acode P C m pl (.region id ops true) K t st = match pl id with
    | none => aops P C ops ops.toList t st (nextK K)
    | some plan => adraw P C ops plan st.length ops.toList plan t (st ++ List.replicate (numA ops) .gone) [] [] (nextK K) := by
  rw [acode]; rfl
theorem acode_skip : acode P C m pl .skip K t st = K .normal t st := by rw [acode]
theorem acode_cond (c : Operand) (a b : Code) : acode P C m pl (.cond c a b) K t st = bcase (aev t c) (acode P C m pl a K t st) (acode P C m pl b K t st) := by rw [acode]; rfl
theorem acode_block (id : Nat) (b : Code) : acode P C m pl (.block id b) K t st = acode P C m pl b (blockK id K) t st := by rw [acode]; rfl
theorem acode_loop (b : Code) : acode P C m pl (.loop b) K t st = aloop (acode P C m pl b) m K t st := by rw [acode]
theorem acode_exit (id : Nat) : acode P C m pl (.exit id) K t st = K (.exit id) t st := by rw [acode]
theorem acode_ret : acode P C m pl .ret K t st = K .ret t st := by rw [acode]
theorem acode_regl (id : Nat) (l : List Oper) : acode P C m pl (.region id l.toArray false) K t st = aops P C l.toArray l t st (nextK K) := by rw [acode_reg]
theorem acode_drawl {id : Nat} (l : List Oper) (h : pl id = none) : acode P C m pl (.region id l.toArray true) K t st = aops P C l.toArray l t st (nextK K) := by rw [acode_draw, h]
theorem acode_drawp {id : Nat} (l : List Oper) {plan : List PI} (h : pl id = some plan) : acode P C m pl (.region id l.toArray true) K t st = adraw P C l.toArray plan st.length l plan t (st ++ List.replicate (numA l.toArray) .gone) [] [] (nextK K) := by rw [acode_draw, h]

section
variable {ops : Array Oper} {r : List Oper} {K : List V → List Ob → Prop} {dst : Option Tmp} {ty : TypeId} {pos : String} {after : Array Edge}
theorem aops_nil : aops P C ops [] t st K = K t st := propext ⟨fun h => h, fun h => h⟩
theorem aops_call (c : Call) : aops P C ops ({ dst := dst, op := .call c, type := ty, pos := pos, after := after, guard := none } :: r) t st K = acall P C c ty (aev t) st (putK P C ops r dst t K) := propext ⟨fun h => h, fun h => h⟩
theorem aops_callg (c : Call) (g : Nat × Bool) : aops P C ops ({ dst := dst, op := .call c, type := ty, pos := pos, after := after, guard := some g } :: r) t st K =
    wantK (awanted ops t { dst := dst, op := .call c, type := ty, pos := pos, after := after, guard := some g }) (acall P C c ty (aev t) st (putK P C ops r dst t K)) (aops P C ops r (aput t dst (.sc undef)) st K) := by
  rw [aops]; rfl
def noCall : Op → Bool
  | .call _ => false
  | _ => true
theorem aop_nocall {o : Oper} {K : V → List Ob → Prop} (h : noCall o.op = true) : aop P C o t st K = resK (aval P (aev t) st o) K := by
  unfold aop
  split
  · rename_i c hc; rw [hc] at h; cases h
  · rfl
theorem aops_op (op : Op) (h : noCall op = true) : aops P C ops ({ dst := dst, op := op, type := ty, pos := pos, after := after, guard := none } :: r) t st K =
    resK (aval P (aev t) st { dst := dst, op := op, type := ty, pos := pos, after := after, guard := none }) (putK P C ops r dst t K) := by
  rw [aops]
  show aop P C _ t st _ = _
  rw [aop_nocall h]; rfl
theorem aops_opg (op : Op) (g : Nat × Bool) (h : noCall op = true) : aops P C ops ({ dst := dst, op := op, type := ty, pos := pos, after := after, guard := some g } :: r) t st K =
    wantK (awanted ops t { dst := dst, op := op, type := ty, pos := pos, after := after, guard := some g })
      (resK (aval P (aev t) st { dst := dst, op := op, type := ty, pos := pos, after := after, guard := some g }) (putK P C ops r dst t K)) (aops P C ops r (aput t dst (.sc undef)) st K) := by
  rw [aops]
  simp only [aop_nocall (C := C) (o := { dst := dst, op := op, type := ty, pos := pos, after := after, guard := some g }) h]
  rfl

variable {plan : List PI} {base : Nat} {p : PI} {ps : List PI} {hs : List (List Ob)} {xs : List (Option Ob)} {o : Oper}
theorem adraw_nil : adraw P C ops plan base [] [] t st hs xs K = K t (patch base xs (List.range xs.length) st) := by rw [adraw]; simp
def xputK (P : Program) (C : CallK) (ops : Array Oper) (plan : List PI) (base : Nat) (o : Oper) (r : List Oper) (ps : List PI) (t : List V) (st : List Ob) (hs : List (List Ob)) (xs : List (Option Ob)) (K : List V → List Ob → Prop) (x : Option (V × Ob)) : Prop := match x with
  | some (v, X) => adraw P C ops plan base r ps (aput t o.dst v) st hs (xs ++ [some X]) K
  | none => False
theorem xputK_some (v : V) (X : Ob) : xputK P C ops plan base o r ps t st hs xs K (some (v, X)) = adraw P C ops plan base r ps (aput t o.dst v) st hs (xs ++ [some X]) K := propext ⟨fun h => h, fun h => h⟩
def qputK (P : Program) (C : CallK) (ops : Array Oper) (plan : List PI) (base : Nat) (o : Oper) (p : PI) (r : List Oper) (ps : List PI) (t : List V) (st : List Ob) (hs : List (List Ob)) (xs : List (Option Ob)) (K : List V → List Ob → Prop) (x : Option V) : Prop := match x with
  | some v => (memOp o.op = true → ∀ s ∈ hs.drop p.lo, qop P o t (patch base xs p.needs s) = some v) ∧ adraw P C ops plan base r ps (aput t o.dst v) st hs xs K
  | none => False
theorem qputK_pure {op : Op} {gd : Option (Nat × Bool)} (v : V) (h : memOp op = false) : qputK P C ops plan base ({ dst := dst, op := op, type := ty, pos := pos, after := after, guard := gd } : Oper) p r ps t st hs xs K (some v) = adraw P C ops plan base r ps (aput t dst v) st hs xs K := by
  simp [qputK, h]
theorem qputK_nil (v : V) : qputK P C ops plan base o p r ps t st [] xs K (some v) = adraw P C ops plan base r ps (aput t o.dst v) st [] xs K := by
  simp [qputK]
theorem qputK_mem {op : Op} {gd : Option (Nat × Bool)} (v : V) (s : List Ob) (hs : List (List Ob)) (h : memOp op = true) : qputK P C ops plan base ({ dst := dst, op := op, type := ty, pos := pos, after := after, guard := gd } : Oper) p r ps t st (s :: hs) xs K (some v) = ((∀ s' ∈ (s :: hs).drop p.lo, qop P ({ dst := dst, op := op, type := ty, pos := pos, after := after, guard := gd } : Oper) t (patch base xs p.needs s') = some v) ∧ adraw P C ops plan base r ps (aput t dst v) st (s :: hs) xs K) := by
  unfold qputK
  simp only [h, true_implies]
theorem adraw_A {op : Op} {gd : Option (Nat × Bool)} (h : isA op = true) : adraw P C ops plan base (({ dst := dst, op := op, type := ty, pos := pos, after := after, guard := gd } : Oper) :: r) (p :: ps) t st hs xs K = wantK (awanted ops t ({ dst := dst, op := op, type := ty, pos := pos, after := after, guard := gd } : Oper)) (xputK P C ops plan base ({ dst := dst, op := op, type := ty, pos := pos, after := after, guard := gd } : Oper) r ps t st hs xs K (aobj P (aev t) (base + xs.length) ({ dst := dst, op := op, type := ty, pos := pos, after := after, guard := gd } : Oper))) (adraw P C ops plan base r ps (aput t dst (.sc undef)) st hs (xs ++ [none]) K) := by
  have hE : isE op = false := by simp [isE, h]
  rw [adraw]
  simp only [h, hE, if_true, Bool.false_eq_true, if_false]
  rfl
theorem adraw_Q {op : Op} {gd : Option (Nat × Bool)} (hA : isA op = false) (h : quietOp op = true) : adraw P C ops plan base (({ dst := dst, op := op, type := ty, pos := pos, after := after, guard := gd } : Oper) :: r) (p :: ps) t st hs xs K = wantK (awanted ops t ({ dst := dst, op := op, type := ty, pos := pos, after := after, guard := gd } : Oper)) (qputK P C ops plan base ({ dst := dst, op := op, type := ty, pos := pos, after := after, guard := gd } : Oper) p r ps t st hs xs K (qop P ({ dst := dst, op := op, type := ty, pos := pos, after := after, guard := gd } : Oper) t (patch base xs p.needs st))) (adraw P C ops plan base r ps (aput t dst (.sc undef)) st hs xs K) := by
  have hE : isE op = false := by simp [isE, h]
  rw [adraw]
  simp only [hA, h, hE, if_true, Bool.false_eq_true, if_false]
  rfl
theorem adraw_E {op : Op} {gd : Option (Nat × Bool)} (hA : isA op = false) (h : quietOp op = false) : adraw P C ops plan base (({ dst := dst, op := op, type := ty, pos := pos, after := after, guard := gd } : Oper) :: r) (p :: ps) t st hs xs K = wantK (awanted ops t ({ dst := dst, op := op, type := ty, pos := pos, after := after, guard := gd } : Oper)) (aop P C ({ dst := dst, op := op, type := ty, pos := pos, after := after, guard := gd } : Oper) t (patch base xs p.needs st) (dputK P C ops plan base ({ dst := dst, op := op, type := ty, pos := pos, after := after, guard := gd } : Oper) p r ps t st hs xs K)) (adraw P C ops plan base r ps (aput t dst (.sc undef)) st (hs ++ [st]) xs K) := by
  have hE : isE op = true := by simp [isE, h, hA]
  rw [adraw]
  simp only [hA, h, hE, if_true, Bool.false_eq_true, if_false]
  rfl
theorem aop_call {K : V → List Ob → Prop} {gd : Option (Nat × Bool)} (c : Call) : aop P C { dst := dst, op := .call c, type := ty, pos := pos, after := after, guard := gd } t st K = acall P C c ty (aev t) st K := propext ⟨fun h => h, fun h => h⟩
theorem aop_op {K : V → List Ob → Prop} {gd : Option (Nat × Bool)} (op : Op) (h : noCall op = true) : aop P C { dst := dst, op := op, type := ty, pos := pos, after := after, guard := gd } t st K = resK (aval P (aev t) st { dst := dst, op := op, type := ty, pos := pos, after := after, guard := gd }) K := aop_nocall h
end
theorem nc_move (x : Operand) : noCall (.move x) = true := by simp [noCall]
theorem ia_move (x : Operand) : isA (.move x) = false := by simp [isA]
theorem qo_move (x : Operand) : quietOp (.move x) = true := by simp [quietOp]
theorem mo_move (x : Operand) : memOp (.move x) = false := by simp [memOp]
theorem nc_assign (x : Operand) : noCall (.assign x) = true := by simp [noCall]
theorem ia_assign (x : Operand) : isA (.assign x) = false := by simp [isA]
theorem qo_assign (x : Operand) : quietOp (.assign x) = true := by simp [quietOp]
theorem mo_assign (x : Operand) : memOp (.assign x) = false := by simp [memOp]
theorem nc_pick (c a b : Operand) : noCall (.pick c a b) = true := by simp [noCall]
theorem ia_pick (c a b : Operand) : isA (.pick c a b) = false := by simp [isA]
theorem qo_pick (c a b : Operand) : quietOp (.pick c a b) = true := by simp [quietOp]
theorem mo_pick (c a b : Operand) : memOp (.pick c a b) = false := by simp [memOp]
theorem nc_alloc (t : TypeId) : noCall (.alloc t) = true := by simp [noCall]
theorem ia_alloc (t : TypeId) : isA (.alloc t) = true := by simp [isA]
theorem qo_alloc (t : TypeId) : quietOp (.alloc t) = false := by simp [quietOp]
theorem mo_alloc (t : TypeId) : memOp (.alloc t) = false := by simp [memOp]
theorem nc_box (t : TypeId) (x : Operand) : noCall (.box t x) = true := by simp [noCall]
theorem ia_box (t : TypeId) (x : Operand) : isA (.box t x) = true := by simp [isA]
theorem qo_box (t : TypeId) (x : Operand) : quietOp (.box t x) = false := by simp [quietOp]
theorem mo_box (t : TypeId) (x : Operand) : memOp (.box t x) = false := by simp [memOp]
theorem nc_build (t : TypeId) (x : Array (Nat × Operand)) : noCall (.build t x) = true := by simp [noCall]
theorem ia_build (t : TypeId) (x : Array (Nat × Operand)) : isA (.build t x) = false := by simp [isA]
theorem qo_build (t : TypeId) (x : Array (Nat × Operand)) : quietOp (.build t x) = true := by simp [quietOp]
theorem mo_build (t : TypeId) (x : Array (Nat × Operand)) : memOp (.build t x) = false := by simp [memOp]
theorem nc_buildSlice (t : TypeId) (n : Nat) (x : Array (Nat × Operand)) : noCall (.buildSlice t n x) = true := by simp [noCall]
theorem ia_buildSlice (t : TypeId) (n : Nat) (x : Array (Nat × Operand)) : isA (.buildSlice t n x) = true := by simp [isA]
theorem qo_buildSlice (t : TypeId) (n : Nat) (x : Array (Nat × Operand)) : quietOp (.buildSlice t n x) = false := by simp [quietOp]
theorem mo_buildSlice (t : TypeId) (n : Nat) (x : Array (Nat × Operand)) : memOp (.buildSlice t n x) = false := by simp [memOp]
theorem nc_load (t : TypeId) (x : Operand) : noCall (.load t x) = true := by simp [noCall]
theorem ia_load (t : TypeId) (x : Operand) : isA (.load t x) = false := by simp [isA]
theorem qo_load (t : TypeId) (x : Operand) : quietOp (.load t x) = true := by simp [quietOp]
theorem mo_load (t : TypeId) (x : Operand) : memOp (.load t x) = true := by simp [memOp]
theorem nc_store (t : TypeId) (x y : Operand) : noCall (.store t x y) = true := by simp [noCall]
theorem ia_store (t : TypeId) (x y : Operand) : isA (.store t x y) = false := by simp [isA]
theorem qo_store (t : TypeId) (x y : Operand) : quietOp (.store t x y) = false := by simp [quietOp]
theorem mo_store (t : TypeId) (x y : Operand) : memOp (.store t x y) = false := by simp [memOp]
theorem nc_nilCheck (x : Operand) : noCall (.nilCheck x) = true := by simp [noCall]
theorem ia_nilCheck (x : Operand) : isA (.nilCheck x) = false := by simp [isA]
theorem qo_nilCheck (x : Operand) : quietOp (.nilCheck x) = true := by simp [quietOp]
theorem mo_nilCheck (x : Operand) : memOp (.nilCheck x) = false := by simp [memOp]
theorem nc_binOp (o : BinOp) (t : TypeId) (x y : Operand) (t2 : TypeId) : noCall (.binOp o t x y t2) = true := by simp [noCall]
theorem ia_binOp (o : BinOp) (t : TypeId) (x y : Operand) (t2 : TypeId) : isA (.binOp o t x y t2) = false := by simp [isA]
theorem qo_binOp (o : BinOp) (t : TypeId) (x y : Operand) (t2 : TypeId) : quietOp (.binOp o t x y t2) = true := by simp [quietOp]
theorem mo_binOp (o : BinOp) (t : TypeId) (x y : Operand) (t2 : TypeId) : memOp (.binOp o t x y t2) = false := by simp [memOp]
theorem nc_unOp (o : UnOp) (t : TypeId) (x : Operand) : noCall (.unOp o t x) = true := by simp [noCall]
theorem ia_unOp (o : UnOp) (t : TypeId) (x : Operand) : isA (.unOp o t x) = false := by simp [isA]
theorem qo_unOp (o : UnOp) (t : TypeId) (x : Operand) : quietOp (.unOp o t x) = true := by simp [quietOp]
theorem mo_unOp (o : UnOp) (t : TypeId) (x : Operand) : memOp (.unOp o t x) = false := by simp [memOp]
theorem nc_convert (s d : TypeId) (x : Operand) : noCall (.convert s d x) = true := by simp [noCall]
theorem ia_convert (s d : TypeId) (x : Operand) : isA (.convert s d x) = false := by simp [isA]
theorem qo_convert (s d : TypeId) (x : Operand) : quietOp (.convert s d x) = true := by simp [quietOp]
theorem mo_convert (s d : TypeId) (x : Operand) : memOp (.convert s d x) = true := by simp [memOp]
theorem nc_makeFunc (f : Fn) (a b : Array Operand) : noCall (.makeFunc f a b) = true := by simp [noCall]
theorem ia_makeFunc (f : Fn) (a b : Array Operand) : isA (.makeFunc f a b) = false := by simp [isA]
theorem qo_makeFunc (f : Fn) (a b : Array Operand) : quietOp (.makeFunc f a b) = true := by simp [quietOp]
theorem mo_makeFunc (f : Fn) (a b : Array Operand) : memOp (.makeFunc f a b) = false := by simp [memOp]
theorem nc_slice (t : TypeId) (x : Operand) (a b c : Option Operand) : noCall (.slice t x a b c) = true := by simp [noCall]
theorem ia_slice (t : TypeId) (x : Operand) (a b c : Option Operand) : isA (.slice t x a b c) = false := by simp [isA]
theorem qo_slice (t : TypeId) (x : Operand) (a b c : Option Operand) : quietOp (.slice t x a b c) = true := by simp [quietOp]
theorem mo_slice (t : TypeId) (x : Operand) (a b c : Option Operand) : memOp (.slice t x a b c) = true := by simp [memOp]
theorem nc_fieldAddr (t : TypeId) (x : Operand) (i : Nat) : noCall (.fieldAddr t x i) = true := by simp [noCall]
theorem ia_fieldAddr (t : TypeId) (x : Operand) (i : Nat) : isA (.fieldAddr t x i) = false := by simp [isA]
theorem qo_fieldAddr (t : TypeId) (x : Operand) (i : Nat) : quietOp (.fieldAddr t x i) = true := by simp [quietOp]
theorem mo_fieldAddr (t : TypeId) (x : Operand) (i : Nat) : memOp (.fieldAddr t x i) = false := by simp [memOp]
theorem nc_field (t : TypeId) (x : Operand) (i : Nat) : noCall (.field t x i) = true := by simp [noCall]
theorem ia_field (t : TypeId) (x : Operand) (i : Nat) : isA (.field t x i) = false := by simp [isA]
theorem qo_field (t : TypeId) (x : Operand) (i : Nat) : quietOp (.field t x i) = true := by simp [quietOp]
theorem mo_field (t : TypeId) (x : Operand) (i : Nat) : memOp (.field t x i) = false := by simp [memOp]
theorem nc_indexAddr (t : TypeId) (x y : Operand) : noCall (.indexAddr t x y) = true := by simp [noCall]
theorem ia_indexAddr (t : TypeId) (x y : Operand) : isA (.indexAddr t x y) = false := by simp [isA]
theorem qo_indexAddr (t : TypeId) (x y : Operand) : quietOp (.indexAddr t x y) = true := by simp [quietOp]
theorem mo_indexAddr (t : TypeId) (x y : Operand) : memOp (.indexAddr t x y) = true := by simp [memOp]
theorem nc_index (t : TypeId) (x y : Operand) : noCall (.index t x y) = true := by simp [noCall]
theorem ia_index (t : TypeId) (x y : Operand) : isA (.index t x y) = false := by simp [isA]
theorem qo_index (t : TypeId) (x y : Operand) : quietOp (.index t x y) = true := by simp [quietOp]
theorem mo_index (t : TypeId) (x y : Operand) : memOp (.index t x y) = false := by simp [memOp]
theorem nc_extract (x : Operand) (i : Nat) : noCall (.extract x i) = true := by simp [noCall]
theorem ia_extract (x : Operand) (i : Nat) : isA (.extract x i) = false := by simp [isA]
theorem qo_extract (x : Operand) (i : Nat) : quietOp (.extract x i) = true := by simp [quietOp]
theorem mo_extract (x : Operand) (i : Nat) : memOp (.extract x i) = false := by simp [memOp]
theorem nc_makeMap (t : TypeId) (x : Option Operand) : noCall (.makeMap t x) = true := by simp [noCall]
theorem ia_makeMap (t : TypeId) : isA (.makeMap t none) = true := by simp [isA]
theorem ia_makeMap1 (t : TypeId) (x : Operand) : isA (.makeMap t (some x)) = false := by simp [isA]
theorem qo_makeMap (t : TypeId) (x : Option Operand) : quietOp (.makeMap t x) = false := by simp [quietOp]
theorem mo_makeMap (t : TypeId) (x : Option Operand) : memOp (.makeMap t x) = false := by simp [memOp]
theorem nc_makeSlice (t : TypeId) (x y : Operand) : noCall (.makeSlice t x y) = true := by simp [noCall]
theorem ia_makeSlice (t : TypeId) (x y : Operand) : isA (.makeSlice t x y) = false := by simp [isA]
theorem qo_makeSlice (t : TypeId) (x y : Operand) : quietOp (.makeSlice t x y) = false := by simp [quietOp]
theorem mo_makeSlice (t : TypeId) (x y : Operand) : memOp (.makeSlice t x y) = false := by simp [memOp]
theorem nc_lookup (t : TypeId) (x y : Operand) (b : Bool) : noCall (.lookup t x y b) = true := by simp [noCall]
theorem ia_lookup (t : TypeId) (x y : Operand) (b : Bool) : isA (.lookup t x y b) = false := by simp [isA]
theorem qo_lookup (t : TypeId) (x y : Operand) (b : Bool) : quietOp (.lookup t x y b) = true := by simp [quietOp]
theorem mo_lookup (t : TypeId) (x y : Operand) (b : Bool) : memOp (.lookup t x y b) = true := by simp [memOp]
theorem nc_mapUpdate (t : TypeId) (x y z : Operand) : noCall (.mapUpdate t x y z) = true := by simp [noCall]
theorem ia_mapUpdate (t : TypeId) (x y z : Operand) : isA (.mapUpdate t x y z) = false := by simp [isA]
theorem qo_mapUpdate (t : TypeId) (x y z : Operand) : quietOp (.mapUpdate t x y z) = false := by simp [quietOp]
theorem mo_mapUpdate (t : TypeId) (x y z : Operand) : memOp (.mapUpdate t x y z) = false := by simp [memOp]
theorem nc_range (t : TypeId) (x : Operand) : noCall (.range t x) = true := by simp [noCall]
theorem ia_range (t : TypeId) (x : Operand) : isA (.range t x) = false := by simp [isA]
theorem qo_range (t : TypeId) (x : Operand) : quietOp (.range t x) = false := by simp [quietOp]
theorem mo_range (t : TypeId) (x : Operand) : memOp (.range t x) = false := by simp [memOp]
theorem nc_next (x : Operand) (b : Bool) : noCall (.next x b) = true := by simp [noCall]
theorem ia_next (x : Operand) (b : Bool) : isA (.next x b) = false := by simp [isA]
theorem qo_next (x : Operand) (b : Bool) : quietOp (.next x b) = false := by simp [quietOp]
theorem mo_next (x : Operand) (b : Bool) : memOp (.next x b) = false := by simp [memOp]
theorem ia_call (c : Call) : isA (.call c) = false := by simp [isA]
theorem mo_call (c : Call) : memOp (.call c) = false := by simp [memOp]
theorem qo_value (f : Operand) (a : Array Operand) (ts : Array TypeId) : quietOp (.call { callee := .value f, args := a, argTypes := ts }) = false := by simp [quietOp]
theorem qo_len (a : Array Operand) (ts : Array TypeId) : quietOp (.call { callee := .builtin .len, args := a, argTypes := ts }) = true := by simp [quietOp]
theorem qo_min (a : Array Operand) (ts : Array TypeId) : quietOp (.call { callee := .builtin .min, args := a, argTypes := ts }) = true := by simp [quietOp]
theorem qo_max (a : Array Operand) (ts : Array TypeId) : quietOp (.call { callee := .builtin .max, args := a, argTypes := ts }) = true := by simp [quietOp]
theorem qo_append (a : Array Operand) (ts : Array TypeId) : quietOp (.call { callee := .builtin .append, args := a, argTypes := ts }) = false := by simp [quietOp]
theorem qo_copy (a : Array Operand) (ts : Array TypeId) : quietOp (.call { callee := .builtin .copy, args := a, argTypes := ts }) = false := by simp [quietOp]
theorem qo_cap (a : Array Operand) (ts : Array TypeId) : quietOp (.call { callee := .builtin .cap, args := a, argTypes := ts }) = false := by simp [quietOp]
theorem qo_delete (a : Array Operand) (ts : Array TypeId) : quietOp (.call { callee := .builtin .delete, args := a, argTypes := ts }) = false := by simp [quietOp]
theorem qo_clear (a : Array Operand) (ts : Array TypeId) : quietOp (.call { callee := .builtin .clear, args := a, argTypes := ts }) = false := by simp [quietOp]
def callK (P : Program) (C : CallK) (v : V) (args : List V) (st : List Ob) (K : V → List Ob → Prop) : Prop := match v with
  | .fn (.func g) caps => if g = P.funcs.size then False else C g (args ++ caps) st K
  | .yl id => C P.funcs.size (.yl id :: args) st K
  | _ => False
theorem callK_fn {g : FuncId} {caps args : List V} {K : V → List Ob → Prop} (h : g ≠ P.funcs.size) : callK P C (.fn (.func g) caps) args st K = C g (args ++ caps) st K := by
  simp only [callK, if_neg h]
theorem callK_yl {id : Nat} {args : List V} {K : V → List Ob → Prop} : callK P C (.yl id) args st K = C P.funcs.size (.yl id :: args) st K := propext ⟨fun h => h, fun h => h⟩
theorem acall_value (f : Operand) (args : Array Operand) (ats : Array TypeId) (ty : TypeId) (ρ : Operand → V) (K : V → List Ob → Prop) : acall P C { callee := .value f, args := args, argTypes := ats } ty ρ st K = callK P C (ρ f) (args.toList.map ρ) st K := propext ⟨fun h => h, fun h => h⟩
def resM (r : Option (V × List Ob)) (q : Option V) (st : List Ob) (k : V → List Ob → Prop) : Prop := match r with
  | some (v, st') => k v st'
  | none => match q with
    | some v => k v st
    | none => False
theorem resM_some (v : V) (st' : List Ob) (q : Option V) (k : V → List Ob → Prop) : resM (some (v, st')) q st k = k v st' := propext ⟨fun h => h, fun h => h⟩
theorem resM_none (q : Option V) (k : V → List Ob → Prop) : resM none q st k = valK q fun v => k v st := by
  cases q <;> exact propext ⟨fun h => h, fun h => h⟩
theorem acall_builtin (bi : Builtin) (args : Array Operand) (ats : Array TypeId) (ty : TypeId) (ρ : Operand → V) (K : V → List Ob → Prop) : acall P C { callee := .builtin bi, args := args, argTypes := ats } ty ρ st K = resM (abuiltin P st bi ats (args.toList.map ρ)) (mlen P st bi ats (args.toList.map ρ)) st K := propext ⟨fun h => h, fun h => h⟩
def rfEnd (id : Nat) (K : ExK) (t : List V) : V → List Ob → Prop := fun _ st1 => match st1[id]? with
  | some (.loop s pend pl' t' ps' asg' body') => loopEnd s pend fun e => K e t (st1.set id (.loop .exhausted pend pl' t' ps' asg' body'))
  | _ => False
def rfK (P : Program) (C : CallK) (pl : Nat → Option (List PI)) (ps : Array Tmp) (asg body : Code) (K : ExK) (t : List V) (st : List Ob) (v : V) : Prop := match v with
  | .fn (.func f) caps => if f = P.funcs.size then False else C f (.yl st.length :: caps) (st ++ [.loop .ready none pl t ps.toList asg body]) (rfEnd st.length K t)
  | _ => False
theorem rfK_fn {pl : Nat → Option (List PI)} {ps : Array Tmp} {asg body : Code} {K : ExK} {t : List V} {f : FuncId} {caps : List V} (h : f ≠ P.funcs.size) : rfK P C pl ps asg body K t st (.fn (.func f) caps) = C f (.yl st.length :: caps) (st ++ [.loop .ready none pl t ps.toList asg body]) (rfEnd st.length K t) := by
  simp only [rfK, if_neg h]
theorem acode_rangeFunc (g : Operand) (ps : Array Tmp) (asg body : Code) : acode P C m pl (.rangeFunc g ps asg body) K t st = rfK P C pl ps asg body K t st (aev t g) := by
  rw [acode]
  rfl
theorem rfEnd_normal {id : Nat} {K : ExK} {t : List V} {v : V} {s : LoopState} {pl' : Nat → Option (List PI)} {t' : List V} {ps' : List Tmp} {a b : Code} (h : st[id]? = some (.loop s none pl' t' ps' a b)) (hs : s ≠ .busy) (hk : K .normal t (st.set id (.loop .exhausted none pl' t' ps' a b))) : rfEnd id K t v st := by
  unfold rfEnd
  simp only [h, loopEnd]
  cases s <;> first | exact absurd rfl hs | exact hk
theorem rfEnd_ret {id : Nat} {K : ExK} {t : List V} {v : V} {s : LoopState} {pl' : Nat → Option (List PI)} {t' : List V} {ps' : List Tmp} {a b : Code} (h : st[id]? = some (.loop s (some .ret) pl' t' ps' a b)) (hs : s ≠ .busy) (hk : K .ret t (st.set id (.loop .exhausted (some .ret) pl' t' ps' a b))) : rfEnd id K t v st := by
  unfold rfEnd
  simp only [h, loopEnd]
  cases s <;> first | exact absurd rfl hs | exact hk
def rdEnd (id : Nat) (K : V → List Ob → Prop) : ExK := fun e _ st2 => match st2[id]? with
  | some (.loop _ _ pl2 u2 ps2 asg2 body2) => match roundOut e with
    | some (s, p, b) => K (.sc (.bool b)) (st2.set id (.loop s p pl2 u2 ps2 asg2 body2))
    | none => False
  | _ => False
def rdMid (P : Program) (C : CallK) (m : Nat) (pl : Nat → Option (List PI)) (body : Code) (id : Nat) (K : V → List Ob → Prop) : ExK := fun e t1 st1 => e = .normal ∧ match st1[id]? with
  | some (.loop .ready pend1 pl1 u1 ps1 asg1 body1) => acode P C m pl body (rdEnd id K) t1 (st1.set id (.loop .busy pend1 pl1 u1 ps1 asg1 body1))
  | _ => False
theorem acallF_yl {pl : Plans} {n id : Nat} {args : List V} {K : V → List Ob → Prop} {p : Option Code} {plf : Nat → Option (List PI)} {t : List V} {ps : List Tmp} {asg body : Code} (h : st[id]? = some (.loop .ready p plf t ps asg body)) (hl : args.length = ps.length)
    (hk : acode P (acallF P pl n m) m plf asg (rdMid P (acallF P pl n m) m plf body id K) (aputs t ps args) st) : acallF P pl (n + 1) m P.funcs.size (.yl id :: args) st K := by
  simp only [acallF, Array.getElem?_eq_none (Nat.le_refl _), if_true]
  unfold around
  simp only [h]
  exact ⟨hl, hk⟩
theorem rdMid_ok {C : CallK} {plf : Nat → Option (List PI)} {id : Nat} {K : V → List Ob → Prop} {p : Option Code} {pl1 : Nat → Option (List PI)} {t u1 : List V} {ps1 : List Tmp} {body asg1 body1 : Code} (h : st[id]? = some (.loop .ready p pl1 u1 ps1 asg1 body1))
    (hk : acode P C m plf body (rdEnd id K) t (st.set id (.loop .busy p pl1 u1 ps1 asg1 body1))) : rdMid P C m plf body id K .normal t st := by
  unfold rdMid
  simp only [h]
  exact ⟨trivial, hk⟩
theorem rdEnd_normal {id : Nat} {K : V → List Ob → Prop} {t : List V} {s : LoopState} {p : Option Code} {pl1 : Nat → Option (List PI)} {u1 : List V} {ps1 : List Tmp} {asg1 body1 : Code} (h : st[id]? = some (.loop s p pl1 u1 ps1 asg1 body1))
    (hk : K (.sc (.bool true)) (st.set id (.loop .ready none pl1 u1 ps1 asg1 body1))) : rdEnd id K .normal t st := by
  unfold rdEnd
  simp only [h, roundOut]
  exact hk
theorem rdEnd_ret {id : Nat} {K : V → List Ob → Prop} {t : List V} {s : LoopState} {p : Option Code} {pl1 : Nat → Option (List PI)} {u1 : List V} {ps1 : List Tmp} {asg1 body1 : Code} (h : st[id]? = some (.loop s p pl1 u1 ps1 asg1 body1))
    (hk : K (.sc (.bool false)) (st.set id (.loop .done (some .ret) pl1 u1 ps1 asg1 body1))) : rdEnd id K .ret t st := by
  unfold rdEnd
  simp only [h, roundOut]
  exact hk
theorem acallF_of {pl : Plans} {n f : Nat} {fn : Func} {c : Code} (hf : P.funcs[f]? = some fn) (hp : prim pl f = none) (hb : fn.body = some c) {args : List V} {K : V → List Ob → Prop}
    (h : acode P (acallF P pl n m) m (pl f) c (funK P fn K) (args ++ List.replicate (fn.ntmps - args.length) (.sc undef)) st) : acallF P pl (n + 1) m f args st K := by
  simp only [acallF, hf, hp, hb]
  exact .inr h
end
end Go.M
