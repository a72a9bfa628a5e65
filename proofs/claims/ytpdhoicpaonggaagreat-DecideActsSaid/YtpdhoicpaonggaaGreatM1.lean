/- The plain machine: a deterministic reading of the program's code, over values that bear what slices hold; its soundness (in the texts behind this one) is what all claims of this seat lean on. -/
import Derived.WalkKit
import Derived.WalkSpells
import Derived.WalkLawsBesides
set_option linter.unusedVariables false
set_option linter.unusedSimpArgs false
namespace Go.M
open Go

inductive V where
  | sc (v : Value)
  | sl (id off len : Nat) (full : Bool) (g : Nat)
  | tsl (xs : List V) (len : Nat) (nil full : Bool)
  | ref (id off : Nat)
  | rref (id off e : Nat)
  | tref (xs : List V)
  | agg (xs : List V)
  | tup (xs : List V)
  | map (id : Nat)
  | fn (f : Fn) (caps : List V)
  | yl (id : Nat)
  | dead
  deriving Inhabited

structure PI where
  lo : Nat
  needs : List Nat
  stab : List Nat

inductive Ob where
  | cells (xs : List V)
  | row (e : TypeId) (xs : List V) (n lo : Nat) (fz : Bool)
  | map (es : List (Value × V))
  | held (es : List (Value × V))
  | loop (s : LoopState) (pend : Option Code) (pl : Nat → Option (List PI)) (t : List V) (ps : List Tmp) (asg body : Code)
  | gone
  deriving Inhabited

def pureRun {α : Type} (P : Program) : Sem α → Option α
  | .pure a => some a
  | .program k => pureRun P (k P)
  | .mark _ k => pureRun P k
  | _ => none

theorem pureRun_sound {α : Type} {P : Program} : ∀ {s : Sem α} {v : α}, pureRun P s = some v → ∀ w : World, s.run P w = .ok v w
  | .pure a, v, h, w => by simp [pureRun] at h; subst h; simp [Sem.run]
  | .program k, v, h, w => by simp only [pureRun] at h; simp only [Sem.run]; exact pureRun_sound h w
  | .mark m k, v, h, w => by simp only [pureRun] at h; simp only [Sem.run]; exact pureRun_sound h w
  | .load .., v, h, w => by simp [pureRun] at h
  | .store .., v, h, w => by simp [pureRun] at h
  | .new .., v, h, w => by simp [pureRun] at h
  | .shape .., v, h, w => by simp [pureRun] at h
  | .freeze .., v, h, w => by simp [pureRun] at h
  | .frozen .., v, h, w => by simp [pureRun] at h
  | .getObj .., v, h, w => by simp [pureRun] at h
  | .setObj .., v, h, w => by simp [pureRun] at h
  | .choose .., v, h, w => by simp [pureRun] at h
  | .sys .., v, h, w => by simp [pureRun] at h
  | .halt .., v, h, w => by simp [pureRun] at h

def ofVal : Value → V
  | .slice none 0 0 => .tsl [] 0 true true
  | v => .sc v

def unSc : V → Option Value
  | .sc v => some v
  | _ => none

def toVal : V → Option Value
  | .sc v => some v
  | .agg xs => (xs.mapM unSc).map fun us => .agg us.toArray
  | _ => none

def cellsV : V → List V
  | .agg xs => xs
  | v => [v]

def szOf (P : Program) (t : TypeId) : Option Nat := (P.info? t).map (·.size)
def bytesOf (P : Program) (t : TypeId) : Option Nat := (P.info? t).map (·.bytes)
def zeroOf (P : Program) (t : TypeId) : Option Value := (P.info? t).bind (·.zero)
def aggT (P : Program) (t : TypeId) : Option Bool := (P.underlying t).map fun | .struct _ | .array _ _ => true | _ => false

def aload (P : Program) (t : TypeId) (xs : List V) : Option V :=
  match aggT P t, szOf P t with
  | some true, some n => if n ≤ xs.length then some (.agg (xs.take n)) else none
  | some false, _ => xs[0]?
  | _, _ => none

def splice (xs ys : List V) (off : Nat) : List V := xs.take off ++ ys ++ xs.drop (off + ys.length)

def one : V → Bool
  | .sc v => v.oneCell'
  | .agg _ => false
  | .tup _ => false
  | .dead => false
  | _ => true

mutual
def closed : V → Bool
  | .sc _ => true
  | .tsl xs _ _ _ => closedL xs
  | _ => false
def closedL : List V → Bool
  | [] => true
  | x :: xs => closed x && closedL xs
end

def aev (t : List V) : Operand → V
  | .tmp i => t.getD i .dead
  | .const v => ofVal v
  | .global _ => .dead
  | .func f => .fn (.func f) []

def elems (P : Program) (st : List Ob) (e : TypeId) : V → Option (List V × Nat)
  | .tsl xs n _ _ => some (xs, n)
  | .sl id off len _ g => match st[id]?, szOf P e with
    | some (.row e' xs n lo _), some s => if e' = e ∧ lo ≤ g ∧ off + len ≤ g then some ((xs.drop (off * s)).take (len * s), len) else none
    | _, _ => none
  | .sc (.string b) => some (b.data.toList.map (fun c => .sc (.int .u8 c.toNat)), b.size)
  | _ => none

def asI : V → Option Int
  | .sc (.int _ i) => some i
  | _ => none

def abound (x : Option V) (d : Nat) (most : Nat) : Option Nat :=
  match x with
  | none => some d
  | some v => match asI v with
    | some i => if 0 ≤ i ∧ i ≤ most then some i.toNat else none
    | none => none

def aslice (P : Program) (st : List Ob) (t : TypeId) (x : V) (lo hi mx : Option V) : Option V :=
  match x with
  | .sc (.string b) => match P.underlying t, mx with
    | some .string, none => match abound hi b.size b.size with
      | some h => match abound lo 0 h with
        | some l => some (.sc (.string (b.extract l h)))
        | none => none
      | none => none
    | _, _ => none
  | .tsl xs n nil full => match P.underlying t with
    | some (.slice e) => match szOf P e with
      | some s => match abound hi n n with
        | some h => match abound lo 0 h, abound mx h n with
          | some l, some m => if m = h then
              some (if h = l then .tsl [] 0 nil (nil || mx.isSome || (full && h == n)) else .tsl ((xs.drop (l * s)).take ((h - l) * s)) (h - l) nil (mx.isSome || (full && h == n))) else none
          | _, _ => none
        | none => none
      | none => none
    | _ => none
  | .sl id off n full g => match P.underlying t with
    | some (.slice e) => match st[id]?, szOf P e with
      | some (.row e' _ _ _ _), some _ => if e' = e then (match abound hi n n with
        | some h => match abound lo 0 h, abound mx h n with
          | some l, some m => if m = h then
              (if h = l then some (.tsl [] 0 false (mx.isSome || (full && h == n))) else if full = true ∧ mx.isSome = false ∧ h ≠ n then none else some (.sl id (off + l) (h - l) (mx.isSome || (full && h == n)) g)) else none
          | _, _ => none
        | none => none) else none
      | _, _ => none
    | _ => none
  | _ => none

def places (P : Program) (t : TypeId) : Option (Nat → Option (Nat × Nat)) :=
  match P.underlying t with
  | some (.struct fs) => (fs.toList.mapM (fun f => (P.info? f.type).map fun i => (f.offset, i.size))).map fun pl => (pl.toArray[·]?)
  | some (.array _ e) => (szOf P e).map fun s => fun i => some (i * s, s)
  | _ => none

def afill (pl : Nat → Option (Nat × Nat)) (cells : List V) : List (Nat × V) → Option (List V)
  | [] => some cells
  | (i, v) :: rest => match pl i with
    | none => none
    | some (off, s) => if (cellsV v).length = s ∧ off + s ≤ cells.length ∧ (cellsV v).all one = true then afill pl (splice cells (cellsV v) off) rest else none

def fieldOf (P : Program) (t : TypeId) (i : Nat) : Option (Nat × Nat × TypeId) :=
  match P.underlying t with
  | some (.struct fs) => match fs[i]? with
    | some f => (szOf P f.type).map fun s => (f.offset, s, f.type)
    | none => none
  | _ => none

def sortV : V → Nat
  | .tsl .. => 1
  | .sl .. => 1
  | .ref .. => 2
  | .rref .. => 2
  | .tref .. => 2
  | .sc (.pointer none) => 2
  | .map _ => 3
  | .sc (.map none) => 3
  | .fn .. => 4
  | .yl _ => 4
  | .sc .nilFunc => 4
  | _ => 0

def sortT : TypeDesc → Nat
  | .slice _ => 1
  | .pointer _ => 2
  | .map .. => 3
  | .func .. => 4
  | _ => 5

def nilV : V → Bool
  | .tsl _ _ nil _ => nil
  | .sc _ => true
  | _ => false

def eqNil (P : Program) (t : TypeId) (x y : V) : Option Bool :=
  match P.underlying t with
  | some d => if sortV x = sortT d ∧ sortV y = sortT d ∧ (nilV x || nilV y) = true then some (nilV x && nilV y) else none
  | none => none

def abin (P : Program) (op : BinOp) (t : TypeId) (ox oy : Operand) (x y : V) : Option V :=
  match toVal x, toVal y with
  | some a, some b => (pureRun P (do eqGuard op t ox oy a b; binOp op t a b)).map .sc
  | _, _ => match op, eqNil P t x y with
    | .eql, some b => some (.sc (.bool b))
    | .neq, some b => some (.sc (.bool !b))
    | _, _ => none

def allByte : List V → Option (List UInt8)
  | [] => some []
  | .sc (.int .u8 n) :: xs => (allByte xs).map (UInt8.ofNat n.toNat :: ·)
  | _ => none

def aconvert (P : Program) (st : List Ob) (src dst : TypeId) (x : V) : Option V :=
  match toVal x with
  | some a => (pureRun P (convert src dst a)).map .sc
  | none => match P.underlying src, P.underlying dst with
    | some (.slice e), some .string => match P.underlying e with
      | some (.int .u8) => match elems P st e x with
        | some (xs, n) => if xs.length = n then (allByte xs).map fun l => .sc (.string ⟨l.toArray⟩) else none
        | none => none
      | _ => none
    | _, _ => none

def shut (P : Program) (st : List Ob) : V → Option (V × List Ob)
  | .sl id off len full g => match st[id]? with
    | some (.row e xs n lo _) => match szOf P e with
      | some s => if lo ≤ g then some (.tsl ((xs.drop (off * s)).take (len * s)) len false full, st.set id (.row e xs n lo true)) else none
      | none => none
    | _ => none
  | v => if closed v = true then some (v, st) else none
def shutL (P : Program) : List Ob → List V → Option (List V × List Ob)
  | st, [] => some ([], st)
  | st, x :: xs => match shut P st x with
    | some (y, st1) => match shutL P st1 xs with
      | some (ys, st2) => some (y :: ys, st2)
      | none => none
    | none => none

def keysOf (es : List (Value × V)) : List MapEntry := es.map fun e => { key := e.1, val := .bool false, born := 0 }
def afind (P : Program) (kt : TypeId) (k : Value) (es : List (Value × V)) : Option (Option Nat) :=
  (pureRun P (Instr.findKey kt k (keysOf es))).map fun r => r.map (·.1)
def akey (P : Program) (empty : Bool) (kt : TypeId) (k : Value) : Option Unit := pureRun P (Instr.checkKey empty 10000 kt k)
def azero (P : Program) (e : TypeId) : Option V := match zeroOf P e with
  | some (.agg cs) => some (.agg (cs.toList.map ofVal))
  | some z => if z.oneCell' then some (ofVal z) else none
  | none => none
def alookup (P : Program) (st : List Ob) (t : TypeId) (x k : V) (commaOk : Bool) : Option V :=
  match P.underlying t, toVal k with
  | some (.map kt e), some kv =>
    let ans : Option Nat → List (Value × V) → Option V := fun r es => match r with
      | some i => (es[i]?).map fun en => if commaOk then .tup [en.2, .sc (.bool true)] else en.2
      | none => (azero P e).map fun z => if commaOk then .tup [z, .sc (.bool false)] else z
    match x with
    | .map id => match st[id]? with
      | some (.map es) => match akey P es.isEmpty kt kv, afind P kt kv es with
        | some _, some r => ans r es
        | _, _ => none
      | _ => none
    | .sc (.map none) => match akey P true kt kv with
      | some _ => ans none []
      | none => none
    | _ => none
  | _, _ => none
def held : V → Bool
  | .agg xs => xs.all one
  | v => one v
def aupdate (P : Program) (st : List Ob) (t : TypeId) (x k v : V) : Option (List Ob) :=
  match P.underlying t, toVal k, x with
  | some (.map kt e), some kv, .map id => match st[id]? with
    | some (.map es) => if held v = true then (match akey P false kt kv, afind P kt kv es with
      | some _, some (some i) => match es[i]? with
        | some en => if Instr.sameBits 10000 en.1 kv = true then some (st.set id (.map (es.set i (kv, v)))) else none
        | none => none
      | some _, some none => some (st.set id (.map (es ++ [(kv, v)])))
      | _, _ => none) else none
    | _ => none
  | _, _, _ => none

def aval (P : Program) (ρ : Operand → V) (st : List Ob) (o : Oper) : Option (V × List Ob) :=
  match o.op with
  | .move x | .assign x => some (ρ x, st)
  | .pick c a b => match ρ c with
    | .sc (.bool t) => some (if t then ρ a else ρ b, st)
    | _ => none
  | .alloc t => match zeroOf P t with
    | some z => if z.cells.toList.all Value.oneCell' then some (.ref st.length 0, st ++ [.cells (z.cells.toList.map ofVal)]) else none
    | none => none
  | .box _ x => if (cellsV (ρ x)).all one then some (.ref st.length 0, st ++ [.cells (cellsV (ρ x))]) else none
  | .build t ps => match zeroOf P t, places P t with
    | some z, some pl => match afill pl (z.cells.toList.map ofVal) (ps.toList.map fun (i, x) => (i, ρ x)) with
      | some cs => some (.agg cs, st)
      | none => none
    | _, _ => none
  | .buildSlice t n ps => match P.underlying t with
    | some (.slice e) => match szOf P e, zeroOf P e with
      | some s, some z => if 0 < s ∧ n * s ≤ 16777216 ∧ z.cells.size = s then
          match afill (fun i => some (i * s, s)) ((List.range (n * s)).map fun i => ofVal (z.cells[i % z.cells.size]!)) (ps.toList.map fun (i, x) => (i, ρ x)) with
          | some cs => if closedL cs ∧ cs.all one then some (.sl st.length 0 n false n, st ++ [.row e cs n 0 false]) else match shutL P st cs with
            | some (cs', st1) => if cs'.all one then some (.sl st1.length 0 n false n, st1 ++ [.row e cs' n 0 false]) else none
            | none => none
          | none => none
        else none
      | _, _ => none
    | _ => none
  | .load t a => match ρ a with
    | .ref id off => match st[id]? with
      | some (.cells xs) => (aload P t (xs.drop off)).map (·, st)
      | _ => none
    | .rref id off e => match st[id]? with
      | some (.row ty xs _ lo _) => match szOf P t, szOf P ty with
        | some k, some s => if lo ≤ e ∧ 0 < k ∧ off + k ≤ e * s then (aload P t (xs.drop off)).map (·, st) else none
        | _, _ => none
      | _ => none
    | .tref xs => (aload P t xs).map (·, st)
    | _ => none
  | .store t a x => match ρ a with
    | .ref id off => match st[id]? with
      | some (.cells xs) => if some (cellsV (ρ x)).length = szOf P t ∧ off + (cellsV (ρ x)).length ≤ xs.length ∧ (cellsV (ρ x)).all one = true then some (.sc undef, st.set id (.cells (splice xs (cellsV (ρ x)) off))) else none
      | _ => none
    | .rref id off e => match st[id]? with
      | some (.row ty xs n _ fz) => if some (cellsV (ρ x)).length = szOf P t ∧ off + (cellsV (ρ x)).length ≤ xs.length ∧ e = n ∧ fz = false ∧ (cellsV (ρ x)).all one = true ∧ closedL (cellsV (ρ x)) = true then
          some (.sc undef, st.set id (.row ty (splice xs (cellsV (ρ x)) off) n n fz)) else none
      | _ => none
    | _ => none
  | .nilCheck x => match ρ x with
    | .ref id off => some (.ref id off, st)
    | .rref id off e => some (.rref id off e, st)
    | .tref xs => some (.tref xs, st)
    | .fn f cs => match f with
      | .func g => some (.fn (.func g) cs, st)
      | _ => none
    | _ => none
  | .binOp op t x y _ => (abin P op t x y (ρ x) (ρ y)).map (·, st)
  | .unOp op _ x => match toVal (ρ x) with
    | some a => (pureRun P (Op.unary op a)).map fun v => (.sc v, st)
    | none => none
  | .convert s d x => (aconvert P st s d (ρ x)).map (·, st)
  | .makeFunc f first caps => if first.size = 0 then some (.fn f (caps.toList.map ρ), st) else none
  | .slice t x lo hi mx => if mx.isSome = true ∧ hi.isSome = false then none else (aslice P st t (ρ x) (lo.map ρ) (hi.map ρ) (mx.map ρ)).map (·, st)
  | .fieldAddr t x i => match fieldOf P t i with
    | some (off, s, _) => if s = 0 then none else match ρ x with
      | .ref id o => some (.ref id (o + off), st)
      | .rref id o e => some (.rref id (o + off) e, st)
      | .tref xs => some (.tref (xs.drop off), st)
      | _ => none
    | none => none
  | .field t x i => match fieldOf P t i with
    | some (off, s, ft) => match ρ x with
      | .agg xs => (aload P ft (xs.drop off)).map (·, st)
      | _ => none
    | none => none
  | .indexAddr t x i => match asI (ρ i) with
    | some j => match P.underlying t, ρ x with
      | some (.array n e), .ref id o => match szOf P e with
        | some s => if 0 ≤ j ∧ j < n then some (.ref id (o + j.toNat * s), st) else none
        | none => none
      | some (.slice e), .sl id off len _ g => match st[id]?, szOf P e with
        | some (.row e' _ _ lo _), some s => if e' = e ∧ 0 ≤ j ∧ j < len ∧ lo ≤ g then some (.rref id ((off + j.toNat) * s) g, st) else none
        | _, _ => none
      | some (.slice e), .tsl xs len _ _ => match szOf P e with
        | some s => if 0 ≤ j ∧ j < len then some (.tref (xs.drop (j.toNat * s)), st) else none
        | none => none
      | _, _ => none
    | none => none
  | .index t x i => match asI (ρ i) with
    | some j => match P.underlying t, ρ x with
      | some (.array n e), .agg xs => match szOf P e with
        | some s => if 0 ≤ j ∧ j < n then (aload P e (xs.drop (j.toNat * s))).map (·, st) else none
        | none => none
      | some .string, .sc (.string b) => if 0 ≤ j then (b.data.toList[j.toNat]?).map fun c => (.sc (.int .u8 c.toNat), st) else none
      | _, _ => none
    | none => none
  | .extract x i => match ρ x with
    | .tup xs => (xs[i]?).map (·, st)
    | _ => none
  | .makeSlice t l c => match P.underlying t, asI (ρ l), asI (ρ c) with
    | some (.slice e), some n, some m => match szOf P e, bytesOf P e, zeroOf P e with
      | some s, some by_, some z => if n = m ∧ 0 ≤ n ∧ 0 < s ∧ z.cells.size = s ∧ n.toNat * by_ ≤ 140737488355328 ∧ n ≤ 9223372036854775807 ∧ closedL (z.cells.toList.map ofVal) = true ∧ z.cells.toList.all Value.oneCell' = true then
          some (.sl st.length 0 n.toNat false n.toNat, st ++ [.row e (List.replicate n.toNat (z.cells.toList.map ofVal)).flatten n.toNat 0 false]) else none
      | _, _, _ => none
    | _, _, _ => none
  | .makeMap t r => match r, P.underlying t with
    | none, _ => some (.map st.length, st ++ [.map []])
    | some x, some (.map _ _) => match asI (ρ x) with
      | some _ => some (.map st.length, st ++ [.map []])
      | none => none
    | _, _ => none
  | .lookup t x k c => (alookup P st t (ρ x) (ρ k) c).map (·, st)
  | .mapUpdate t x k v => (aupdate P st t (ρ x) (ρ k) (ρ v)).map (.sc undef, ·)
  | _ => none

def aappend (P : Program) (st : List Ob) (t : TypeId) (s x : V) : Option (V × List Ob) :=
  match P.underlying t with
  | some (.slice e) => match szOf P e, bytesOf P e, zeroOf P e, elems P st e x with
    | some sz, some by_, some z, some (ys, m) => if 0 < sz ∧ z.cells.size = sz ∧ closedL ys = true ∧ ys.length = m * sz then match s with
      | .tsl xs n nil full => if full = true ∧ xs.length = n * sz ∧ (n + m) * by_ ≤ 140737488355328 ∧ n + m ≤ 9223372036854775807 then
          if m = 0 then some (s, st) else some (.sl st.length 0 (n + m) false (n + m), st ++ [.row e (xs ++ ys) (n + m) 0 false]) else none
      | .sl id off len full g => match st[id]? with
        | some (.row e' xs n lo fz) => if e' = e ∧ (len + m) * by_ ≤ 140737488355328 ∧ len + m ≤ 9223372036854775807 ∧ lo ≤ g then
            if full = true then
              if m = 0 then some (s, st) else some (.sl st.length 0 (len + m) false (len + m), st ++ [.row e ((xs.drop (off * sz)).take (len * sz) ++ ys) (len + m) 0 false])
            else if off = 0 ∧ len = n ∧ fz = false then some (.sl id 0 (n + m) false (n + m), st.set id (.row e (xs ++ ys) (n + m) lo false)) else none
          else none
        | _ => none
      | _ => none else none
    | _, _, _, _ => none
  | _ => none

def abuiltin (P : Program) (st : List Ob) (b : Builtin) (ts : Array TypeId) (args : List V) : Option (V × List Ob) :=
  match b, ts.toList, args with
  | .append, [t, t'], [s, x] => match P.underlying t' with
    | some (.slice _) => aappend P st t s x
    | some .string => aappend P st t s x
    | _ => none
  | .len, [t], [x] => match P.underlying t, x with
    | some (.slice _), .sl _ _ n _ _ => some (.sc (.int .i64 n), st)
    | some (.slice _), .tsl _ n _ _ => some (.sc (.int .i64 n), st)
    | some .string, .sc (.string b) => some (.sc (.int .i64 b.size), st)
    | _, _ => none
  | .delete, [t, _], [x, k] => match P.underlying t, toVal k, x with
    | some (.map kt _), some kv, .map id => match st[id]? with
      | some (.map es) => match akey P es.isEmpty kt kv, afind P kt kv es with
        | some _, some (some i) => some (.tup [], st.set id (.map (es.eraseIdx i)))
        | some _, some none => some (.tup [], st)
        | _, _ => none
      | _ => none
    | some (.map kt _), some kv, .sc (.map none) => (akey P true kt kv).map fun _ => (.tup [], st)
    | _, _, _ => none
  | .clear, [t], [x] => match P.underlying t, x with
    | some (.map _ _), .map id => match st[id]? with
      | some (.map _) => some (.tup [], st.set id (.map []))
      | _ => none
    | _, _ => none
  | .min, ts, args => match args.mapM unSc with
    | some us => (pureRun P (Builtin.min_ ts.toArray (ts.headD 0) us.toArray)).map fun v => (.sc v, st)
    | none => none
  | .max, ts, args => match args.mapM unSc with
    | some us => (pureRun P (Builtin.max_ ts.toArray (ts.headD 0) us.toArray)).map fun v => (.sc v, st)
    | none => none
  | _, _, _ => none

def mlen (P : Program) (st : List Ob) (b : Builtin) (ts : Array TypeId) (args : List V) : Option V :=
  match b, ts.toList, args with
  | .len, [t], [x] => match P.underlying t, x with
    | some (.map _ _), .sc (.map none) => some (.sc (.int .i64 0))
    | some (.map _ _), .map id => match st[id]? with
      | some (.map es) => some (.sc (.int .i64 es.length))
      | _ => none
    | _, _ => none
  | _, _, _ => none

abbrev CallK := FuncId → List V → List Ob → (V → List Ob → Prop) → Prop

def acall (P : Program) (C : CallK) (c : Call) (ty : TypeId) (ρ : Operand → V) (st : List Ob) (K : V → List Ob → Prop) : Prop :=
  match c.callee with
  | .value f => match ρ f with
    | .fn (.func g) caps => if g = P.funcs.size then False else C g (c.args.toList.map ρ ++ caps) st K
    | .yl id => C P.funcs.size (.yl id :: c.args.toList.map ρ) st K
    | _ => False
  | .builtin b => match abuiltin P st b c.argTypes (c.args.toList.map ρ) with
    | some (v, st') => K v st'
    | none => match mlen P st b c.argTypes (c.args.toList.map ρ) with
      | some v => K v st
      | none => False
  | .invoke _ _ => False

def aop (P : Program) (C : CallK) (o : Oper) (t : List V) (st : List Ob) (K : V → List Ob → Prop) : Prop :=
  match o.op with
  | .call c => acall P C c o.type (aev t) st K
  | _ => match aval P (aev t) st o with
    | some (v, st') => K v st'
    | none => False

def aput (t : List V) : Option Tmp → V → List V
  | some d, v => t.set d v
  | none, _ => t

def awanted (ops : Array Oper) (t : List V) (o : Oper) : Option Bool :=
  match o.guard with
  | none => some true
  | some (j, want) => match (ops[j]?).bind (·.dst) with
    | some d => match t.getD d .dead with
      | .sc (.bool b) => some (b == want)
      | .sc (.tuple _) => some false
      | _ => none
    | none => none

def aops (P : Program) (C : CallK) (ops : Array Oper) : List Oper → List V → List Ob → (List V → List Ob → Prop) → Prop
  | [], t, st, K => K t st
  | o :: rest, t, st, K => match awanted ops t o with
    | some true => aop P C o t st fun v st' => aops P C ops rest (aput t o.dst v) st' K
    | some false => aops P C ops rest (aput t o.dst (.sc undef)) st K
    | none => False

abbrev ExK := Exit → List V → List Ob → Prop

def aloop (body : ExK → List V → List Ob → Prop) : Nat → ExK → List V → List Ob → Prop
  | 0, _, _, _ => False
  | m + 1, K, t, st => body (fun e t st => match e with
    | .normal => aloop body m K t st
    | e => K e t st) t st

def quietOp : Op → Bool
  | .move _ | .assign _ | .pick .. | .load .. | .nilCheck _ | .binOp .. | .unOp .. | .convert .. | .slice .. | .fieldAddr .. | .field .. | .indexAddr .. | .index .. | .extract .. | .build .. | .makeFunc .. | .lookup .. => true
  | .call { callee := .builtin .len, .. } => true
  | .call { callee := .builtin .min, .. } => true
  | .call { callee := .builtin .max, .. } => true
  | _ => false

def isA : Op → Bool
  | .alloc _ | .box .. | .buildSlice .. | .makeMap _ none => true
  | _ => false
def isE (o : Op) : Bool := !quietOp o && !isA o
def memOp : Op → Bool
  | .load .. | .convert .. | .slice .. | .indexAddr .. | .lookup .. => true
  | _ => false

def aobj (P : Program) (ρ : Operand → V) (id : Nat) (o : Oper) : Option (V × Ob) :=
  match o.op with
  | .alloc t => match zeroOf P t with
    | some z => if z.cells.toList.all Value.oneCell' then some (.ref id 0, .cells (z.cells.toList.map ofVal)) else none
    | none => none
  | .box _ x => if (cellsV (ρ x)).all one then some (.ref id 0, .cells (cellsV (ρ x))) else none
  | .makeMap _ none => some (.map id, .map [])
  | .buildSlice t n ps => match P.underlying t with
    | some (.slice e) => match szOf P e, zeroOf P e with
      | some s, some z => if 0 < s ∧ n * s ≤ 16777216 ∧ z.cells.size = s then
          match afill (fun i => some (i * s, s)) ((List.range (n * s)).map fun i => ofVal (z.cells[i % z.cells.size]!)) (ps.toList.map fun (i, x) => (i, ρ x)) with
          | some cs => if closedL cs ∧ cs.all one then some (.sl id 0 n false n, .row e cs n 0 false) else none
          | none => none
        else none
      | _, _ => none
    | _ => none
  | _ => none

def qop (P : Program) (o : Oper) (t : List V) (st : List Ob) : Option V :=
  match o.op with
  | .call c => match c.callee with
    | .builtin b => (abuiltin P st b c.argTypes (c.args.toList.map (aev t))).map (·.1)
    | _ => none
  | _ => (aval P (aev t) st o).map (·.1)

def patch (base : Nat) (xs : List (Option Ob)) : List Nat → List Ob → List Ob
  | [], st => st
  | a :: r, st => match st[base + a]?, xs[a]? with
    | some .gone, some (some X) => patch base xs r (st.set (base + a) X)
    | _, _ => patch base xs r st

def Grw (st st' : List Ob) : Prop := ∀ (i : Nat) (o : Ob), st[i]? = some o → st'[i]? = some o

def pendOK (P : Program) (ops : Array Oper) (plan : List PI) (base : Nat) (xs : List (Option Ob)) (t : List V) (st : List Ob) : List Nat → Prop
  | [] => True
  | q :: r => (match ops[q]?, plan[q]? with
    | some o, some p => quietOp o.op = true ∧ (awanted ops t o = some true → match o.dst with
      | some d => d < t.length ∧ qop P o t (patch base xs p.needs st) = some (t.getD d .dead)
      | none => False)
    | _, _ => False) ∧ pendOK P ops plan base xs t st r

def adraw (P : Program) (C : CallK) (ops : Array Oper) (plan : List PI) (base : Nat) : List Oper → List PI → List V → List Ob → List (List Ob) → List (Option Ob) → (List V → List Ob → Prop) → Prop
  | o :: r, p :: ps, t, st, hs, xs, K => match awanted ops t o with
    | some true => if isA o.op then (match aobj P (aev t) (base + xs.length) o with
        | some (v, X) => adraw P C ops plan base r ps (aput t o.dst v) st hs (xs ++ [some X]) K
        | none => False)
      else if quietOp o.op then (match qop P o t (patch base xs p.needs st) with
        | some v => (memOp o.op = true → ∀ s ∈ hs.drop p.lo, qop P o t (patch base xs p.needs s) = some v) ∧ adraw P C ops plan base r ps (aput t o.dst v) st hs xs K
        | none => False)
      else aop P C o t (patch base xs p.needs st) fun v st' => (Grw (patch base xs p.needs st) st' ∨ pendOK P ops plan base xs t st' p.stab) ∧ adraw P C ops plan base r ps (aput t o.dst v) st' (hs ++ [st]) xs K
    | some false => adraw P C ops plan base r ps (aput t o.dst (.sc undef)) st (if isE o.op then hs ++ [st] else hs) (if isA o.op then xs ++ [none] else xs) K
    | none => False
  | _, _, t, st, _, xs, K => K t (patch base xs (List.range xs.length) st)

def numA (ops : Array Oper) : Nat := (ops.toList.filter fun o => isA o.op).length

def loopEnd (s : LoopState) (pend : Option Code) (K : Exit → Prop) : Prop := match s, pend with
  | .busy, _ => False
  | _, none => K .normal
  | _, some .ret => K .ret
  | _, some (.exit j) => K (.exit j)
  | _, _ => False
def roundOut : Exit → Option (LoopState × Option Code × Bool)
  | .normal => some (.ready, none, true)
  | .ret => some (.done, some .ret, false)
  | .exit j => some (.done, some (.exit j), false)
  | _ => none
def acode (P : Program) (C : CallK) (m : Nat) (pl : Nat → Option (List PI)) : Code → ExK → List V → List Ob → Prop
  | .skip, K, t, st => K .normal t st
  | .region _ ops false, K, t, st => aops P C ops ops.toList t st fun t st => K .normal t st
  | .region id ops true, K, t, st => match pl id with
    | none => aops P C ops ops.toList t st fun t st => K .normal t st
    | some plan => adraw P C ops plan st.length ops.toList plan t (st ++ List.replicate (numA ops) .gone) [] [] fun t st => K .normal t st
  | .seq a b, K, t, st => acode P C m pl a (fun e t st => match e with
    | .normal => acode P C m pl b K t st
    | e => K e t st) t st
  | .cond c a b, K, t, st => match aev t c with
    | .sc (.bool x) => if x then acode P C m pl a K t st else acode P C m pl b K t st
    | _ => False
  | .block id b, K, t, st => acode P C m pl b (fun e t st => match e with
    | .exit j => if j = id then K .normal t st else K (.exit j) t st
    | e => K e t st) t st
  | .loop b, K, t, st => aloop (acode P C m pl b) m K t st
  | .exit id, K, t, st => K (.exit id) t st
  | .ret, K, t, st => K .ret t st
  | .rangeFunc g ps asg body, K, t, st => match aev t g with
    | .fn (.func f) caps => if f = P.funcs.size then False else C f (.yl st.length :: caps) (st ++ [.loop .ready none pl t ps.toList asg body]) fun _ st1 => match st1[st.length]? with
      | some (.loop s pend pl' t' ps' asg' body') => loopEnd s pend fun e => K e t (st1.set st.length (.loop .exhausted pend pl' t' ps' asg' body'))
      | _ => False
    | _ => False
  | _, _, _, _ => False

def aputs : List V → List Tmp → List V → List V
  | t, p :: ps, v :: vs => aputs (t.set p v) ps vs
  | t, _, _ => t
def around (P : Program) (C : CallK) (m : Nat) (id : Nat) (args : List V) (st : List Ob) (K : V → List Ob → Prop) : Prop :=
  match st[id]? with
  | some (.loop .ready _ pl t ps asg body) => args.length = ps.length ∧ acode P C m pl asg (fun e t1 st1 => e = .normal ∧ match st1[id]? with
    | some (.loop .ready pend1 pl1 u1 ps1 asg1 body1) => acode P C m pl body (fun e _ st2 => match st2[id]? with
      | some (.loop _ _ pl2 u2 ps2 asg2 body2) => match roundOut e with
        | some (s, p, b) => K (.sc (.bool b)) (st2.set id (.loop s p pl2 u2 ps2 asg2 body2))
        | none => False
      | _ => False) t1 (st1.set id (.loop .busy pend1 pl1 u1 ps1 asg1 body1))
    | _ => False) (aputs t ps args) st
  | _ => False

def directs (ops : Array Oper) (i : Nat) : List Nat := match ops[i]? with
  | some o => (o.after.toList.filter (Region.binds .any)).map (·.on)
  | none => []
def closures (ops : Array Oper) : List Oper → List (List Nat) → List (List Nat)
  | [], acc => acc
  | o :: r, acc => closures ops r (acc ++ [(((o.after.toList.filter (Region.binds .any)).map (·.on)).flatMap fun e => e :: acc.getD e []).eraseDups])
def idxs (f : Op → Bool) (ops : Array Oper) : List Nat := (List.range ops.size).filter fun i => match ops[i]? with
  | some o => f o.op
  | none => false
def tableOK (ops : Array Oper) (R : List (List Nat)) : Bool :=
  (List.range ops.size).all fun i => (directs ops i).all (fun e => decide (e < i)) && (R.getD i []).all fun j => (directs ops i).any fun e => e == j || (R.getD e []).contains j
def stabOK (ops : Array Oper) (i q : Nat) (oq : Oper) : Bool :=
  oq.dst.isSome && (List.range i).all fun j => decide (j < q) || match ops[j]? with
    | some oj => match oj.dst with
      | some d => !(oq.looksAt ops).contains d && (j == q || oq.dst != some d)
      | none => true
    | none => true
def itemOK (ops : Array Oper) (plan : List PI) (R : List (List Nat)) (i : Nat) : Bool :=
  match ops[i]?, plan[i]? with
  | some o, some p =>
    (p.needs.all fun a => match (idxs isA ops)[a]? with
      | some j => (R.getD i []).contains j
      | none => false) &&
    (p.lo == 0 || match (idxs isE ops)[p.lo - 1]? with
      | some j => (R.getD i []).contains j
      | none => false) &&
    (!isE o.op || (
      ((idxs isE ops).all fun j => decide (i ≤ j) || (R.getD i []).contains j) &&
      (List.range i).all fun q => match ops[q]? with
        | some oq => !(quietOp oq.op && memOp oq.op) || (R.getD i []).contains q || (p.stab.contains q && stabOK ops i q oq)
        | none => true))
  | _, _ => false
def planOK (ops : Array Oper) (plan : List PI) : Bool :=
  plan.length == ops.size && Region.noSelect ops && tableOK ops (closures ops ops.toList []) &&
  ((List.range ops.size).all fun i => (List.range ops.size).all fun j => !decide (i < j) || (directs ops j).contains i || match ops[i]?, ops[j]? with
    | some x, some y => x.apart ops y
    | _, _ => false) &&
  (List.range ops.size).all fun i => itemOK ops plan (closures ops ops.toList []) i
def codeOK (pl : Nat → Option (List PI)) (rd : Bool) : Code → Bool
  | .region id ops true => match pl id with
    | none => !rd && (ops.all fun o => quietOp o.op) && Region.lexB .any ops
    | some plan => planOK ops plan
  | .seq a b => codeOK pl rd a && codeOK pl rd b
  | .cond _ a b => codeOK pl rd a && codeOK pl rd b
  | .block _ b => codeOK pl rd b
  | .loop b => codeOK pl rd b
  | .rangeFunc _ _ a b => codeOK pl true a && codeOK pl true b
  | _ => true
abbrev Plans := Nat → Nat → Option (List PI)
def plansOK (P : Program) (pl : Plans) : Bool := (List.range P.funcs.size).all fun f => match P.funcs[f]? with
  | some fn => match fn.body with
    | some c => codeOK (pl f) false c
    | none => true
  | none => true

def ares1 (P : Program) (t : List V) (st : List Ob) : ResultVar → Option V
  | .tmp i => some (t.getD i .dead)
  | .cell a ty => match t.getD a .dead with
    | .ref id off => match st[id]? with
      | some (.cells xs) => aload P ty (xs.drop off)
      | _ => none
    | _ => none

def ares (P : Program) (fn : Func) (t : List V) (st : List Ob) : Option V :=
  match fn.results.toList with
  | [r] => ares1 P t st r
  | rs => (rs.mapM (ares1 P t st)).map .tup

def keysI : List (Value × V) → Option (List Int)
  | [] => some []
  | (.int .i64 k, _) :: l => (keysI l).map (k :: ·)
  | _ => none
def prim (pl : Plans) (f : Nat) : Option (List Nat × Nat) := match pl f 1000003 with
  | some [p] => some (p.needs, p.lo)
  | _ => none
def sortedK (gs : List Nat) (e : Nat) (args : List V) (st : List Ob) : Option (V × List Ob) := match args with
  | [.fn (.func g') [.ref c 0]] => if g' ∈ gs then (match st[c]? with
    | some (.cells [.map a]) => match st[a]? with
      | some (.map es) => match keysI es with
        | some ks => if ks.Nodup ∧ ks.length ≤ 1000000 ∧ (ks.all fun k => decide (-9223372036854775808 ≤ k ∧ k < 9223372036854775808)) = true then
            (if ks = [] then some (.tsl [] 0 true true, st) else some (.sl st.length 0 ks.length false ks.length, st ++ [.row e ((ks.mergeSort fun x y => decide (x ≤ y)).map fun k => .sc (.int .i64 k)) ks.length 0 false])) else none
        | none => none
      | _ => none
    | _ => none) else none
  | [.map a] => if gs = [] then (match st[a]? with
    | some (.map es) => some (.map st.length, st ++ [.map es])
    | _ => none) else none
  | _ => none
end Go.M
