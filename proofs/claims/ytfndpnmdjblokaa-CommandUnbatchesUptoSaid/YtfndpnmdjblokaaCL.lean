/- Chapter 24: the plain law: many commands that are read. Chapter 24: rows that are shut; lists of commands that grow. Chapter 24: Unbatch, by the program. Chapter 24: Batch, by the document. Chapter 24: Unbatch, by the document. CommandUnbatches, the law. -/
import Derived.Test.YtfndpnmdjblokaaCD
import Derived.Test.YtfndpnmdjblokaaW14
set_option linter.unusedVariables false
set_option linter.unusedSimpArgs false
set_option maxRecDepth 10000
namespace Go.Proofs.Ytfndpnmdjblokaa
open Go Go.M Go.RowKit
attribute [local congr] acallF_cong aloop_cong bcase_cong resK_cong valK_cong wantK_cong callK_cong xputK_cong qputK_cong
attribute [local irreducible] seqK blockK loopK nextK bcase resK valK wantK funK putK dputK xputK qputK callK aops aop acode adraw aloop acallF acall invK
/-! ### Chapter 24: the plain law: many commands that are read. -/
/-- Bytes with their length ahead. -/
def encI (x : List Int) : List Int := uvb x.length ++ x
/-- So many byte strings that are read. -/
def its (M : Int) : Nat → RS → List (List Int) × RS
  | 0, r => ([], r)
  | k + 1, r => ((r.by M).1 :: (its M k (r.by M).2).1, (its M k (r.by M).2).2)
def Okb (b : List Int) : Prop := ∃ c, codes c b
theorem okb_ne : ¬ Okb [] := by
  rintro ⟨c, _, h⟩
  have := congrArg List.length h
  simp only [cmdNums, nb, List.flatMap_append, List.flatMap_cons, List.length_append, List.length_nil] at this
  have h2 : (uvb c.kind.toNat).length ≠ 0 := fun e => uvb_ne _ (List.eq_nil_of_length_eq_zero e)
  omega
theorem by_canon {r : RS} {M : Int} (ho : r.ok) (h : (r.by M).2.e = 0) : r.e = 0 ∧ r.b.drop r.at_ = encI (r.by M).1 ++ (r.by M).2.b.drop (r.by M).2.at_ := by
  unfold RS.by at h ⊢
  by_cases he : r.e = 0
  · rw [if_pos he] at h ⊢
    by_cases hk : (pk (r.b.drop r.at_) 0 0).2 = 0
    · rw [if_pos hk] at h; exact absurd h (by simp)
    · rw [if_neg hk] at h ⊢
      by_cases hb : ((pk (r.b.drop r.at_) 0 0).1 : Int) > M ∨ M < 0
      · rw [if_pos hb] at h; exact absurd h (by simp)
      · rw [if_neg hb] at h ⊢
        by_cases hl : (pk (r.b.drop r.at_) 0 0).1 + r.at_ + (pk (r.b.drop r.at_) 0 0).2 > r.b.length
        · rw [if_pos hl] at h; exact absurd h (by simp)
        · rw [if_neg hl]
          obtain ⟨z, j, h1, h2, h3, _⟩ := pk_canon (r.b.drop r.at_) 0 0 (fun c hc => ho.b c (List.drop_subset _ _ hc)) hk
          refine ⟨he, ?_⟩
          have e1 : (pk (r.b.drop r.at_) 0 0).1 = z := by rw [h1]; simp
          have e2 : (pk (r.b.drop r.at_) 0 0).2 = j := by rw [h2]; simp
          rw [e1, e2] at hl ⊢
          simp only
          have hlen : ((r.b.drop (r.at_ + j)).take z).length = z := by rw [List.length_take, List.length_drop]; omega
          have a1 : r.b.drop (r.at_ + j + z) = ((r.b.drop r.at_).drop j).drop z := by rw [List.drop_drop, List.drop_drop, Nat.add_assoc]
          have a2 : r.b.drop (r.at_ + j) = (r.b.drop r.at_).drop j := by rw [List.drop_drop]
          rw [encI, hlen, ← h3, List.append_assoc, a1, a2, List.take_append_drop, List.take_append_drop]
  · rw [if_neg he] at h; exact absurd h he
theorem by_e {r : RS} {M : Int} (h : (r.by M).2.e ≠ 0) : (r.by M).1 = [] := by
  unfold RS.by at h ⊢
  repeat' split
  all_goals first | rfl | skip
  all_goals (exfalso; simp_all)
theorem its_ok (M : Int) : ∀ (k : Nat) {r : RS}, r.ok → (its M k r).2.ok
  | 0, _, h => h
  | k + 1, r, h => its_ok M k (RS.by_ok h _)
theorem its_b (M : Int) : ∀ (k : Nat) (r : RS), (its M k r).2.b = r.b
  | 0, _ => rfl
  | k + 1, r => (its_b M k _).trans (RS.by_b r M)
theorem its_len (M : Int) : ∀ (k : Nat) (r : RS), (its M k r).1.length = k
  | 0, _ => rfl
  | k + 1, r => by simp [its, its_len M k]
theorem its_canon (M : Int) : ∀ (k : Nat) {r : RS}, r.ok → (its M k r).2.e = 0 → r.e = 0 ∧ r.b.drop r.at_ = (its M k r).1.flatMap encI ++ (its M k r).2.b.drop (its M k r).2.at_
  | 0, r, _, h => ⟨h, by simp [its]⟩
  | k + 1, r, ho, h => by
    simp only [its] at h ⊢
    obtain ⟨h1, h2⟩ := its_canon M k (RS.by_ok ho M) h
    obtain ⟨h3, h4⟩ := by_canon ho h1
    refine ⟨h3, ?_⟩
    rw [h4, h2]
    simp
theorem its_e (M : Int) : ∀ (k : Nat) {r : RS}, (its M k r).2.e ≠ 0 → (k = 0 ∧ r.e ≠ 0) ∨ [] ∈ (its M k r).1
  | 0, r, h => .inl ⟨rfl, h⟩
  | k + 1, r, h => by
    simp only [its] at h ⊢
    right
    rcases its_e M k h with ⟨_, h1⟩ | h1
    · rw [by_e h1]; simp
    · simp [h1]
/-- So many, and these, and then it ends here. -/
def ubN (b : List Int) : Nat := ((⟨b, 0, 0⟩ : RS).nb 4096).1.toNat
def ubR (b : List Int) : RS := ((⟨b, 0, 0⟩ : RS).nb 4096).2
def ubL (b : List Int) : List (List Int) := (its b.length (ubN b) (ubR b)).1
def ubE (b : List Int) : RS := (its b.length (ubN b) (ubR b)).2
def ubB (b : List Int) : List Int := uvb (ubN b) ++ (ubL b).flatMap encI
theorem ub_ref {b : List Int} (ho : RS.ok ⟨b, 0, 0⟩) (h : ∀ x ∈ ubL b, Okb x) : ubB b = b ↔ (ubE b).dn = 0 := by
  have o1 : (ubR b).ok := RS.nb_ok ho 4096
  constructor
  · intro hb
    by_cases he : (ubE b).e = 0
    · obtain ⟨h1, h2⟩ := its_canon b.length (ubN b) o1 he
      obtain ⟨_, _, _, h4⟩ := nb_canon (M := 4096) ho h1
      have h5 : b = nb [ubN b] ++ (ubR b).b.drop (ubR b).at_ := h4
      have h6 : nb [ubN b] ++ (ubR b).b.drop (ubR b).at_ = ubB b ++ (ubE b).b.drop (ubE b).at_ := by
        rw [h2]
        unfold ubB ubL ubE
        rw [show nb [ubN b] = uvb (ubN b) by simp [nb], List.append_assoc]
      have e0 : b = ubB b ++ (ubE b).b.drop (ubE b).at_ := h5.trans h6
      have e1 : (ubE b).b.drop (ubE b).at_ = [] := by
        have := congrArg List.length e0
        rw [List.length_append, hb] at this
        exact List.eq_nil_of_length_eq_zero (by omega)
      exact pos_done ⟨he, e1⟩
    · exfalso
      rcases its_e b.length (ubN b) he with ⟨h1, h2⟩ | h1
      · have hL : ubL b = [] := by unfold ubL; rw [h1]; rfl
        rw [ubB, hL, h1, List.flatMap_nil, List.append_nil] at hb
        obtain ⟨_, h4⟩ := nb_back (M := 4096) (r := ⟨b, 0, 0⟩) (x := 0) (l := []) ⟨rfl, by simp [hb]⟩ (by omega) (by omega)
        exact h2 h4.1
      · exact okb_ne (h _ h1)
  · intro hd
    obtain ⟨he, hr⟩ := done_pos hd
    obtain ⟨h1, h2⟩ := its_canon b.length (ubN b) o1 he
    obtain ⟨_, _, _, h4⟩ := nb_canon (M := 4096) ho h1
    have h5 : b = nb [ubN b] ++ (ubR b).b.drop (ubR b).at_ := h4
    rw [h2, show (its b.length (ubN b) (ubR b)).2 = ubE b from rfl, hr, List.append_nil] at h5
    refine Eq.trans ?_ h5.symm
    unfold ubB ubL
    rw [show nb [ubN b] = uvb (ubN b) by simp [nb]]
theorem ubN_le (b : List Int) : ubN b ≤ 4096 := by
  have : ∀ r : RS, (r.nb 4096).1 ≤ 4096 := fun r => by
    unfold RS.nb
    repeat' split
    all_goals first | (simp; done) | (simp only; omega)
  have := this ⟨b, 0, 0⟩
  unfold ubN
  omega
theorem ubN_nb (b : List Int) : ((⟨b, 0, 0⟩ : RS).nb 4096).1 = (ubN b : Int) := by
  unfold ubN
  have : 0 ≤ ((⟨b, 0, 0⟩ : RS).nb 4096).1 := by
    unfold RS.nb
    repeat' split
    all_goals simp
  omega
/-! ### Chapter 24: rows that are shut; lists of commands that grow. -/
/-- Nothing has turned, but that rows of ints were shut. -/
def FG (st s : List Ob) : Prop := ∀ (j : Nat) (o : Ob), st[j]? = some o → s[j]? = some o ∨ ∃ xs n lo fz, o = .row 3 xs n lo fz ∧ s[j]? = some (.row 3 xs n lo true)
section
variable {st s s' : List Ob}
theorem FG.refl (st : List Ob) : FG st st := fun j o h => .inl h
theorem Grw.fg (h : Grw st s) : FG st s := fun j o k => .inl (h j o k)
theorem FG.trans (h : FG st s) (k : FG s s') : FG st s' := fun j o hj => by
  rcases h j o hj with h1 | ⟨xs, n, lo, fz, rfl, h1⟩
  · exact k j o h1
  · rcases k j _ h1 with h2 | ⟨xs', n', lo', fz', h2, h3⟩
    · exact .inr ⟨xs, n, lo, fz, rfl, h2⟩
    · cases h2; exact .inr ⟨xs, n, lo, fz, rfl, h3⟩
theorem FG.gro (h : FG st s) : Gro st s := fun j o hj => by
  rcases h j o hj with h1 | ⟨xs, n, lo, fz, rfl, h1⟩
  · exact .inl h1
  · exact .inr ⟨_, xs, n, lo, fz, [], n, true, rfl, by rw [List.append_nil]; exact h1⟩
theorem FG.cells (h : FG st s) {j : Nat} {xs : List V} (hj : st[j]? = some (.cells xs)) : s[j]? = some (.cells xs) := by
  rcases h j _ hj with h1 | ⟨_, _, _, _, h2, _⟩
  · exact h1
  · cases h2
theorem FG.row (h : FG st s) {j : Nat} {e : TypeId} {xs : List V} {n lo : Nat} {fz : Bool} (he : e ≠ 3) (hj : st[j]? = some (.row e xs n lo fz)) : s[j]? = some (.row e xs n lo fz) := by
  rcases h j _ hj with h1 | ⟨_, _, _, _, h2, _⟩
  · exact h1
  · cases h2; exact absurd rfl he
theorem FG.le (h : FG st s) : st.length ≤ s.length := by
  cases st with
  | nil => simp
  | cons a l =>
    have hl : (a :: l)[l.length]? = some ((a :: l)[l.length]'(by simp)) := List.getElem?_eq_getElem (by simp)
    rcases h _ _ hl with h1 | ⟨_, _, _, _, _, h1⟩ <;> · have := (List.getElem?_eq_some_iff.1 h1).1; simp; omega
theorem FG.shut {id : Nat} {xs : List V} {n lo : Nat} {fz : Bool} (h : st[id]? = some (.row 3 xs n lo fz)) : FG st (st.set id (.row 3 xs n lo true)) := fun j o hj => by
  by_cases hi : id = j
  · subst hi
    rw [h] at hj; cases hj
    exact .inr ⟨xs, n, lo, fz, rfl, by rw [List.getElem?_set_self (List.getElem?_eq_some_iff.1 h).1]⟩
  · exact .inl (by rw [List.getElem?_set_ne hi]; exact hj)
/-- .. and one variable. -/
theorem FG.trn {id : Nat} {c : List V} (h : FG st s) (hi : st.length ≤ id) (k : Trn s id c s') : FG st s' := fun j o hj => by
  have hl := (List.getElem?_eq_some_iff.1 hj).1
  rcases h j o hj with h1 | ⟨xs, n, lo, fz, rfl, h1⟩
  · exact .inl (k.2 _ _ (by omega) h1)
  · exact .inr ⟨xs, n, lo, fz, rfl, k.2 _ _ (by omega) h1⟩
theorem take_grw {N : Nat} (h : Grw (s.take N) s') (hN : N ≤ s.length) : s'.take N = s.take N := by
  apply List.ext_getElem?
  intro i
  by_cases hi : i < N
  · have hs : i < s.length := by omega
    have h1 : (s.take N)[i]? = some s[i] := by rw [List.getElem?_take, if_pos hi]; exact List.getElem?_eq_getElem hs
    rw [h1, List.getElem?_take, if_pos hi]
    exact h _ _ h1
  · rw [List.getElem?_take, if_neg hi, List.getElem?_take, if_neg hi]
theorem Buf.move {P : Program} {e : TypeId} {w : V} {ys : List V} {n N : Nat} (h : Buf P e (s.take N) s w ys n) (hN : N ≤ s.length) (hN' : N ≤ s'.length) (hrd : Rd P s e w ys n → Rd P s' e w ys n) (hrow : ∀ (j : Nat) (xs : List V) (n lo : Nat) (fz : Bool), s[j]? = some (.row e xs n lo fz) → s'[j]? = some (.row e xs n lo fz)) : Buf P e (s'.take N) s' w ys n := by
  refine ⟨fun j o hj => ?_, ?_⟩
  · rw [List.getElem?_take] at hj
    split at hj
    · exact hj
    · cases hj
  · rcases h.2 with ⟨h1, h2⟩ | ⟨id, lo, sz, k1, k2, k3, k4⟩
    · exact .inl ⟨hrd h1, h2⟩
    · refine .inr ⟨id, lo, sz, ?_, k2, hrow _ _ _ _ _ k3, k4⟩
      rw [List.length_take] at k1 ⊢
      omega
end
/-- A command that is to lie in a row. -/
theorem absZ_cmd {st s1 : List Ob} {c : Cmd} {w : V} (ho : one c.uv = true) (hcv : cellsV c.uv = [c.uv]) (hs : shut Try.prog st c.uv = some (w, s1)) (hw : one w = true) :
    absZ Try.prog st 73 1 [(0, .agg c.v)] = some (59, ({ c with uv := w } : Cmd).v, s1) := by
  have h1 : ∀ (k : IntKind) (i : Int), one (.sc (.int k i)) = true := fun _ _ => rfl
  have hf : fitL 12 [V.agg c.v] = true := by simp [fitL, Cmd.v, cellsV, h1, ho]
  have hsc : ∀ (st : List Ob) (v : Value), shut Try.prog st (.sc v) = some (.sc v, st) := fun st v => rfl
  simp only [absZ, Try.underlying73, sz59, ze59]
  rw [if_pos ⟨by omega, by omega, by rfl⟩]
  have := afill_seq (s := 12) [V.agg c.v] 0 [] ((List.range (1 * 12)).map fun i => ofVal ((Value.agg #[.int .i64 0, .int .i64 0, .int .i64 0, .int .i64 0, .slice none 0 0, .int .i64 0, .int .i64 0, .int .i64 0, .int .i64 0, .int .i64 0, .int .i64 0, .int .i64 0]).cells[i % (Value.agg #[.int .i64 0, .int .i64 0, .int .i64 0, .int .i64 0, .slice none 0 0, .int .i64 0, .int .i64 0, .int .i64 0, .int .i64 0, .int .i64 0, .int .i64 0, .int .i64 0]).cells.size]!)) rfl (by simp) hf
  simp only [List.nil_append, seqPs] at this
  rw [this]
  simp only [flatL, cellsV, List.append_nil, Cmd.v, shutL, hsc, hs]
  rw [if_pos (by simp [h1, hw])]
theorem cmd_put {st : List Ob} {c : Cmd} (hc : c.at_ st) : (closed c.uv = true ∧ ∀ s, c.at_ s) ∨ (closed c.uv = false ∧ ∃ w s1, absZ Try.prog st 73 1 [(0, .agg c.v)] = some (59, ({ c with uv := w } : Cmd).v, s1) ∧ closed w = true ∧ one w = true ∧ (∀ s, ({ c with uv := w } : Cmd).at_ s) ∧ FG st s1 ∧ s1.length = st.length) := by
  have hsz := hc.rd.2.2 1 sz3
  rcases hc.rd.cases with ⟨nil, full, h⟩ | ⟨id, off, full, ys, m, lo, fz, s', h, r1, r2, r3, hxs⟩
  · left
    refine ⟨by rw [h]; exact closed_is _, fun s => ⟨?_, hc.one, hc.cv, hc.len⟩⟩
    have := hc.rd
    rw [h] at this ⊢
    exact ⟨rfl, this.2⟩
  · right
    refine ⟨by rw [h]; rfl, .tsl ((ys.drop (off * s')).take (c.units.length * s')) c.units.length false full, st.set id (.row 3 ys m lo true), absZ_cmd hc.one hc.cv ?_ rfl, ?_, rfl, fun s => ⟨?_, rfl, rfl, hc.len⟩, FG.shut r1, by simp⟩
    · rw [h]
      simp only [shut, r1, r2]
      rw [if_pos r3]
    · rw [← hxs]; exact closed_is _
    · simp only
      rw [← hxs]
      exact tsl_rd sz3 hsz (fun hh => by cases hh)
/-- A command more. -/
theorem appC {S s : List Ob} {w : V} {L : List Cmd} {c : Cmd} (h : Buf Try.prog 59 S s w (L.flatMap Cmd.v) L.length) (hc : closed c.uv = true) (hL : L.length ≤ 100000) :
    ∃ w' s', aappend Try.prog (s ++ [.row 59 c.v 1 0 false]) 73 w (.sl s.length 0 1 false) = some (w', s') ∧ Buf Try.prog 59 S s' w' ((L ++ [c]).flatMap Cmd.v) (L ++ [c]).length ∧ Gro s s' := by
  have hr : Rd Try.prog (s ++ [.row 59 c.v 1 0 false]) 59 (.sl s.length 0 1 false) c.v 1 := by
    refine ⟨?_, ⟨fun b hb => (by cases hb), fun hb => (by cases hb)⟩, fun k hk => ?_⟩
    · have g : (s ++ [Ob.row 59 c.v 1 0 false])[s.length]? = some (.row 59 c.v 1 0 false) := get_new0 _ _
      simp only [elems, g, sz59]
      rw [if_pos ⟨trivial, by omega⟩]
      rfl
    · rw [sz59] at hk; cases hk; rfl
  have hcl : closedL c.v = true := by simp [Cmd.v, closedL, closed, hc]
  obtain ⟨w', s', h1, h2, h3⟩ := (h.grw (.push s [.row 59 c.v 1 0 false])).append' Try.underlying73 sz59 by59 ze59 (by omega) rfl hr.1 hcl rfl (by omega) (by omega)
  refine ⟨w', s', h1, ?_, (Grw.push _ _).gro.trans h3⟩
  simpa using h2
def cods : List Cmd → List (List Int) → Prop
  | [], [] => True
  | c :: l, b :: bl => codes c b ∧ cods l bl
  | _, _ => False
theorem cods_app : ∀ {l l' : List Cmd} {b b' : List (List Int)}, cods l b → cods l' b' → cods (l ++ l') (b ++ b')
  | [], _, [], _, _, h => h
  | _ :: _, _, _ :: _, _, ⟨h1, h2⟩, h => ⟨h1, cods_app h2 h⟩
  | [], _, _ :: _, _, h, _ => h.elim
  | _ :: _, _, [], _, h, _ => h.elim
theorem cods_len : ∀ {l : List Cmd} {b : List (List Int)}, cods l b → l.length = b.length
  | [], [], _ => rfl
  | _ :: _, _ :: _, ⟨_, h2⟩ => by simp [cods_len h2]
  | [], _ :: _, h => h.elim
  | _ :: _, [], h => h.elim
theorem cods_ok : ∀ {l : List Cmd} {b : List (List Int)}, cods l b → ∀ x ∈ b, Okb x
  | [], [], _, x, hx => by simp at hx
  | c :: _, _ :: _, ⟨h1, h2⟩, x, hx => by
    rcases List.mem_cons.1 hx with rfl | hx
    · exact ⟨c, h1⟩
    · exact cods_ok h2 x hx
  | [], _ :: _, h, _, _ => h.elim
  | _ :: _, [], h, _, _ => h.elim
/-- While many are read. -/
structure Ub (st s : List Ob) (id : Nat) (bv : V) (r : RS) (w : V) (L : List Cmd) : Prop where
  fg : FG st s
  rd : s[id]? = some (.cells (r.c bv))
  ok : r.ok
  cut : Cut Try.prog s 5 bv (bs r.b) r.b.length
  buf : Buf Try.prog 59 (s.take st.length) s w (L.flatMap Cmd.v) L.length
  cl : ∀ c ∈ L, closed c.uv = true ∧ ∀ s, c.at_ s
section
variable {st s s' : List Ob} {id : Nat} {bv w w' : V} {r r' : RS} {L L' : List Cmd}
theorem Ub.trn (h : Ub st s id bv r w L) (hi : st.length ≤ id) (k : Trn s id (r'.c bv) s') (ho : r'.ok) (hb : r'.b = r.b) : Ub st s' id bv r' w L := by
  have fg := h.fg.trn hi k
  refine ⟨fg, k.1, ho, by rw [hb]; exact h.cut.trn h.rd k, Buf.move h.buf h.fg.le fg.le (fun hr => Rd.keepR hr (KeepR.trn h.rd k)) (fun j xs n lo fz hj => KeepR.trn h.rd k _ _ _ _ _ _ hj), h.cl⟩
theorem Ub.fgs (h : Ub st s id bv r w L) (k : FG s s') : Ub st s' id bv r w L := by
  have fg := h.fg.trans k
  exact ⟨fg, k.cells h.rd, h.ok, h.cut.gro k.gro, Buf.move h.buf h.fg.le fg.le (fun hr => hr.gro k.gro) (fun j xs n lo fz hj => k.row (by decide) hj), h.cl⟩
theorem Ub.app (h : Ub st s id bv r w L) (hg : Gro s s') (hb : Buf Try.prog 59 (s.take st.length) s' w' (L'.flatMap Cmd.v) L'.length) (hcl : ∀ c ∈ L', closed c.uv = true ∧ ∀ s, c.at_ s) : Ub st s' id bv r w' L' := by
  have ht := take_grw hb.1 h.fg.le
  refine ⟨fun j o hj => ?_, hg.cells h.rd, h.ok, h.cut.gro hg, by rw [ht]; exact hb, hcl⟩
  have hl := (List.getElem?_eq_some_iff.1 hj).1
  have e : ∀ x, s[j]? = some x → s'[j]? = some x := fun x hx => hb.1 j x (by rw [List.getElem?_take, if_pos hl]; exact hx)
  rcases h.fg j o hj with h1 | ⟨xs, n, lo, fz, rfl, h1⟩
  · exact .inl (e _ h1)
  · exact .inr ⟨xs, n, lo, fz, rfl, e _ h1⟩
end
/-! ### Chapter 24: Unbatch, by the program. -/
/-- These bytes are many commands'. -/
def ubGood (b : List Int) : Prop := (∀ x ∈ ubL b, Okb x) ∧ (ubE b).dn = 0
theorem by_sub (r : RS) (M : Int) : ∃ k n, (r.by M).1 = (r.b.drop k).take n := by
  unfold RS.by
  repeat' split
  · exact ⟨0, 0, by simp⟩
  · exact ⟨0, 0, by simp⟩
  · exact ⟨0, 0, by simp⟩
  · exact ⟨_, _, rfl⟩
  · exact ⟨0, 0, by simp⟩
theorem by_bytes {r : RS} (M : Int) (h : ∀ c ∈ r.b, 0 ≤ c ∧ c < 256) : (∀ c ∈ (r.by M).1, 0 ≤ c ∧ c < 256) ∧ (r.by M).1.length ≤ r.b.length := by
  obtain ⟨k, n, e⟩ := by_sub r M
  rw [e]
  refine ⟨fun c hc => h c (List.drop_subset _ _ (List.take_subset _ _ hc)), ?_⟩
  rw [List.length_take, List.length_drop]
  omega
section
variable {n m : Nat} {st : List Ob} {K : V → List Ob → Prop} {v : V} {b : List Int}
set_option maxHeartbeats 2000000 in
theorem c_Unbatch (hv : Rd Try.prog st 5 v (bs b) b.length) (hn : nilV v = true → b = []) (hl : b.length < 140737488350000) (hbb : ∀ c ∈ b, 0 ≤ c ∧ c < 256) (hm : 5000 < m)
    (h0 : ¬ ubGood b → ∀ s, FG st s → K (.tup [.tsl [] 0 true true, .sc (.int .i64 5)]) s)
    (h1 : ubGood b → ∀ L w s, cods L (ubL b) → (∀ c ∈ L, closed c.uv = true ∧ ∀ s, c.at_ s) → FG st s → Rd Try.prog s 59 w (L.flatMap Cmd.v) L.length → K (.tup [w, .sc (.int .i64 0)]) s) :
    acallF Try.prog pl (n + 9) m 46 [v] st K := by
  refine acallF_inF Try.func46 rfl Try.ntmps46 (by simp) ?_
  simp only [evf,↓evp,evq,evr,fxa0,fxa1,fxa2,fxa3,fxu,fxn,fxl,↓fxp,lgc,absL,fitL,flatL,ares,ares1,ofVal,unSc,aload,afill,splice,abound,asI,elems,IntKind.bits,sortT,eqNil,closedL,allByte,patch,pendOK,numA,Value.cells,Value.oneCell',ibin,List.replicate,Option.elim,Nat.reduceAdd,Nat.reduceSub,Nat.reduceMul,Nat.reduceLT,Nat.reduceEqDiff,Nat.reduceLeDiff,Nat.reduceBEq,Int.reduceLE,Int.reduceLT,Int.reduceToNat,Int.reduceBNe,Int.reduceBEq,Int.reduceNeg,Int.reduceEq,Int.reduceNe,Nat.reduceBNe,Int.reduceAdd,Int.reduceSub,Int.reduceMul,Int.reducePow,Nat.reducePow,Int.reduceGT,Int.reduceGE,if_true,if_false,ite_true,ite_false,beq_self_eq_true,BEq.rfl,reduceCtorEq,eq_self,ne_eq,Function.comp_def,beq_iff_eq]
  have ho : (⟨b, 0, 0⟩ : RS).ok := ⟨by simp, by simp only; omega, hbb⟩
  refine p_Read (n := n + 6) hv hn hl fun bv id s1 j1 i1 r1 cut1 => ?_
  simp only [evf,↓evp,evq,evr,fxa0,fxa1,fxa2,fxa3,fxu,fxn,fxl,↓fxp,lgc,absL,fitL,flatL,ares,ares1,ofVal,unSc,aload,afill,splice,abound,asI,elems,IntKind.bits,sortT,eqNil,closedL,allByte,patch,pendOK,numA,Value.cells,Value.oneCell',ibin,List.replicate,Option.elim,Nat.reduceAdd,Nat.reduceSub,Nat.reduceMul,Nat.reduceLT,Nat.reduceEqDiff,Nat.reduceLeDiff,Nat.reduceBEq,Int.reduceLE,Int.reduceLT,Int.reduceToNat,Int.reduceBNe,Int.reduceBEq,Int.reduceNeg,Int.reduceEq,Int.reduceNe,Nat.reduceBNe,Int.reduceAdd,Int.reduceSub,Int.reduceMul,Int.reducePow,Nat.reducePow,Int.reduceGT,Int.reduceGE,if_true,if_false,ite_true,ite_false,beq_self_eq_true,BEq.rfl,reduceCtorEq,eq_self,ne_eq,Function.comp_def,beq_iff_eq]
  refine p_Number (n := n + 5) ho r1 cut1 (by omega) (by omega) fun s2 j2 => ?_
  have oR : (ubR b).ok := RS.nb_ok ho 4096
  have bR : (ubR b).b = b := RS.nb_b _ 4096
  have hN := ubN_le b
  have U2 : Ub st s2 id bv (ubR b) (.tsl [] 0 true true) [] := by
    have fg := FG.trn (Grw.fg j1) i1 j2
    refine ⟨fg, j2.1, oR, by rw [bR]; exact cut1.trn r1 j2, ⟨fun j o hj => ?_, .inl ⟨⟨rfl, ⟨fun b hb => (by cases hb), fun _ => rfl⟩, fun s hs => (by simp)⟩, rfl⟩⟩, by simp⟩
    rw [List.getElem?_take] at hj
    split at hj
    · exact hj
    · cases hj
  rw [ubN_nb]
  simp only [evf,↓evp,evq,evr,fxa0,fxa1,fxa2,fxa3,fxu,fxn,fxl,↓fxp,lgc,absL,fitL,flatL,ares,ares1,ofVal,unSc,aload,afill,splice,abound,asI,elems,IntKind.bits,sortT,eqNil,closedL,allByte,patch,pendOK,numA,Value.cells,Value.oneCell',ibin,List.replicate,Option.elim,Nat.reduceAdd,Nat.reduceSub,Nat.reduceMul,Nat.reduceLT,Nat.reduceEqDiff,Nat.reduceLeDiff,Nat.reduceBEq,Int.reduceLE,Int.reduceLT,Int.reduceToNat,Int.reduceBNe,Int.reduceBEq,Int.reduceNeg,Int.reduceEq,Int.reduceNe,Nat.reduceBNe,Int.reduceAdd,Int.reduceSub,Int.reduceMul,Int.reducePow,Nat.reducePow,Int.reduceGT,Int.reduceGE,if_true,if_false,ite_true,ite_false,beq_self_eq_true,BEq.rfl,reduceCtorEq,eq_self,ne_eq,Function.comp_def,beq_iff_eq]
  refine aloop_forF (fun k g s => ∃ (i : Nat) (L : List Cmd) (done : List (List Int)) (r : RS) (w : V), k + i = m ∧ i ≤ ubN b ∧ L.length = i ∧ cods L done ∧ ubL b = done ++ (its b.length (ubN b - i) r).1 ∧ ubE b = (its b.length (ubN b - i) r).2 ∧ r.b = b ∧ Ub st s id bv r w L ∧
    g 0 = v ∧ g 4 = .ref id 0 ∧ g 5 = w ∧ g 11 = .sc (.int .i64 (ubN b)) ∧ g 12 = .sc (.int .i64 i)) ⟨0, [], [], ubR b, .tsl [] 0 true true, by omega, by omega, rfl, trivial, rfl, rfl, bR, U2, by simp only [evf, ne_eq, Nat.reduceEqDiff, Nat.reduceLT, not_false_eq_true], by simp only [evf, ne_eq, Nat.reduceEqDiff, Nat.reduceLT, not_false_eq_true], by simp only [evf, ne_eq, Nat.reduceEqDiff, Nat.reduceLT, not_false_eq_true], by simp only [evf, ne_eq, Nat.reduceEqDiff, Nat.reduceLT, not_false_eq_true], by simp only [evf, ne_eq, Nat.reduceEqDiff, Nat.reduceLT, not_false_eq_true]; rfl⟩ ?_
  rintro I' hI' k g s ⟨i, L, done, r, w, hk, hi, hL, hcods, hub, hue, hrb, U, g0, g4, g5, g11, g12⟩
  refine ⟨k - 1, by omega, ?_⟩
  by_cases hil : i < ubN b
  · have d : decide ((i : Int) < ubN b) = true := decide_eq_true (by omega)
    obtain ⟨M, hM⟩ : ∃ M, ubN b - i = M + 1 := ⟨ubN b - i - 1, by omega⟩
    have hMi : ubN b - (i + 1) = M := by omega
    rw [hM] at hub hue
    simp only [its] at hub hue
    have hvs := hv.gro U.fg.gro
    have hal := alen_rd hvs Try.underlying22
    simp only [g0, g4, g5, g11, g12, d, hal, evf,↓evp,evq,evr,fxa0,fxa1,fxa2,fxa3,fxu,fxn,fxl,↓fxp,lgc,absL,fitL,flatL,ares,ares1,ofVal,unSc,aload,afill,splice,abound,asI,elems,IntKind.bits,sortT,eqNil,closedL,allByte,patch,pendOK,numA,Value.cells,Value.oneCell',ibin,List.replicate,Option.elim,Nat.reduceAdd,Nat.reduceSub,Nat.reduceMul,Nat.reduceLT,Nat.reduceEqDiff,Nat.reduceLeDiff,Nat.reduceBEq,Int.reduceLE,Int.reduceLT,Int.reduceToNat,Int.reduceBNe,Int.reduceBEq,Int.reduceNeg,Int.reduceEq,Int.reduceNe,Nat.reduceBNe,Int.reduceAdd,Int.reduceSub,Int.reduceMul,Int.reducePow,Nat.reducePow,Int.reduceGT,Int.reduceGE,if_true,if_false,ite_true,ite_false,beq_self_eq_true,BEq.rfl,reduceCtorEq,eq_self,ne_eq,Function.comp_def,beq_iff_eq]
    have hbl : r.b.length < 140737488350000 := by rw [hrb]; exact hl
    refine p_Bytes (n := n + 5) U.ok U.rd U.cut hbl (by omega) (by omega) fun v2 s3 j3 cv => ?_
    have ob := RS.by_ok U.ok (b.length : Int)
    have bb' := (RS.by_b r (b.length : Int)).trans hrb
    have U3 := U.trn i1 j3 ob (RS.by_b r _)
    obtain ⟨yb, yl⟩ := by_bytes (r := r) (b.length : Int) (by rw [hrb]; exact hbb)
    rw [hrb] at yl
    simp only [evf,↓evp,evq,evr,fxa0,fxa1,fxa2,fxa3,fxu,fxn,fxl,↓fxp,lgc,absL,fitL,flatL,ares,ares1,ofVal,unSc,aload,afill,splice,abound,asI,elems,IntKind.bits,sortT,eqNil,closedL,allByte,patch,pendOK,numA,Value.cells,Value.oneCell',ibin,List.replicate,Option.elim,Nat.reduceAdd,Nat.reduceSub,Nat.reduceMul,Nat.reduceLT,Nat.reduceEqDiff,Nat.reduceLeDiff,Nat.reduceBEq,Int.reduceLE,Int.reduceLT,Int.reduceToNat,Int.reduceBNe,Int.reduceBEq,Int.reduceNeg,Int.reduceEq,Int.reduceNe,Nat.reduceBNe,Int.reduceAdd,Int.reduceSub,Int.reduceMul,Int.reducePow,Nat.reducePow,Int.reduceGT,Int.reduceGE,if_true,if_false,ite_true,ite_false,beq_self_eq_true,BEq.rfl,reduceCtorEq,eq_self,ne_eq,Function.comp_def,beq_iff_eq]
    refine c_Decode (n := n) cv.1 (fun hh => List.eq_nil_of_length_eq_zero (cv.1.2.1.2 hh)) (by omega) yb (by omega) (fun hno s4 g4' => ?_) fun c s4 hco hcl g4' at4 => ?_
    · simp only [zCmd, nilU, Cmd.v, evf,↓evp,evq,evr,fxa0,fxa1,fxa2,fxa3,fxu,fxn,fxl,↓fxp,lgc,absL,fitL,flatL,ares,ares1,ofVal,unSc,aload,afill,splice,abound,asI,elems,IntKind.bits,sortT,eqNil,closedL,allByte,patch,pendOK,numA,Value.cells,Value.oneCell',ibin,List.replicate,Option.elim,Nat.reduceAdd,Nat.reduceSub,Nat.reduceMul,Nat.reduceLT,Nat.reduceEqDiff,Nat.reduceLeDiff,Nat.reduceBEq,Int.reduceLE,Int.reduceLT,Int.reduceToNat,Int.reduceBNe,Int.reduceBEq,Int.reduceNeg,Int.reduceEq,Int.reduceNe,Nat.reduceBNe,Int.reduceAdd,Int.reduceSub,Int.reduceMul,Int.reducePow,Nat.reducePow,Int.reduceGT,Int.reduceGE,if_true,if_false,ite_true,ite_false,beq_self_eq_true,BEq.rfl,reduceCtorEq,eq_self,ne_eq,Function.comp_def,beq_iff_eq]
      refine h0 (fun hg => ?_) _ (U3.fg.trans (Grw.fg (g4'.push' _)))
      obtain ⟨c, hc⟩ := hg.1 (r.by b.length).1 (by rw [hub]; simp)
      exact hno c hc
    · have U4 := U3.fgs (Grw.fg g4')
      have gB : Grw s4 (s4 ++ [Ob.cells c.v]) := .push _ _
      have y5 : (s4 ++ [Ob.cells c.v])[s4.length]? = some (.cells c.v) := get_new0 _ _
      have U5 := U4.fgs (Grw.fg gB)
      have at5 := at4.grw gB
      have o1 := at4.one
      have o2 := at4.cv
      have hi1 : IntKind.i64.wrap ((i : Int) + 1) = ((i + 1 : Nat) : Int) := by rw [IntWalk.i64_in _ (by omega)]; rfl
      rcases cmd_put at5 with ⟨hcl, hat⟩ | ⟨hncl, w1, s6, hz, hcl, how, hat, fg, hlen⟩
      · obtain ⟨w7, s7, a7, B7, G7⟩ := appC U5.buf hcl (by omega)
        have U7 := U5.app G7 B7 (fun x hx => by
          rcases List.mem_append.1 hx with hx | hx
          · exact U5.cl x hx
          · simp at hx; subst hx; exact ⟨hcl, hat⟩)
        simp only [Cmd.v, List.append_assoc, List.cons_append, List.nil_append, List.length_append, List.length_cons, List.length_nil, Nat.zero_add] at y5 a7
        simp only [Cmd.v, y5, g5, g12, hcl, o1, o2, a7, hi1, evf,↓evp,evq,evr,fxa0,fxa1,fxa2,fxa3,fxu,fxn,fxl,↓fxp,lgc,absL,fitL,flatL,ares,ares1,ofVal,unSc,aload,afill,splice,abound,asI,elems,IntKind.bits,sortT,eqNil,closedL,allByte,patch,pendOK,numA,Value.cells,Value.oneCell',ibin,List.replicate,Option.elim,Nat.reduceAdd,Nat.reduceSub,Nat.reduceMul,Nat.reduceLT,Nat.reduceEqDiff,Nat.reduceLeDiff,Nat.reduceBEq,Int.reduceLE,Int.reduceLT,Int.reduceToNat,Int.reduceBNe,Int.reduceBEq,Int.reduceNeg,Int.reduceEq,Int.reduceNe,Nat.reduceBNe,Int.reduceAdd,Int.reduceSub,Int.reduceMul,Int.reducePow,Nat.reducePow,Int.reduceGT,Int.reduceGE,if_true,if_false,ite_true,ite_false,beq_self_eq_true,BEq.rfl,reduceCtorEq,eq_self,ne_eq,Function.comp_def,beq_iff_eq]
        exact hI' _ _ _ ⟨i + 1, L ++ [c], done ++ [(r.by b.length).1], (r.by b.length).2, w7, by omega, hil, by simp [hL], cods_app hcods ⟨hco, trivial⟩, by rw [hMi, hub]; simp, by rw [hMi]; exact hue, bb', U7, by simp only [g0, evf, ne_eq, Nat.reduceEqDiff, Nat.reduceLT, not_false_eq_true], by simp only [g4, evf, ne_eq, Nat.reduceEqDiff, Nat.reduceLT, not_false_eq_true], by simp only [evf, ne_eq, Nat.reduceEqDiff, Nat.reduceLT, not_false_eq_true], by simp only [g11, evf, ne_eq, Nat.reduceEqDiff, Nat.reduceLT, not_false_eq_true], by simp only [evf, ne_eq, Nat.reduceEqDiff, Nat.reduceLT, not_false_eq_true]⟩
      · have U6 := U5.fgs fg
        obtain ⟨w7, s7, a7, B7, G7⟩ := appC (c := { c with uv := w1 }) U6.buf hcl (by omega)
        have U7 := U6.app G7 B7 (fun x hx => by
          rcases List.mem_append.1 hx with hx | hx
          · exact U5.cl x hx
          · simp at hx; subst hx; exact ⟨hcl, hat⟩)
        simp only [Cmd.v] at y5 hz a7
        simp only [Cmd.v, y5, g5, g12, hncl, hz, o1, o2, a7, hi1, evf,↓evp,evq,evr,fxa0,fxa1,fxa2,fxa3,fxu,fxn,fxl,↓fxp,lgc,absL,fitL,flatL,ares,ares1,ofVal,unSc,aload,afill,splice,abound,asI,elems,IntKind.bits,sortT,eqNil,closedL,allByte,patch,pendOK,numA,Value.cells,Value.oneCell',ibin,List.replicate,Option.elim,Nat.reduceAdd,Nat.reduceSub,Nat.reduceMul,Nat.reduceLT,Nat.reduceEqDiff,Nat.reduceLeDiff,Nat.reduceBEq,Int.reduceLE,Int.reduceLT,Int.reduceToNat,Int.reduceBNe,Int.reduceBEq,Int.reduceNeg,Int.reduceEq,Int.reduceNe,Nat.reduceBNe,Int.reduceAdd,Int.reduceSub,Int.reduceMul,Int.reducePow,Nat.reducePow,Int.reduceGT,Int.reduceGE,if_true,if_false,ite_true,ite_false,beq_self_eq_true,BEq.rfl,reduceCtorEq,eq_self,ne_eq,Function.comp_def,beq_iff_eq]
        exact hI' _ _ _ ⟨i + 1, L ++ [{ c with uv := w1 }], done ++ [(r.by b.length).1], (r.by b.length).2, w7, by omega, hil, by simp [hL], cods_app hcods ⟨⟨hco.1, hco.2⟩, trivial⟩, by rw [hMi, hub]; simp, by rw [hMi]; exact hue, bb', U7, by simp only [g0, evf, ne_eq, Nat.reduceEqDiff, Nat.reduceLT, not_false_eq_true], by simp only [g4, evf, ne_eq, Nat.reduceEqDiff, Nat.reduceLT, not_false_eq_true], by simp only [evf, ne_eq, Nat.reduceEqDiff, Nat.reduceLT, not_false_eq_true], by simp only [g11, evf, ne_eq, Nat.reduceEqDiff, Nat.reduceLT, not_false_eq_true], by simp only [evf, ne_eq, Nat.reduceEqDiff, Nat.reduceLT, not_false_eq_true]⟩
  · have d : decide ((i : Int) < ubN b) = false := decide_eq_false (by omega)
    obtain rfl : i = ubN b := by omega
    rw [Nat.sub_self] at hub hue
    simp only [its, List.append_nil] at hub hue
    simp only [g0, g4, g5, g11, g12, d, evf,↓evp,evq,evr,fxa0,fxa1,fxa2,fxa3,fxu,fxn,fxl,↓fxp,lgc,absL,fitL,flatL,ares,ares1,ofVal,unSc,aload,afill,splice,abound,asI,elems,IntKind.bits,sortT,eqNil,closedL,allByte,patch,pendOK,numA,Value.cells,Value.oneCell',ibin,List.replicate,Option.elim,Nat.reduceAdd,Nat.reduceSub,Nat.reduceMul,Nat.reduceLT,Nat.reduceEqDiff,Nat.reduceLeDiff,Nat.reduceBEq,Int.reduceLE,Int.reduceLT,Int.reduceToNat,Int.reduceBNe,Int.reduceBEq,Int.reduceNeg,Int.reduceEq,Int.reduceNe,Nat.reduceBNe,Int.reduceAdd,Int.reduceSub,Int.reduceMul,Int.reducePow,Nat.reducePow,Int.reduceGT,Int.reduceGE,if_true,if_false,ite_true,ite_false,beq_self_eq_true,BEq.rfl,reduceCtorEq,eq_self,ne_eq,Function.comp_def,beq_iff_eq]
    refine p_Done (n := n + 6) U.ok U.rd U.cut ?_
    by_cases hd : r.dn = 0
    · have d : (r.dn != 0) = false := by simp [hd]
      simp only [d, g5, evf,↓evp,evq,evr,fxa0,fxa1,fxa2,fxa3,fxu,fxn,fxl,↓fxp,lgc,absL,fitL,flatL,ares,ares1,ofVal,unSc,aload,afill,splice,abound,asI,elems,IntKind.bits,sortT,eqNil,closedL,allByte,patch,pendOK,numA,Value.cells,Value.oneCell',ibin,List.replicate,Option.elim,Nat.reduceAdd,Nat.reduceSub,Nat.reduceMul,Nat.reduceLT,Nat.reduceEqDiff,Nat.reduceLeDiff,Nat.reduceBEq,Int.reduceLE,Int.reduceLT,Int.reduceToNat,Int.reduceBNe,Int.reduceBEq,Int.reduceNeg,Int.reduceEq,Int.reduceNe,Nat.reduceBNe,Int.reduceAdd,Int.reduceSub,Int.reduceMul,Int.reducePow,Nat.reducePow,Int.reduceGT,Int.reduceGE,if_true,if_false,ite_true,ite_false,beq_self_eq_true,BEq.rfl,reduceCtorEq,eq_self,ne_eq,Function.comp_def,beq_iff_eq]
      exact h1 ⟨by rw [hub]; exact cods_ok hcods, by rw [hue]; exact hd⟩ L w s (by rw [hub]; exact hcods) U.cl U.fg U.buf.rd
    · have d : (r.dn != 0) = true := by simp [hd]
      simp only [d, evf,↓evp,evq,evr,fxa0,fxa1,fxa2,fxa3,fxu,fxn,fxl,↓fxp,lgc,absL,fitL,flatL,ares,ares1,ofVal,unSc,aload,afill,splice,abound,asI,elems,IntKind.bits,sortT,eqNil,closedL,allByte,patch,pendOK,numA,Value.cells,Value.oneCell',ibin,List.replicate,Option.elim,Nat.reduceAdd,Nat.reduceSub,Nat.reduceMul,Nat.reduceLT,Nat.reduceEqDiff,Nat.reduceLeDiff,Nat.reduceBEq,Int.reduceLE,Int.reduceLT,Int.reduceToNat,Int.reduceBNe,Int.reduceBEq,Int.reduceNeg,Int.reduceEq,Int.reduceNe,Nat.reduceBNe,Int.reduceAdd,Int.reduceSub,Int.reduceMul,Int.reducePow,Nat.reducePow,Int.reduceGT,Int.reduceGE,if_true,if_false,ite_true,ite_false,beq_self_eq_true,BEq.rfl,reduceCtorEq,eq_self,ne_eq,Function.comp_def,beq_iff_eq]
      exact h0 (fun hg => hd (by have := hg.2; rw [hue] at this; exact this)) _ U.fg
end
/-! ### Chapter 24: Batch, by the document. -/
/-- Many commands' bytes. -/
def batB (L : List Cmd) : List Int := uvb L.length ++ L.flatMap fun c => encI (nb (cmdNums c))
/-- .. so many of them. -/
def batB' (L : List Cmd) (i : Nat) : List Int := uvb L.length ++ (L.take i).flatMap fun c => encI (nb (cmdNums c))
theorem nb_short' {c : Cmd} (h : checkB c = true) : (nb (cmdNums c)).length ≤ 1000 := by
  have h1 := cmdNums_len h
  have h2 := nb_len (cmdNums c) (nums_lt h)
  omega
theorem encI_short {c : Cmd} (h : checkB c = true) : (encI (nb (cmdNums c))).length ≤ 1010 := by
  have h1 := nb_short' h
  have h2 := uvb_len (nb (cmdNums c)).length (by omega)
  rw [encI, List.length_append]
  omega
theorem bat_short : ∀ (L : List Cmd), (∀ c ∈ L, checkB c = true) → (L.flatMap fun c => encI (nb (cmdNums c))).length ≤ 1010 * L.length
  | [], _ => by simp
  | c :: L, h => by
    have h1 := encI_short (h c (by simp))
    have h2 := bat_short L fun x hx => h x (by simp [hx])
    rw [List.flatMap_cons, List.length_append, List.length_cons]
    omega
section
variable {n m : Nat} {st : List Ob} {K : V → List Ob → Prop} {v : V} {L : List Cmd}
set_option maxHeartbeats 2000000 in
theorem q_Batch (hv : Rd Try.prog st 59 v (L.flatMap Cmd.v) L.length) (hat : ∀ c ∈ L, ∀ s, c.at_ s) (hm : 5000 < m) (hu : ∀ c ∈ L, c.units.length < m)
    (h3 : 4096 < L.length → K (.tup [.tsl [] 0 true true, .sc (.int .i64 3)]) st)
    (h1 : L.length ≤ 4096 → (∃ c ∈ L, checkB c = false) → ∀ s, Grw st s → K (.tup [.tsl [] 0 true true, .sc (.int .i64 1)]) s)
    (h0 : L.length ≤ 4096 → (∀ c ∈ L, checkB c = true) → ∀ w s, Grw st s → Rd Try.prog s 5 w (bs (batB L)) (batB L).length → K (.tup [w, .sc (.int .i64 0)]) s) :
    acallF Try.prog pl (n + 5) m 86 [v] st K := by
  refine acallF_inF Try.func86 rfl Try.ntmps86 (by simp) ?_
  have hal := alen_rd hv Try.underlying73
  by_cases hlong : 4096 < L.length
  · have d : decide ((L.length : Int) > 4096) = true := decide_eq_true (by omega)
    simp only [hal, d, evf,↓evp,evq,evr,fxa0,fxa1,fxa2,fxa3,fxu,fxn,fxl,↓fxp,lgc,absL,fitL,flatL,ares,ares1,ofVal,unSc,aload,afill,splice,abound,asI,elems,IntKind.bits,sortT,eqNil,closedL,allByte,patch,pendOK,numA,Value.cells,Value.oneCell',ibin,List.replicate,Option.elim,Nat.reduceAdd,Nat.reduceSub,Nat.reduceMul,Nat.reduceLT,Nat.reduceEqDiff,Nat.reduceLeDiff,Nat.reduceBEq,Int.reduceLE,Int.reduceLT,Int.reduceToNat,Int.reduceBNe,Int.reduceBEq,Int.reduceNeg,Int.reduceEq,Int.reduceNe,Nat.reduceBNe,Int.reduceAdd,Int.reduceSub,Int.reduceMul,Int.reducePow,Nat.reducePow,Int.reduceGT,Int.reduceGE,if_true,if_false,ite_true,ite_false,beq_self_eq_true,BEq.rfl,reduceCtorEq,eq_self,ne_eq,Function.comp_def,beq_iff_eq]
    exact h3 hlong
  have d : decide ((L.length : Int) > 4096) = false := decide_eq_false (by omega)
  have hle : L.length ≤ 4096 := by omega
  simp only [hal, d, evf,↓evp,evq,evr,fxa0,fxa1,fxa2,fxa3,fxu,fxn,fxl,↓fxp,lgc,absL,fitL,flatL,ares,ares1,ofVal,unSc,aload,afill,splice,abound,asI,elems,IntKind.bits,sortT,eqNil,closedL,allByte,patch,pendOK,numA,Value.cells,Value.oneCell',ibin,List.replicate,Option.elim,Nat.reduceAdd,Nat.reduceSub,Nat.reduceMul,Nat.reduceLT,Nat.reduceEqDiff,Nat.reduceLeDiff,Nat.reduceBEq,Int.reduceLE,Int.reduceLT,Int.reduceToNat,Int.reduceBNe,Int.reduceBEq,Int.reduceNeg,Int.reduceEq,Int.reduceNe,Nat.reduceBNe,Int.reduceAdd,Int.reduceSub,Int.reduceMul,Int.reducePow,Nat.reducePow,Int.reduceGT,Int.reduceGE,if_true,if_false,ite_true,ite_false,beq_self_eq_true,BEq.rfl,reduceCtorEq,eq_self,ne_eq,Function.comp_def,beq_iff_eq]
  have gR := Grw.push st [.row 3 (is (ns [L.length])) 1 0 false]
  refine q_numbersB (n := n + 2) (L := [L.length]) (row_at (id := st.length) (l := [L.length]) (get_new0 _ _)) (by simp) (by simp; omega) (by omega) fun w0 s0 B0 => ?_
  have B0' : Buf Try.prog 5 st s0 w0 (bs (nb [L.length])) (nb [L.length]).length := B0.rebase gR
  simp only [evf,↓evp,evq,evr,fxa0,fxa1,fxa2,fxa3,fxu,fxn,fxl,↓fxp,lgc,absL,fitL,flatL,ares,ares1,ofVal,unSc,aload,afill,splice,abound,asI,elems,IntKind.bits,sortT,eqNil,closedL,allByte,patch,pendOK,numA,Value.cells,Value.oneCell',ibin,List.replicate,Option.elim,Nat.reduceAdd,Nat.reduceSub,Nat.reduceMul,Nat.reduceLT,Nat.reduceEqDiff,Nat.reduceLeDiff,Nat.reduceBEq,Int.reduceLE,Int.reduceLT,Int.reduceToNat,Int.reduceBNe,Int.reduceBEq,Int.reduceNeg,Int.reduceEq,Int.reduceNe,Nat.reduceBNe,Int.reduceAdd,Int.reduceSub,Int.reduceMul,Int.reducePow,Nat.reducePow,Int.reduceGT,Int.reduceGE,if_true,if_false,ite_true,ite_false,beq_self_eq_true,BEq.rfl,reduceCtorEq,eq_self,ne_eq,Function.comp_def,beq_iff_eq]
  refine aloop_forF (fun k g s => ∃ (i : Nat) (w : V), k + i = m ∧ i ≤ L.length ∧ (∀ c ∈ L.take i, checkB c = true) ∧ Buf Try.prog 5 st s w (bs (batB' L i)) (batB' L i).length ∧
    g 0 = v ∧ g 4 = w ∧ g 5 = .sc (.int .i64 i)) ⟨0, w0, by omega, by omega, by simp, by simpa [batB', nb] using B0', by simp only [evf, ne_eq, Nat.reduceEqDiff, Nat.reduceLT, not_false_eq_true], by simp only [evf, ne_eq, Nat.reduceEqDiff, Nat.reduceLT, not_false_eq_true], by simp only [evf, ne_eq, Nat.reduceEqDiff, Nat.reduceLT, not_false_eq_true]; rfl⟩ ?_
  rintro I' hI' k g s ⟨i, w, hk, hi, hck, hw, g0, g4, g5⟩
  refine ⟨k - 1, by omega, ?_⟩
  have hvs := hv.grw hw.1
  have hals := alen_rd hvs Try.underlying73
  by_cases hil : i < L.length
  · have d : decide ((i : Int) < L.length) = true := decide_eq_true (by omega)
    obtain ⟨p1, p2⟩ := ix_flat (f := Cmd.v) (fun a => rfl) hvs Try.underlying73 sz59 ag59 (by omega) hil
    have a1 : IntKind.i64.wrap ((i : Int) + 1) = ((i + 1 : Nat) : Int) := by rw [IntWalk.i64_in _ (by omega)]; rfl
    have hmem : L[i] ∈ L := List.getElem_mem hil
    simp only [g0, g4, g5, hals, d, p1, p2, evf,↓evp,evq,evr,fxa0,fxa1,fxa2,fxa3,fxu,fxn,fxl,↓fxp,lgc,absL,fitL,flatL,ares,ares1,ofVal,unSc,aload,afill,splice,abound,asI,elems,IntKind.bits,sortT,eqNil,closedL,allByte,patch,pendOK,numA,Value.cells,Value.oneCell',ibin,List.replicate,Option.elim,Nat.reduceAdd,Nat.reduceSub,Nat.reduceMul,Nat.reduceLT,Nat.reduceEqDiff,Nat.reduceLeDiff,Nat.reduceBEq,Int.reduceLE,Int.reduceLT,Int.reduceToNat,Int.reduceBNe,Int.reduceBEq,Int.reduceNeg,Int.reduceEq,Int.reduceNe,Nat.reduceBNe,Int.reduceAdd,Int.reduceSub,Int.reduceMul,Int.reducePow,Nat.reducePow,Int.reduceGT,Int.reduceGE,if_true,if_false,ite_true,ite_false,beq_self_eq_true,BEq.rfl,reduceCtorEq,eq_self,ne_eq,Function.comp_def,beq_iff_eq]
    refine q_Encode (n := n) (c := L[i]) (hat _ hmem _) (by omega) (hu _ hmem) (fun e s2 j2 => ?_) fun e w2 s2 j2 hw2 => ?_
    · simp only [evf,↓evp,evq,evr,fxa0,fxa1,fxa2,fxa3,fxu,fxn,fxl,↓fxp,lgc,absL,fitL,flatL,ares,ares1,ofVal,unSc,aload,afill,splice,abound,asI,elems,IntKind.bits,sortT,eqNil,closedL,allByte,patch,pendOK,numA,Value.cells,Value.oneCell',ibin,List.replicate,Option.elim,Nat.reduceAdd,Nat.reduceSub,Nat.reduceMul,Nat.reduceLT,Nat.reduceEqDiff,Nat.reduceLeDiff,Nat.reduceBEq,Int.reduceLE,Int.reduceLT,Int.reduceToNat,Int.reduceBNe,Int.reduceBEq,Int.reduceNeg,Int.reduceEq,Int.reduceNe,Nat.reduceBNe,Int.reduceAdd,Int.reduceSub,Int.reduceMul,Int.reducePow,Nat.reducePow,Int.reduceGT,Int.reduceGE,if_true,if_false,ite_true,ite_false,beq_self_eq_true,BEq.rfl,reduceCtorEq,eq_self,ne_eq,Function.comp_def,beq_iff_eq]
      exact h1 hle ⟨_, hmem, e⟩ _ (hw.1.trans j2)
    · have hs := nb_short' e
      have hlen : (batB' L i).length ≤ 10 + 1010 * 4096 := by
        have h1 := bat_short (L.take i) hck
        have h2 := uvb_len L.length (by omega)
        rw [List.length_take] at h1
        rw [batB', List.length_append]
        omega
      simp only [evf,↓evp,evq,evr,fxa0,fxa1,fxa2,fxa3,fxu,fxn,fxl,↓fxp,lgc,absL,fitL,flatL,ares,ares1,ofVal,unSc,aload,afill,splice,abound,asI,elems,IntKind.bits,sortT,eqNil,closedL,allByte,patch,pendOK,numA,Value.cells,Value.oneCell',ibin,List.replicate,Option.elim,Nat.reduceAdd,Nat.reduceSub,Nat.reduceMul,Nat.reduceLT,Nat.reduceEqDiff,Nat.reduceLeDiff,Nat.reduceBEq,Int.reduceLE,Int.reduceLT,Int.reduceToNat,Int.reduceBNe,Int.reduceBEq,Int.reduceNeg,Int.reduceEq,Int.reduceNe,Nat.reduceBNe,Int.reduceAdd,Int.reduceSub,Int.reduceMul,Int.reducePow,Nat.reducePow,Int.reduceGT,Int.reduceGE,if_true,if_false,ite_true,ite_false,beq_self_eq_true,BEq.rfl,reduceCtorEq,eq_self,ne_eq,Function.comp_def,beq_iff_eq]
      refine r_Bytes (n := n + 2) hw2 (by omega) (by omega) fun w3 s3 B3 => ?_
      obtain ⟨w4, s4, q1, q2, q3⟩ := app_rd (hw.grw (j2.trans B3.1)) B3.rd (by have := encI_short e; rw [encI] at this; omega)
      simp only [g4, g5, q1, a1, evf,↓evp,evq,evr,fxa0,fxa1,fxa2,fxa3,fxu,fxn,fxl,↓fxp,lgc,absL,fitL,flatL,ares,ares1,ofVal,unSc,aload,afill,splice,abound,asI,elems,IntKind.bits,sortT,eqNil,closedL,allByte,patch,pendOK,numA,Value.cells,Value.oneCell',ibin,List.replicate,Option.elim,Nat.reduceAdd,Nat.reduceSub,Nat.reduceMul,Nat.reduceLT,Nat.reduceEqDiff,Nat.reduceLeDiff,Nat.reduceBEq,Int.reduceLE,Int.reduceLT,Int.reduceToNat,Int.reduceBNe,Int.reduceBEq,Int.reduceNeg,Int.reduceEq,Int.reduceNe,Nat.reduceBNe,Int.reduceAdd,Int.reduceSub,Int.reduceMul,Int.reducePow,Nat.reducePow,Int.reduceGT,Int.reduceGE,if_true,if_false,ite_true,ite_false,beq_self_eq_true,BEq.rfl,reduceCtorEq,eq_self,ne_eq,Function.comp_def,beq_iff_eq]
      have e2 : batB' L (i + 1) = batB' L i ++ (uvb (nb (cmdNums L[i])).length ++ nb (cmdNums L[i])) := by
        rw [batB', batB', flatMap_take_succ _ _ hil, List.append_assoc]
        rfl
      refine hI' _ _ _ ⟨i + 1, w4, by omega, hil, fun c hc => ?_, by rw [e2]; exact q2, by simp only [g0, evf, ne_eq, Nat.reduceEqDiff, Nat.reduceLT, not_false_eq_true], by simp only [evf, ne_eq, Nat.reduceEqDiff, Nat.reduceLT, not_false_eq_true], by simp only [evf, ne_eq, Nat.reduceEqDiff, Nat.reduceLT, not_false_eq_true]⟩
      rw [List.take_succ_eq_append_getElem hil] at hc
      rcases List.mem_append.1 hc with hc | hc
      · exact hck c hc
      · simp at hc; rw [hc]; exact e
  · have d : decide ((i : Int) < L.length) = false := decide_eq_false (by omega)
    obtain rfl : i = L.length := by omega
    have e : batB' L L.length = batB L := by rw [batB', List.take_length]; rfl
    rw [e] at hw
    rw [List.take_length] at hck
    simp only [g0, g4, g5, hals, d, evf,↓evp,evq,evr,fxa0,fxa1,fxa2,fxa3,fxu,fxn,fxl,↓fxp,lgc,absL,fitL,flatL,ares,ares1,ofVal,unSc,aload,afill,splice,abound,asI,elems,IntKind.bits,sortT,eqNil,closedL,allByte,patch,pendOK,numA,Value.cells,Value.oneCell',ibin,List.replicate,Option.elim,Nat.reduceAdd,Nat.reduceSub,Nat.reduceMul,Nat.reduceLT,Nat.reduceEqDiff,Nat.reduceLeDiff,Nat.reduceBEq,Int.reduceLE,Int.reduceLT,Int.reduceToNat,Int.reduceBNe,Int.reduceBEq,Int.reduceNeg,Int.reduceEq,Int.reduceNe,Nat.reduceBNe,Int.reduceAdd,Int.reduceSub,Int.reduceMul,Int.reducePow,Nat.reducePow,Int.reduceGT,Int.reduceGE,if_true,if_false,ite_true,ite_false,beq_self_eq_true,BEq.rfl,reduceCtorEq,eq_self,ne_eq,Function.comp_def,beq_iff_eq]
    exact h0 hle hck _ _ hw.1 hw.rd
end
/-! ### Chapter 24: Unbatch, by the document. -/
theorem units64 {c : Cmd} (h : checkB c = true) : c.units.length ≤ 64 := by
  obtain ⟨K, T, P, Q, I, X, Y, A, B, C, Z, U, hc, _, _, _, _, _, U1, U0⟩ := check_nat h
  have e : c.units = ns U := by rw [hc]
  rw [e, ns_length]
  cases hk : kU K
  · rw [U0 hk]; simp
  · exact (U1 hk).2
theorem cods_check : ∀ {l : List Cmd} {b : List (List Int)}, cods l b → ∀ c ∈ l, checkB c = true
  | [], [], _, x, hx => by simp at hx
  | c :: _, _ :: _, ⟨h1, h2⟩, x, hx => by
    rcases List.mem_cons.1 hx with rfl | hx
    · exact h1.1
    · exact cods_check h2 x hx
  | [], _ :: _, h, _, _ => h.elim
  | _ :: _, [], h, _, _ => h.elim
theorem cods_enc : ∀ {l : List Cmd} {b : List (List Int)}, cods l b → (l.flatMap fun c => encI (nb (cmdNums c))) = b.flatMap encI
  | [], [], _ => rfl
  | c :: _, _ :: _, ⟨h1, h2⟩ => by rw [List.flatMap_cons, List.flatMap_cons, cods_enc h2, h1.2]
  | [], _ :: _, h => h.elim
  | _ :: _, [], h => h.elim
theorem ubL_len (b : List Int) : (ubL b).length = ubN b := its_len _ _ _
theorem cods_bat {l : List Cmd} {b : List Int} (h : cods l (ubL b)) : batB l = ubB b := by
  rw [batB, ubB, cods_enc h, cods_len h, ubL_len]
section
variable {n m : Nat} {st : List Ob} {K : V → List Ob → Prop} {v : V} {b : List Int}
set_option maxHeartbeats 2000000 in
theorem q_Unbatch (hv : Cut Try.prog st 5 v (bs b) b.length) (hl : b.length < 140737488350000) (hbb : ∀ c ∈ b, 0 ≤ c ∧ c < 256) (hm : 5000 < m) (ov : one v = true) (cvv : cellsV v = [v])
    (h0 : ¬ ubGood b → ∀ s, FG st s → K (.tup [.tsl [] 0 true true, .sc (.int .i64 5)]) s)
    (h1 : ubGood b → ∀ L w s, cods L (ubL b) → (∀ c ∈ L, closed c.uv = true ∧ ∀ s, c.at_ s) → FG st s → Rd Try.prog s 59 w (L.flatMap Cmd.v) L.length → K (.tup [w, .sc (.int .i64 0)]) s) :
    acallF Try.prog pl (n + 6) m 47 [v] st K := by
  refine acallF_inF Try.func47 rfl Try.ntmps47 (by simp) ?_
  have ho : (⟨b, 0, 0⟩ : RS).ok := ⟨by simp, by simp only; omega, hbb⟩
  obtain ⟨S0, hS0⟩ : ∃ S, S = st ++ [Ob.cells (RS.c v ⟨b, 0, 0⟩)] := ⟨_, rfl⟩
  have g0 : Grw st S0 := by rw [hS0]; exact .push _ _
  have r0 : S0[st.length]? = some (.cells (RS.c v ⟨b, 0, 0⟩)) := by rw [hS0]; exact get_new0 _ _
  simp only [RS.c, Int.natCast_zero] at hS0
  simp only [ov, cvv, evf,↓evp,evq,evr,fxa0,fxa1,fxa2,fxa3,fxu,fxn,fxl,↓fxp,lgc,absL,fitL,flatL,ares,ares1,ofVal,unSc,aload,afill,splice,abound,asI,elems,IntKind.bits,sortT,eqNil,closedL,allByte,patch,pendOK,numA,Value.cells,Value.oneCell',ibin,List.replicate,Option.elim,Nat.reduceAdd,Nat.reduceSub,Nat.reduceMul,Nat.reduceLT,Nat.reduceEqDiff,Nat.reduceLeDiff,Nat.reduceBEq,Int.reduceLE,Int.reduceLT,Int.reduceToNat,Int.reduceBNe,Int.reduceBEq,Int.reduceNeg,Int.reduceEq,Int.reduceNe,Nat.reduceBNe,Int.reduceAdd,Int.reduceSub,Int.reduceMul,Int.reducePow,Nat.reducePow,Int.reduceGT,Int.reduceGE,if_true,if_false,ite_true,ite_false,beq_self_eq_true,BEq.rfl,reduceCtorEq,eq_self,ne_eq,Function.comp_def,beq_iff_eq]
  rw [← hS0]
  refine r_ReadNumber (n := n + 2) ho r0 (hv.grw g0) (by omega) (by omega) (by omega) fun s2 j2 => ?_
  have oR : (ubR b).ok := RS.nb_ok ho 4096
  have bR : (ubR b).b = b := RS.nb_b _ 4096
  have hN := ubN_le b
  have fg2 := FG.trn (Grw.fg g0) (Nat.le_refl _) j2
  have gR := Grw.push s2 [.row 59 [] 0 0 false]
  have U2 : Ub st (s2 ++ [.row 59 [] 0 0 false]) st.length v (ubR b) (.sl s2.length 0 0 false) [] := by
    refine ⟨fg2.trans (Grw.fg gR), gR _ _ j2.1, oR, by rw [bR]; exact ((hv.grw g0).trn r0 j2).grw gR, row_buf (get_new0 _ _) sz59 rfl (fun j o hj => ?_) (by rw [List.length_take]; have := fg2.le; omega), by simp⟩
    rw [List.getElem?_take] at hj
    split at hj
    · exact hj
    · cases hj
  rw [ubN_nb]
  simp only [evf,↓evp,evq,evr,fxa0,fxa1,fxa2,fxa3,fxu,fxn,fxl,↓fxp,lgc,absL,fitL,flatL,ares,ares1,ofVal,unSc,aload,afill,splice,abound,asI,elems,IntKind.bits,sortT,eqNil,closedL,allByte,patch,pendOK,numA,Value.cells,Value.oneCell',ibin,List.replicate,Option.elim,Nat.reduceAdd,Nat.reduceSub,Nat.reduceMul,Nat.reduceLT,Nat.reduceEqDiff,Nat.reduceLeDiff,Nat.reduceBEq,Int.reduceLE,Int.reduceLT,Int.reduceToNat,Int.reduceBNe,Int.reduceBEq,Int.reduceNeg,Int.reduceEq,Int.reduceNe,Nat.reduceBNe,Int.reduceAdd,Int.reduceSub,Int.reduceMul,Int.reducePow,Nat.reducePow,Int.reduceGT,Int.reduceGE,if_true,if_false,ite_true,ite_false,beq_self_eq_true,BEq.rfl,reduceCtorEq,eq_self,ne_eq,Function.comp_def,beq_iff_eq]
  refine aloop_forF (fun k g s => ∃ (i : Nat) (L : List Cmd) (done : List (List Int)) (r : RS) (w : V), k + i = m ∧ i ≤ ubN b ∧ L.length = i ∧ cods L done ∧ ubL b = done ++ (its b.length (ubN b - i) r).1 ∧ ubE b = (its b.length (ubN b - i) r).2 ∧ r.b = b ∧ Ub st s st.length v r w L ∧
    g 0 = v ∧ g 4 = .ref st.length 0 ∧ g 5 = .sc (.int .i64 (ubN b)) ∧ g 6 = w ∧ g 7 = .sc (.int .i64 i)) ⟨0, [], [], ubR b, .sl s2.length 0 0 false, by omega, by omega, rfl, trivial, rfl, rfl, bR, U2, by simp only [evf, ne_eq, Nat.reduceEqDiff, Nat.reduceLT, not_false_eq_true], by simp only [evf, ne_eq, Nat.reduceEqDiff, Nat.reduceLT, not_false_eq_true], by simp only [evf, ne_eq, Nat.reduceEqDiff, Nat.reduceLT, not_false_eq_true], by simp only [evf, ne_eq, Nat.reduceEqDiff, Nat.reduceLT, not_false_eq_true], by simp only [evf, ne_eq, Nat.reduceEqDiff, Nat.reduceLT, not_false_eq_true]; rfl⟩ ?_
  rintro I' hI' k g s ⟨i, L, done, r, w, hk, hi, hL, hcods, hub, hue, hrb, U, g0', g4, g5, g6, g7⟩
  refine ⟨k - 1, by omega, ?_⟩
  have hvs := hv.1.gro U.fg.gro
  by_cases hil : i < ubN b
  · have d : decide ((i : Int) < ubN b) = true := decide_eq_true (by omega)
    obtain ⟨M, hM⟩ : ∃ M, ubN b - i = M + 1 := ⟨ubN b - i - 1, by omega⟩
    have hMi : ubN b - (i + 1) = M := by omega
    rw [hM] at hub hue
    simp only [its] at hub hue
    have hal := alen_rd hvs Try.underlying22
    simp only [g0', g4, g5, g6, g7, d, hal, evf,↓evp,evq,evr,fxa0,fxa1,fxa2,fxa3,fxu,fxn,fxl,↓fxp,lgc,absL,fitL,flatL,ares,ares1,ofVal,unSc,aload,afill,splice,abound,asI,elems,IntKind.bits,sortT,eqNil,closedL,allByte,patch,pendOK,numA,Value.cells,Value.oneCell',ibin,List.replicate,Option.elim,Nat.reduceAdd,Nat.reduceSub,Nat.reduceMul,Nat.reduceLT,Nat.reduceEqDiff,Nat.reduceLeDiff,Nat.reduceBEq,Int.reduceLE,Int.reduceLT,Int.reduceToNat,Int.reduceBNe,Int.reduceBEq,Int.reduceNeg,Int.reduceEq,Int.reduceNe,Nat.reduceBNe,Int.reduceAdd,Int.reduceSub,Int.reduceMul,Int.reducePow,Nat.reducePow,Int.reduceGT,Int.reduceGE,if_true,if_false,ite_true,ite_false,beq_self_eq_true,BEq.rfl,reduceCtorEq,eq_self,ne_eq,Function.comp_def,beq_iff_eq]
    have hbl : r.b.length < 140737488350000 := by rw [hrb]; exact hl
    refine r_ReadBytes (n := n + 1) U.ok U.rd U.cut hbl (by omega) (by omega) (by omega) fun v2 s3 j3 cv => ?_
    have ob := RS.by_ok U.ok (b.length : Int)
    have bb' := (RS.by_b r (b.length : Int)).trans hrb
    have U3 := U.trn (Nat.le_refl _) j3 ob (RS.by_b r _)
    obtain ⟨yb, yl⟩ := by_bytes (r := r) (b.length : Int) (by rw [hrb]; exact hbb)
    rw [hrb] at yl
    obtain ⟨ov2, cvv2⟩ := rd_one cv.1
    simp only [evf,↓evp,evq,evr,fxa0,fxa1,fxa2,fxa3,fxu,fxn,fxl,↓fxp,lgc,absL,fitL,flatL,ares,ares1,ofVal,unSc,aload,afill,splice,abound,asI,elems,IntKind.bits,sortT,eqNil,closedL,allByte,patch,pendOK,numA,Value.cells,Value.oneCell',ibin,List.replicate,Option.elim,Nat.reduceAdd,Nat.reduceSub,Nat.reduceMul,Nat.reduceLT,Nat.reduceEqDiff,Nat.reduceLeDiff,Nat.reduceBEq,Int.reduceLE,Int.reduceLT,Int.reduceToNat,Int.reduceBNe,Int.reduceBEq,Int.reduceNeg,Int.reduceEq,Int.reduceNe,Nat.reduceBNe,Int.reduceAdd,Int.reduceSub,Int.reduceMul,Int.reducePow,Nat.reducePow,Int.reduceGT,Int.reduceGE,if_true,if_false,ite_true,ite_false,beq_self_eq_true,BEq.rfl,reduceCtorEq,eq_self,ne_eq,Function.comp_def,beq_iff_eq]
    refine q_Decode (n := n) cv (by omega) yb (by omega) ov2 cvv2 (fun hno s4 g4' => ?_) fun c s4 hco hcl g4' at4 => ?_
    · simp only [zCmd, nilU, Cmd.v, evf,↓evp,evq,evr,fxa0,fxa1,fxa2,fxa3,fxu,fxn,fxl,↓fxp,lgc,absL,fitL,flatL,ares,ares1,ofVal,unSc,aload,afill,splice,abound,asI,elems,IntKind.bits,sortT,eqNil,closedL,allByte,patch,pendOK,numA,Value.cells,Value.oneCell',ibin,List.replicate,Option.elim,Nat.reduceAdd,Nat.reduceSub,Nat.reduceMul,Nat.reduceLT,Nat.reduceEqDiff,Nat.reduceLeDiff,Nat.reduceBEq,Int.reduceLE,Int.reduceLT,Int.reduceToNat,Int.reduceBNe,Int.reduceBEq,Int.reduceNeg,Int.reduceEq,Int.reduceNe,Nat.reduceBNe,Int.reduceAdd,Int.reduceSub,Int.reduceMul,Int.reducePow,Nat.reducePow,Int.reduceGT,Int.reduceGE,if_true,if_false,ite_true,ite_false,beq_self_eq_true,BEq.rfl,reduceCtorEq,eq_self,ne_eq,Function.comp_def,beq_iff_eq]
      refine h0 (fun hg => ?_) _ (U3.fg.trans (Grw.fg (g4'.push' _)))
      obtain ⟨c, hc⟩ := hg.1 (r.by b.length).1 (by rw [hub]; simp)
      exact hno c hc
    · have U4 := U3.fgs (Grw.fg g4')
      have gB : Grw s4 (s4 ++ [Ob.cells c.v]) := .push _ _
      have y5 : (s4 ++ [Ob.cells c.v])[s4.length]? = some (.cells c.v) := get_new0 _ _
      have U5 := U4.fgs (Grw.fg gB)
      have at5 := at4.grw gB
      have o1 := at4.one
      have o2 := at4.cv
      have hi1 : IntKind.i64.wrap ((i : Int) + 1) = ((i + 1 : Nat) : Int) := by rw [IntWalk.i64_in _ (by omega)]; rfl
      rcases cmd_put at5 with ⟨hcl, hat⟩ | ⟨hncl, w1, s6, hz, hcl, how, hat, fg, hlen⟩
      · obtain ⟨w7, s7, a7, B7, G7⟩ := appC U5.buf hcl (by omega)
        have U7 := U5.app G7 B7 (fun x hx => by
          rcases List.mem_append.1 hx with hx | hx
          · exact U5.cl x hx
          · simp at hx; subst hx; exact ⟨hcl, hat⟩)
        simp only [Cmd.v, List.append_assoc, List.cons_append, List.nil_append, List.length_append, List.length_cons, List.length_nil, Nat.zero_add] at y5 a7
        simp only [Cmd.v, y5, g6, g7, hcl, o1, o2, a7, hi1, evf,↓evp,evq,evr,fxa0,fxa1,fxa2,fxa3,fxu,fxn,fxl,↓fxp,lgc,absL,fitL,flatL,ares,ares1,ofVal,unSc,aload,afill,splice,abound,asI,elems,IntKind.bits,sortT,eqNil,closedL,allByte,patch,pendOK,numA,Value.cells,Value.oneCell',ibin,List.replicate,Option.elim,Nat.reduceAdd,Nat.reduceSub,Nat.reduceMul,Nat.reduceLT,Nat.reduceEqDiff,Nat.reduceLeDiff,Nat.reduceBEq,Int.reduceLE,Int.reduceLT,Int.reduceToNat,Int.reduceBNe,Int.reduceBEq,Int.reduceNeg,Int.reduceEq,Int.reduceNe,Nat.reduceBNe,Int.reduceAdd,Int.reduceSub,Int.reduceMul,Int.reducePow,Nat.reducePow,Int.reduceGT,Int.reduceGE,if_true,if_false,ite_true,ite_false,beq_self_eq_true,BEq.rfl,reduceCtorEq,eq_self,ne_eq,Function.comp_def,beq_iff_eq]
        exact hI' _ _ _ ⟨i + 1, L ++ [c], done ++ [(r.by b.length).1], (r.by b.length).2, w7, by omega, hil, by simp [hL], cods_app hcods ⟨hco, trivial⟩, by rw [hMi, hub]; simp, by rw [hMi]; exact hue, bb', U7, by simp only [g0', evf, ne_eq, Nat.reduceEqDiff, Nat.reduceLT, not_false_eq_true], by simp only [g4, evf, ne_eq, Nat.reduceEqDiff, Nat.reduceLT, not_false_eq_true], by simp only [g5, evf, ne_eq, Nat.reduceEqDiff, Nat.reduceLT, not_false_eq_true], by simp only [evf, ne_eq, Nat.reduceEqDiff, Nat.reduceLT, not_false_eq_true], by simp only [evf, ne_eq, Nat.reduceEqDiff, Nat.reduceLT, not_false_eq_true]⟩
      · have U6 := U5.fgs fg
        obtain ⟨w7, s7, a7, B7, G7⟩ := appC (c := { c with uv := w1 }) U6.buf hcl (by omega)
        have U7 := U6.app G7 B7 (fun x hx => by
          rcases List.mem_append.1 hx with hx | hx
          · exact U5.cl x hx
          · simp at hx; subst hx; exact ⟨hcl, hat⟩)
        simp only [Cmd.v] at y5 hz a7
        simp only [Cmd.v, y5, g6, g7, hncl, hz, o1, o2, a7, hi1, evf,↓evp,evq,evr,fxa0,fxa1,fxa2,fxa3,fxu,fxn,fxl,↓fxp,lgc,absL,fitL,flatL,ares,ares1,ofVal,unSc,aload,afill,splice,abound,asI,elems,IntKind.bits,sortT,eqNil,closedL,allByte,patch,pendOK,numA,Value.cells,Value.oneCell',ibin,List.replicate,Option.elim,Nat.reduceAdd,Nat.reduceSub,Nat.reduceMul,Nat.reduceLT,Nat.reduceEqDiff,Nat.reduceLeDiff,Nat.reduceBEq,Int.reduceLE,Int.reduceLT,Int.reduceToNat,Int.reduceBNe,Int.reduceBEq,Int.reduceNeg,Int.reduceEq,Int.reduceNe,Nat.reduceBNe,Int.reduceAdd,Int.reduceSub,Int.reduceMul,Int.reducePow,Nat.reducePow,Int.reduceGT,Int.reduceGE,if_true,if_false,ite_true,ite_false,beq_self_eq_true,BEq.rfl,reduceCtorEq,eq_self,ne_eq,Function.comp_def,beq_iff_eq]
        exact hI' _ _ _ ⟨i + 1, L ++ [{ c with uv := w1 }], done ++ [(r.by b.length).1], (r.by b.length).2, w7, by omega, hil, by simp [hL], cods_app hcods ⟨⟨hco.1, hco.2⟩, trivial⟩, by rw [hMi, hub]; simp, by rw [hMi]; exact hue, bb', U7, by simp only [g0', evf, ne_eq, Nat.reduceEqDiff, Nat.reduceLT, not_false_eq_true], by simp only [g4, evf, ne_eq, Nat.reduceEqDiff, Nat.reduceLT, not_false_eq_true], by simp only [g5, evf, ne_eq, Nat.reduceEqDiff, Nat.reduceLT, not_false_eq_true], by simp only [evf, ne_eq, Nat.reduceEqDiff, Nat.reduceLT, not_false_eq_true], by simp only [evf, ne_eq, Nat.reduceEqDiff, Nat.reduceLT, not_false_eq_true]⟩
  · have d : decide ((i : Int) < ubN b) = false := decide_eq_false (by omega)
    obtain rfl : i = ubN b := by omega
    rw [Nat.sub_self] at hub hue
    simp only [its, List.append_nil] at hub hue
    rw [← hub] at hcods
    have hck := cods_check hcods
    simp only [g0', g4, g5, g6, g7, d, evf,↓evp,evq,evr,fxa0,fxa1,fxa2,fxa3,fxu,fxn,fxl,↓fxp,lgc,absL,fitL,flatL,ares,ares1,ofVal,unSc,aload,afill,splice,abound,asI,elems,IntKind.bits,sortT,eqNil,closedL,allByte,patch,pendOK,numA,Value.cells,Value.oneCell',ibin,List.replicate,Option.elim,Nat.reduceAdd,Nat.reduceSub,Nat.reduceMul,Nat.reduceLT,Nat.reduceEqDiff,Nat.reduceLeDiff,Nat.reduceBEq,Int.reduceLE,Int.reduceLT,Int.reduceToNat,Int.reduceBNe,Int.reduceBEq,Int.reduceNeg,Int.reduceEq,Int.reduceNe,Nat.reduceBNe,Int.reduceAdd,Int.reduceSub,Int.reduceMul,Int.reducePow,Nat.reducePow,Int.reduceGT,Int.reduceGE,if_true,if_false,ite_true,ite_false,beq_self_eq_true,BEq.rfl,reduceCtorEq,eq_self,ne_eq,Function.comp_def,beq_iff_eq]
    refine q_Batch (n := n) U.buf.rd (fun c hc => (U.cl c hc).2) hm (fun c hc => by have := units64 (hck c hc); omega) (fun h => by omega) (fun _ h s _ => ?_) fun _ _ w3 s3 g3 hw3 => ?_
    · obtain ⟨c, hc, he⟩ := h
      rw [hck c hc] at he; cases he
    · simp only [g0', evf,↓evp,evq,evr,fxa0,fxa1,fxa2,fxa3,fxu,fxn,fxl,↓fxp,lgc,absL,fitL,flatL,ares,ares1,ofVal,unSc,aload,afill,splice,abound,asI,elems,IntKind.bits,sortT,eqNil,closedL,allByte,patch,pendOK,numA,Value.cells,Value.oneCell',ibin,List.replicate,Option.elim,Nat.reduceAdd,Nat.reduceSub,Nat.reduceMul,Nat.reduceLT,Nat.reduceEqDiff,Nat.reduceLeDiff,Nat.reduceBEq,Int.reduceLE,Int.reduceLT,Int.reduceToNat,Int.reduceBNe,Int.reduceBEq,Int.reduceNeg,Int.reduceEq,Int.reduceNe,Nat.reduceBNe,Int.reduceAdd,Int.reduceSub,Int.reduceMul,Int.reducePow,Nat.reducePow,Int.reduceGT,Int.reduceGE,if_true,if_false,ite_true,ite_false,beq_self_eq_true,BEq.rfl,reduceCtorEq,eq_self,ne_eq,Function.comp_def,beq_iff_eq]
      rw [cods_bat hcods] at hw3
      have hbB : ∀ c ∈ ubB b, 0 ≤ c ∧ c < 256 := by
        rw [← cods_bat hcods]
        intro c hc
        rcases List.mem_append.1 hc with hc | hc
        · exact nb_bytes [L.length] c (by simpa [nb] using hc)
        · obtain ⟨x, _, hx⟩ := List.mem_flatMap.1 hc
          rcases List.mem_append.1 hx with hx | hx
          · exact nb_bytes [(nb (cmdNums x)).length] c (by simpa [nb] using hx)
          · exact nb_bytes _ c hx
      refine q_same hw3 (hvs.grw g3) hbB hbb ?_
      have hbi := ub_ref ho (cods_ok hcods)
      by_cases he : ubB b = b
      · have e : (ubB b == b) = true := by simpa using he
        simp only [e, g6, evf,↓evp,evq,evr,fxa0,fxa1,fxa2,fxa3,fxu,fxn,fxl,↓fxp,lgc,absL,fitL,flatL,ares,ares1,ofVal,unSc,aload,afill,splice,abound,asI,elems,IntKind.bits,sortT,eqNil,closedL,allByte,patch,pendOK,numA,Value.cells,Value.oneCell',ibin,List.replicate,Option.elim,Nat.reduceAdd,Nat.reduceSub,Nat.reduceMul,Nat.reduceLT,Nat.reduceEqDiff,Nat.reduceLeDiff,Nat.reduceBEq,Int.reduceLE,Int.reduceLT,Int.reduceToNat,Int.reduceBNe,Int.reduceBEq,Int.reduceNeg,Int.reduceEq,Int.reduceNe,Nat.reduceBNe,Int.reduceAdd,Int.reduceSub,Int.reduceMul,Int.reducePow,Nat.reducePow,Int.reduceGT,Int.reduceGE,if_true,if_false,ite_true,ite_false,beq_self_eq_true,BEq.rfl,reduceCtorEq,eq_self,ne_eq,Function.comp_def,beq_iff_eq]
        exact h1 ⟨cods_ok hcods, hbi.1 he⟩ L w _ hcods U.cl (U.fg.trans (Grw.fg g3)) (U.buf.rd.grw g3)
      · have e : (ubB b == b) = false := by simpa using he
        simp only [e, evf,↓evp,evq,evr,fxa0,fxa1,fxa2,fxa3,fxu,fxn,fxl,↓fxp,lgc,absL,fitL,flatL,ares,ares1,ofVal,unSc,aload,afill,splice,abound,asI,elems,IntKind.bits,sortT,eqNil,closedL,allByte,patch,pendOK,numA,Value.cells,Value.oneCell',ibin,List.replicate,Option.elim,Nat.reduceAdd,Nat.reduceSub,Nat.reduceMul,Nat.reduceLT,Nat.reduceEqDiff,Nat.reduceLeDiff,Nat.reduceBEq,Int.reduceLE,Int.reduceLT,Int.reduceToNat,Int.reduceBNe,Int.reduceBEq,Int.reduceNeg,Int.reduceEq,Int.reduceNe,Nat.reduceBNe,Int.reduceAdd,Int.reduceSub,Int.reduceMul,Int.reducePow,Nat.reducePow,Int.reduceGT,Int.reduceGE,if_true,if_false,ite_true,ite_false,beq_self_eq_true,BEq.rfl,reduceCtorEq,eq_self,ne_eq,Function.comp_def,beq_iff_eq]
        exact h0 (fun hg => he (hbi.2 hg.2)) _ (U.fg.trans (Grw.fg g3))
end
/-! ### CommandUnbatches, the law. -/
theorem codes_two' {c c' : Cmd} {b : List Int} (h : codes c b) (h' : codes c' b) : sameB c c' = true := by
  rw [← enc_same h.1 h'.1, h.2, h'.2]
  simp
theorem cods_two : ∀ {l l' : List Cmd} {b : List (List Int)}, cods l b → cods l' b → ∀ (i : Nat) (h : i < l.length) (h' : i < l'.length), sameB l[i] l'[i] = true
  | [], _, _, _, _, i, h, _ => by simp at h
  | _ :: _, [], _, _, _, i, _, h => by simp at h
  | c :: l, c' :: l', [], h, _, _, _, _ => h.elim
  | c :: l, c' :: l', b :: bl, ⟨h1, h2⟩, ⟨k1, k2⟩, i, h, h' => by
    cases i with
    | zero => exact codes_two' h1 k1
    | succ i => exact cods_two h2 k2 i (by simpa using h) (by simpa using h')
section
variable {n m : Nat} {st : List Ob} {K : V → List Ob → Prop} {v v' : V} {L L' : List Cmd}
set_option maxHeartbeats 2000000 in
theorem l24_all (hv : Rd Try.prog st 59 v (L.flatMap Cmd.v) L.length) (hv' : Rd Try.prog st 59 v' (L'.flatMap Cmd.v) L'.length) (hat : ∀ c ∈ L, ∀ s, c.at_ s) (hat' : ∀ c ∈ L', ∀ s, c.at_ s) (hu : ∀ c ∈ L, c.units.length < m)
    (hl : L.length = L'.length) (hs : ∀ (i : Nat) (h : i < L.length) (h' : i < L'.length), sameB L[i] L'[i] = true) (hm : L.length < m) (hL : L.length < 4611686018427387904)
    (hK : ∀ s, Grw st s → K (.sc (.bool true)) s) : acallF Try.prog pl (n + 2) m 48 [v, v'] st K := by
  refine acallF_inF Try.func48 rfl Try.ntmps48 (by simp) ?_
  have hal := alen_rd hv Try.underlying73
  have hal' := alen_rd hv' Try.underlying73
  rw [← hl] at hal'
  have d0 : ((L.length : Int) != L.length) = false := by simp
  simp only [hal, hal', d0, evf,↓evp,evq,evr,fxa0,fxa1,fxa2,fxa3,fxu,fxn,fxl,↓fxp,lgc,absL,fitL,flatL,ares,ares1,ofVal,unSc,aload,afill,splice,abound,asI,elems,IntKind.bits,sortT,eqNil,closedL,allByte,patch,pendOK,numA,Value.cells,Value.oneCell',ibin,List.replicate,Option.elim,Nat.reduceAdd,Nat.reduceSub,Nat.reduceMul,Nat.reduceLT,Nat.reduceEqDiff,Nat.reduceLeDiff,Nat.reduceBEq,Int.reduceLE,Int.reduceLT,Int.reduceToNat,Int.reduceBNe,Int.reduceBEq,Int.reduceNeg,Int.reduceEq,Int.reduceNe,Nat.reduceBNe,Int.reduceAdd,Int.reduceSub,Int.reduceMul,Int.reducePow,Nat.reducePow,Int.reduceGT,Int.reduceGE,if_true,if_false,ite_true,ite_false,beq_self_eq_true,BEq.rfl,reduceCtorEq,eq_self,ne_eq,Function.comp_def,beq_iff_eq]
  refine aloop_forF (fun k g s => ∃ (i : Nat), k + i = m ∧ i ≤ L.length ∧ Grw st s ∧ g 0 = v ∧ g 1 = v' ∧ g 5 = .sc (.int .i64 i)) ⟨0, by omega, by omega, .refl _, by simp only [evf, ne_eq, Nat.reduceEqDiff, Nat.reduceLT, not_false_eq_true], by simp only [evf, ne_eq, Nat.reduceEqDiff, Nat.reduceLT, not_false_eq_true], by simp only [evf, ne_eq, Nat.reduceEqDiff, Nat.reduceLT, not_false_eq_true]; rfl⟩ ?_
  rintro I' hI' k g s ⟨i, hk, hi, hg, g0, g1, g5⟩
  refine ⟨k - 1, by omega, ?_⟩
  have hals := alen_rd (hv.grw hg) Try.underlying73
  by_cases hil : i < L.length
  · have d : decide ((i : Int) < L.length) = true := decide_eq_true (by omega)
    have a1 : IntKind.i64.wrap ((i : Int) + 1) = ((i + 1 : Nat) : Int) := by rw [IntWalk.i64_in _ (by omega)]; rfl
    obtain ⟨p1, p2⟩ := ix_flat (f := Cmd.v) (fun a => rfl) (hv.grw hg) Try.underlying73 sz59 ag59 (by omega) hil
    obtain ⟨p3, p4⟩ := ix_flat (f := Cmd.v) (fun a => rfl) (hv'.grw hg) Try.underlying73 sz59 ag59 (by omega) (show i < L'.length by omega)
    simp only [g0, g1, g5, hals, d, p1, p2, p3, p4, evf,↓evp,evq,evr,fxa0,fxa1,fxa2,fxa3,fxu,fxn,fxl,↓fxp,lgc,absL,fitL,flatL,ares,ares1,ofVal,unSc,aload,afill,splice,abound,asI,elems,IntKind.bits,sortT,eqNil,closedL,allByte,patch,pendOK,numA,Value.cells,Value.oneCell',ibin,List.replicate,Option.elim,Nat.reduceAdd,Nat.reduceSub,Nat.reduceMul,Nat.reduceLT,Nat.reduceEqDiff,Nat.reduceLeDiff,Nat.reduceBEq,Int.reduceLE,Int.reduceLT,Int.reduceToNat,Int.reduceBNe,Int.reduceBEq,Int.reduceNeg,Int.reduceEq,Int.reduceNe,Nat.reduceBNe,Int.reduceAdd,Int.reduceSub,Int.reduceMul,Int.reducePow,Nat.reducePow,Int.reduceGT,Int.reduceGE,if_true,if_false,ite_true,ite_false,beq_self_eq_true,BEq.rfl,reduceCtorEq,eq_self,ne_eq,Function.comp_def,beq_iff_eq]
    refine q_Same (n := n) (hat _ (List.getElem_mem hil) _) (hat' _ (List.getElem_mem (show i < L'.length by omega)) _) (hu _ (List.getElem_mem hil)) fun s2 j2 => ?_
    obtain ⟨q1, q2⟩ := ix_flat (f := Cmd.v) (fun a => rfl) (hv.grw (hg.trans j2)) Try.underlying73 sz59 ag59 (by omega) hil
    obtain ⟨q3, q4⟩ := ix_flat (f := Cmd.v) (fun a => rfl) (hv'.grw (hg.trans j2)) Try.underlying73 sz59 ag59 (by omega) (show i < L'.length by omega)
    have sm := hs i hil (by omega)
    simp only [g0, g1, g5, sm, j2, a1, q1, q2, q3, q4, p1, p2, p3, p4, evf,↓evp,evq,evr,fxa0,fxa1,fxa2,fxa3,fxu,fxn,fxl,↓fxp,lgc,absL,fitL,flatL,ares,ares1,ofVal,unSc,aload,afill,splice,abound,asI,elems,IntKind.bits,sortT,eqNil,closedL,allByte,patch,pendOK,numA,Value.cells,Value.oneCell',ibin,List.replicate,Option.elim,Nat.reduceAdd,Nat.reduceSub,Nat.reduceMul,Nat.reduceLT,Nat.reduceEqDiff,Nat.reduceLeDiff,Nat.reduceBEq,Int.reduceLE,Int.reduceLT,Int.reduceToNat,Int.reduceBNe,Int.reduceBEq,Int.reduceNeg,Int.reduceEq,Int.reduceNe,Nat.reduceBNe,Int.reduceAdd,Int.reduceSub,Int.reduceMul,Int.reducePow,Nat.reducePow,Int.reduceGT,Int.reduceGE,if_true,if_false,ite_true,ite_false,beq_self_eq_true,BEq.rfl,reduceCtorEq,eq_self,ne_eq,Function.comp_def,beq_iff_eq]
    exact hI' _ _ _ ⟨i + 1, by omega, hil, hg.trans j2, by simp only [g0, evf, ne_eq, Nat.reduceEqDiff, Nat.reduceLT, not_false_eq_true], by simp only [g1, evf, ne_eq, Nat.reduceEqDiff, Nat.reduceLT, not_false_eq_true], by simp only [evf, ne_eq, Nat.reduceEqDiff, Nat.reduceLT, not_false_eq_true]⟩
  · have d : decide ((i : Int) < L.length) = false := decide_eq_false (by omega)
    simp only [g0, g1, g5, hals, d, evf,↓evp,evq,evr,fxa0,fxa1,fxa2,fxa3,fxu,fxn,fxl,↓fxp,lgc,absL,fitL,flatL,ares,ares1,ofVal,unSc,aload,afill,splice,abound,asI,elems,IntKind.bits,sortT,eqNil,closedL,allByte,patch,pendOK,numA,Value.cells,Value.oneCell',ibin,List.replicate,Option.elim,Nat.reduceAdd,Nat.reduceSub,Nat.reduceMul,Nat.reduceLT,Nat.reduceEqDiff,Nat.reduceLeDiff,Nat.reduceBEq,Int.reduceLE,Int.reduceLT,Int.reduceToNat,Int.reduceBNe,Int.reduceBEq,Int.reduceNeg,Int.reduceEq,Int.reduceNe,Nat.reduceBNe,Int.reduceAdd,Int.reduceSub,Int.reduceMul,Int.reducePow,Nat.reducePow,Int.reduceGT,Int.reduceGE,if_true,if_false,ite_true,ite_false,beq_self_eq_true,BEq.rfl,reduceCtorEq,eq_self,ne_eq,Function.comp_def,beq_iff_eq]
    exact hK _ hg
end
set_option maxHeartbeats 2000000 in
theorem l24_CommandUnbatches {m : Nat} {v : V} {b : List Int} (hv : ∀ s, Cut Try.prog s 5 v (bs b) b.length) (hl : b.length ≤ 140737488340000) (hbb : ∀ c ∈ b, 0 ≤ c ∧ c < 256) (hm : 5000 < m) (ov : one v = true) (cvv : cellsV v = [v]) :
    acallF Try.prog pl 13 m 13 [v] [] fun v _ => v = .sc (.bool true) := by
  refine acallF_inF Try.func13 rfl Try.ntmps13 (by simp) ?_
  have hal := alen_rd (hv []).1 Try.underlying22
  by_cases hlong : 65536 < b.length
  · have d : decide ((b.length : Int) > 65536) = true := decide_eq_true (by omega)
    simp only [hal, d, evf,↓evp,evq,evr,fxa0,fxa1,fxa2,fxa3,fxu,fxn,fxl,↓fxp,lgc,absL,fitL,flatL,ares,ares1,ofVal,unSc,aload,afill,splice,abound,asI,elems,IntKind.bits,sortT,eqNil,closedL,allByte,patch,pendOK,numA,Value.cells,Value.oneCell',ibin,List.replicate,Option.elim,Nat.reduceAdd,Nat.reduceSub,Nat.reduceMul,Nat.reduceLT,Nat.reduceEqDiff,Nat.reduceLeDiff,Nat.reduceBEq,Int.reduceLE,Int.reduceLT,Int.reduceToNat,Int.reduceBNe,Int.reduceBEq,Int.reduceNeg,Int.reduceEq,Int.reduceNe,Nat.reduceBNe,Int.reduceAdd,Int.reduceSub,Int.reduceMul,Int.reducePow,Nat.reducePow,Int.reduceGT,Int.reduceGE,if_true,if_false,ite_true,ite_false,beq_self_eq_true,BEq.rfl,reduceCtorEq,eq_self,ne_eq,Function.comp_def,beq_iff_eq]
    refine awake24 (n := 3) (by omega) fun s5 g5 => ?_
    simp only [evf,↓evp,evq,evr,fxa0,fxa1,fxa2,fxa3,fxu,fxn,fxl,↓fxp,lgc,absL,fitL,flatL,ares,ares1,ofVal,unSc,aload,afill,splice,abound,asI,elems,IntKind.bits,sortT,eqNil,closedL,allByte,patch,pendOK,numA,Value.cells,Value.oneCell',ibin,List.replicate,Option.elim,Nat.reduceAdd,Nat.reduceSub,Nat.reduceMul,Nat.reduceLT,Nat.reduceEqDiff,Nat.reduceLeDiff,Nat.reduceBEq,Int.reduceLE,Int.reduceLT,Int.reduceToNat,Int.reduceBNe,Int.reduceBEq,Int.reduceNeg,Int.reduceEq,Int.reduceNe,Nat.reduceBNe,Int.reduceAdd,Int.reduceSub,Int.reduceMul,Int.reducePow,Nat.reducePow,Int.reduceGT,Int.reduceGE,if_true,if_false,ite_true,ite_false,beq_self_eq_true,BEq.rfl,reduceCtorEq,eq_self,ne_eq,Function.comp_def,beq_iff_eq]
  have d : decide ((b.length : Int) > 65536) = false := decide_eq_false (by omega)
  have B0 : Buf Try.prog 5 [] ([] ++ [.row 5 [] 0 0 false]) (.sl ([] : List Ob).length 0 0 false) (bs []) ([] : List Int).length := row_buf (get_new0 _ _) sz5 rfl (.push _ _) (Nat.le_refl _)
  obtain ⟨w0, s0, q0, B1, _⟩ := app_rd B0 (hv _).1 (by simp; omega)
  simp only [List.nil_append, List.length_nil] at q0 B1
  have hw := B1.rd
  simp only [hal, d, q0, ov, cvv, evf,↓evp,evq,evr,fxa0,fxa1,fxa2,fxa3,fxu,fxn,fxl,↓fxp,lgc,absL,fitL,flatL,ares,ares1,ofVal,unSc,aload,afill,splice,abound,asI,elems,IntKind.bits,sortT,eqNil,closedL,allByte,patch,pendOK,numA,Value.cells,Value.oneCell',ibin,List.replicate,Option.elim,Nat.reduceAdd,Nat.reduceSub,Nat.reduceMul,Nat.reduceLT,Nat.reduceEqDiff,Nat.reduceLeDiff,Nat.reduceBEq,Int.reduceLE,Int.reduceLT,Int.reduceToNat,Int.reduceBNe,Int.reduceBEq,Int.reduceNeg,Int.reduceEq,Int.reduceNe,Nat.reduceBNe,Int.reduceAdd,Int.reduceSub,Int.reduceMul,Int.reducePow,Nat.reducePow,Int.reduceGT,Int.reduceGE,if_true,if_false,ite_true,ite_false,beq_self_eq_true,BEq.rfl,reduceCtorEq,eq_self,ne_eq,Function.comp_def,beq_iff_eq]
  refine c_Unbatch (n := 3) hw (fun hn => List.eq_nil_of_length_eq_zero (hw.2.1.2 hn)) (by omega) hbb hm (fun hbad s1 g1 => ?_) fun hgood L w1 s1 hc1 hcl1 g1 hr1 => ?_
  · simp only [evf,↓evp,evq,evr,fxa0,fxa1,fxa2,fxa3,fxu,fxn,fxl,↓fxp,lgc,absL,fitL,flatL,ares,ares1,ofVal,unSc,aload,afill,splice,abound,asI,elems,IntKind.bits,sortT,eqNil,closedL,allByte,patch,pendOK,numA,Value.cells,Value.oneCell',ibin,List.replicate,Option.elim,Nat.reduceAdd,Nat.reduceSub,Nat.reduceMul,Nat.reduceLT,Nat.reduceEqDiff,Nat.reduceLeDiff,Nat.reduceBEq,Int.reduceLE,Int.reduceLT,Int.reduceToNat,Int.reduceBNe,Int.reduceBEq,Int.reduceNeg,Int.reduceEq,Int.reduceNe,Nat.reduceBNe,Int.reduceAdd,Int.reduceSub,Int.reduceMul,Int.reducePow,Nat.reducePow,Int.reduceGT,Int.reduceGE,if_true,if_false,ite_true,ite_false,beq_self_eq_true,BEq.rfl,reduceCtorEq,eq_self,ne_eq,Function.comp_def,beq_iff_eq]
    refine q_Unbatch (n := 6) (hv _) (by omega) hbb hm ov cvv (fun _ s2 g2 => ?_) fun hgood L w1 s1 hc1 hcl1 g1 hr1 => absurd hgood hbad
    have hnil : Rd Try.prog s2 59 (.tsl [] 0 true true) (([] : List Cmd).flatMap Cmd.v) ([] : List Cmd).length := ⟨rfl, ⟨fun b hb => (by cases hb), fun _ => rfl⟩, fun s hs => (by simp)⟩
    simp only [beq_self_eq_true, evf,↓evp,evq,evr,fxa0,fxa1,fxa2,fxa3,fxu,fxn,fxl,↓fxp,lgc,absL,fitL,flatL,ares,ares1,ofVal,unSc,aload,afill,splice,abound,asI,elems,IntKind.bits,sortT,eqNil,closedL,allByte,patch,pendOK,numA,Value.cells,Value.oneCell',ibin,List.replicate,Option.elim,Nat.reduceAdd,Nat.reduceSub,Nat.reduceMul,Nat.reduceLT,Nat.reduceEqDiff,Nat.reduceLeDiff,Nat.reduceBEq,Int.reduceLE,Int.reduceLT,Int.reduceToNat,Int.reduceBNe,Int.reduceBEq,Int.reduceNeg,Int.reduceEq,Int.reduceNe,Nat.reduceBNe,Int.reduceAdd,Int.reduceSub,Int.reduceMul,Int.reducePow,Nat.reducePow,Int.reduceGT,Int.reduceGE,if_true,if_false,ite_true,ite_false,beq_self_eq_true,BEq.rfl,reduceCtorEq,eq_self,ne_eq,Function.comp_def,beq_iff_eq]
    refine l24_all (n := 10) hnil hnil (by simp) (by simp) (by simp) rfl (by simp) (by simp; omega) (by simp) fun s3 g3 => ?_
    simp only [evf,↓evp,evq,evr,fxa0,fxa1,fxa2,fxa3,fxu,fxn,fxl,↓fxp,lgc,absL,fitL,flatL,ares,ares1,ofVal,unSc,aload,afill,splice,abound,asI,elems,IntKind.bits,sortT,eqNil,closedL,allByte,patch,pendOK,numA,Value.cells,Value.oneCell',ibin,List.replicate,Option.elim,Nat.reduceAdd,Nat.reduceSub,Nat.reduceMul,Nat.reduceLT,Nat.reduceEqDiff,Nat.reduceLeDiff,Nat.reduceBEq,Int.reduceLE,Int.reduceLT,Int.reduceToNat,Int.reduceBNe,Int.reduceBEq,Int.reduceNeg,Int.reduceEq,Int.reduceNe,Nat.reduceBNe,Int.reduceAdd,Int.reduceSub,Int.reduceMul,Int.reducePow,Nat.reducePow,Int.reduceGT,Int.reduceGE,if_true,if_false,ite_true,ite_false,beq_self_eq_true,BEq.rfl,reduceCtorEq,eq_self,ne_eq,Function.comp_def,beq_iff_eq]
    refine awake24 (n := 3) (by omega) fun s5 g5 => ?_
    simp only [evf,↓evp,evq,evr,fxa0,fxa1,fxa2,fxa3,fxu,fxn,fxl,↓fxp,lgc,absL,fitL,flatL,ares,ares1,ofVal,unSc,aload,afill,splice,abound,asI,elems,IntKind.bits,sortT,eqNil,closedL,allByte,patch,pendOK,numA,Value.cells,Value.oneCell',ibin,List.replicate,Option.elim,Nat.reduceAdd,Nat.reduceSub,Nat.reduceMul,Nat.reduceLT,Nat.reduceEqDiff,Nat.reduceLeDiff,Nat.reduceBEq,Int.reduceLE,Int.reduceLT,Int.reduceToNat,Int.reduceBNe,Int.reduceBEq,Int.reduceNeg,Int.reduceEq,Int.reduceNe,Nat.reduceBNe,Int.reduceAdd,Int.reduceSub,Int.reduceMul,Int.reducePow,Nat.reducePow,Int.reduceGT,Int.reduceGE,if_true,if_false,ite_true,ite_false,beq_self_eq_true,BEq.rfl,reduceCtorEq,eq_self,ne_eq,Function.comp_def,beq_iff_eq]
  · simp only [evf,↓evp,evq,evr,fxa0,fxa1,fxa2,fxa3,fxu,fxn,fxl,↓fxp,lgc,absL,fitL,flatL,ares,ares1,ofVal,unSc,aload,afill,splice,abound,asI,elems,IntKind.bits,sortT,eqNil,closedL,allByte,patch,pendOK,numA,Value.cells,Value.oneCell',ibin,List.replicate,Option.elim,Nat.reduceAdd,Nat.reduceSub,Nat.reduceMul,Nat.reduceLT,Nat.reduceEqDiff,Nat.reduceLeDiff,Nat.reduceBEq,Int.reduceLE,Int.reduceLT,Int.reduceToNat,Int.reduceBNe,Int.reduceBEq,Int.reduceNeg,Int.reduceEq,Int.reduceNe,Nat.reduceBNe,Int.reduceAdd,Int.reduceSub,Int.reduceMul,Int.reducePow,Nat.reducePow,Int.reduceGT,Int.reduceGE,if_true,if_false,ite_true,ite_false,beq_self_eq_true,BEq.rfl,reduceCtorEq,eq_self,ne_eq,Function.comp_def,beq_iff_eq]
    refine q_Unbatch (n := 6) (hv _) (by omega) hbb hm ov cvv (fun hbad s2 g2 => absurd hgood hbad) fun _ L' w2 s2 hc2 hcl2 g2 hr2 => ?_
    have hck := cods_check hc1
    have hlen : L.length ≤ 4096 := by rw [cods_len hc1, ubL_len]; exact ubN_le b
    simp only [beq_self_eq_true, evf,↓evp,evq,evr,fxa0,fxa1,fxa2,fxa3,fxu,fxn,fxl,↓fxp,lgc,absL,fitL,flatL,ares,ares1,ofVal,unSc,aload,afill,splice,abound,asI,elems,IntKind.bits,sortT,eqNil,closedL,allByte,patch,pendOK,numA,Value.cells,Value.oneCell',ibin,List.replicate,Option.elim,Nat.reduceAdd,Nat.reduceSub,Nat.reduceMul,Nat.reduceLT,Nat.reduceEqDiff,Nat.reduceLeDiff,Nat.reduceBEq,Int.reduceLE,Int.reduceLT,Int.reduceToNat,Int.reduceBNe,Int.reduceBEq,Int.reduceNeg,Int.reduceEq,Int.reduceNe,Nat.reduceBNe,Int.reduceAdd,Int.reduceSub,Int.reduceMul,Int.reducePow,Nat.reducePow,Int.reduceGT,Int.reduceGE,if_true,if_false,ite_true,ite_false,beq_self_eq_true,BEq.rfl,reduceCtorEq,eq_self,ne_eq,Function.comp_def,beq_iff_eq]
    refine l24_all (n := 10) (hr1.gro g2.gro) hr2 (fun c hc => (hcl1 c hc).2) (fun c hc => (hcl2 c hc).2) (fun c hc => by have := units64 (hck c hc); omega) (by rw [cods_len hc1, cods_len hc2]) (cods_two hc1 hc2) (by omega) (by omega) fun s3 g3 => ?_
    simp only [evf,↓evp,evq,evr,fxa0,fxa1,fxa2,fxa3,fxu,fxn,fxl,↓fxp,lgc,absL,fitL,flatL,ares,ares1,ofVal,unSc,aload,afill,splice,abound,asI,elems,IntKind.bits,sortT,eqNil,closedL,allByte,patch,pendOK,numA,Value.cells,Value.oneCell',ibin,List.replicate,Option.elim,Nat.reduceAdd,Nat.reduceSub,Nat.reduceMul,Nat.reduceLT,Nat.reduceEqDiff,Nat.reduceLeDiff,Nat.reduceBEq,Int.reduceLE,Int.reduceLT,Int.reduceToNat,Int.reduceBNe,Int.reduceBEq,Int.reduceNeg,Int.reduceEq,Int.reduceNe,Nat.reduceBNe,Int.reduceAdd,Int.reduceSub,Int.reduceMul,Int.reducePow,Nat.reducePow,Int.reduceGT,Int.reduceGE,if_true,if_false,ite_true,ite_false,beq_self_eq_true,BEq.rfl,reduceCtorEq,eq_self,ne_eq,Function.comp_def,beq_iff_eq]
    refine awake24 (n := 3) (by omega) fun s5 g5 => ?_
    simp only [evf,↓evp,evq,evr,fxa0,fxa1,fxa2,fxa3,fxu,fxn,fxl,↓fxp,lgc,absL,fitL,flatL,ares,ares1,ofVal,unSc,aload,afill,splice,abound,asI,elems,IntKind.bits,sortT,eqNil,closedL,allByte,patch,pendOK,numA,Value.cells,Value.oneCell',ibin,List.replicate,Option.elim,Nat.reduceAdd,Nat.reduceSub,Nat.reduceMul,Nat.reduceLT,Nat.reduceEqDiff,Nat.reduceLeDiff,Nat.reduceBEq,Int.reduceLE,Int.reduceLT,Int.reduceToNat,Int.reduceBNe,Int.reduceBEq,Int.reduceNeg,Int.reduceEq,Int.reduceNe,Nat.reduceBNe,Int.reduceAdd,Int.reduceSub,Int.reduceMul,Int.reducePow,Nat.reducePow,Int.reduceGT,Int.reduceGE,if_true,if_false,ite_true,ite_false,beq_self_eq_true,BEq.rfl,reduceCtorEq,eq_self,ne_eq,Function.comp_def,beq_iff_eq]
end Go.Proofs.Ytfndpnmdjblokaa
