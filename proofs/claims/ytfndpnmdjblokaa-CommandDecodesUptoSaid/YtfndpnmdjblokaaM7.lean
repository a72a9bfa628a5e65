/- Operations that are no calls, on: stores, tests, cuts, places. -/
import Derived.Test.YtfndpnmdjblokaaM6
set_option linter.unusedVariables false
set_option linter.unusedSimpArgs false
namespace Go.M
open Go Go.RowKit
section
variable {P : Program} {σ σ' : Sg} {w w' w1 : World} {L L' : Nat → Lb}
variable {ρ : Operand → V} {ρ' : Operand → Value} {st' : List Ob} {v : V} {dst : Option Tmp} {ty : TypeId} {pos : String} {after : Array Edge} {gd : Option (Nat × Bool)}

theorem run_storeVar {t : TypeId} {n : Nat} (hs : szOf P t = some n) {b off : Nat} {us : Array Value} {e : TypeId} {u : Value} (hb : w.heap[b]? = some (.cells us e (0, 0))) (hn : u.cells.size = n) (hoff : off + n ≤ us.size) (h1 : ∀ v ∈ u.cells.toList, v.oneCell' = true) :
    (storeVar t ⟨b, off, none⟩ u).run P w = .ok () (w.setRow b (us.toList.take off ++ u.cells.toList ++ us.toList.drop (off + u.cells.toList.length)).toArray) := by
  have := run_storeCells_at P b off e u.cells.toList 0 us w hb (by simpa [hn] using hoff) h1
  simp only [Nat.add_zero] at this
  simp [storeVar, Sem.run_bind, szOf_run hs, hn, this]

theorem splice_take {α : Type} {a b : List α} {off k : Nat} (h1 : off + b.length ≤ k) (h2 : k ≤ a.length) : (a.take off ++ b ++ a.drop (off + b.length)).take k = (a.take k).take off ++ b ++ (a.take k).drop (off + b.length) := by
  have hl : (a.take off ++ b).length = off + b.length := by rw [List.length_append, List.length_take]; omega
  rw [List.take_append, List.take_of_length_le (by rw [hl]; exact h1), hl, List.take_take, Nat.min_eq_left (by omega), List.drop_take]

theorem y_store (g : Good P σ w) (hρ : ∀ x, RV P σ w (ρ x) (ρ' x)) {t : TypeId} {x y : Operand} (h : aval P ρ σ.st ⟨dst, .store t x y, ty, pos, after, gd⟩ = some (v, st')) : Yield P σ ρ' w ⟨dst, .store t x y, ty, pos, after, gd⟩ v st' := by
  have hx := hρ x
  have hy := hρ y
  simp only [aval] at h
  split at h
  · rename_i id off hxx
    rw [hxx] at hx
    simp only [RV] at hx
    obtain ⟨hx1, _⟩ := hx
    split at h
    · rename_i xs hst
      split at h
      · rename_i hc
        obtain ⟨hc1, hc2, hc3⟩ := hc
        cases h
        have hro := g.1 id _ hst
        simp only [RO] at hro
        obtain ⟨us, e, r1, r2, r3, r4⟩ := hro
        obtain ⟨hyr, hyo⟩ := cells_sound hy hc3
        have hl1 := RVl.length hyr
        have hl2 := RVl.length r2
        rw [Array.length_toList] at hl1 hl2
        have hrun := run_storeVar (P := P) (w := w) (n := (cellsV (ρ y)).length) (off := off) hc1.symm r1 (by rw [hl1]) (by rw [hl2]; exact hc2) hyo
        have hsp := RVl.splice (off := off) r2 hyr hc2
        obtain ⟨g1, g2⟩ := set_cells (P := P) g hst (Chg.setRow r1) (us' := (us.toList.take off ++ (ρ' y).cells.toList ++ us.toList.drop (off + (ρ' y).cells.toList.length)).toArray) (by simpa using hsp) (by
          intro u hu
          simp only [List.mem_append] at hu
          rcases hu with (hu | hu) | hu
          · exact r3 u (List.mem_of_mem_take hu)
          · exact hyo u hu
          · exact r3 u (List.mem_of_mem_drop hu))
        refine ⟨.skip, undef, _, _, ?_, .inr ⟨rfl, rfl⟩, rfl, g1, g2, by simp only [RV]⟩
        simp [execOp, hx1, Sem.run_bind, Instr.storeAt, Instr.sureAddr, hrun]
      · cases h
    · cases h
  · rename_i id off e hxx
    rw [hxx] at hx
    simp only [RV] at hx
    split at h
    · rename_i ty' xs n lo fz hst
      split at h
      · rename_i hc
        obtain ⟨hc1, hc2, rfl, rfl, hc3, hc4⟩ := hc
        cases h
        obtain ⟨ty2, xs2, n2, lo2, fz2, k1, k2, _, k3⟩ := hx
        rw [hst] at k1; cases k1
        have hro := g.1 id _ hst
        simp only [RO] at hro
        obtain ⟨us, s, C, r1, r2, r3, r4, r5, r6, r7, r8, r9, r10, _⟩ := hro
        obtain ⟨b, C', s', hp, hs, hh⟩ := k3 r8
        obtain ⟨e3, xs3, n3, lo3, fz3, s3, us3, fr, q1, q2, q3, q4, q5, q5', q6, q7, q8, q9, q10⟩ := hh
        rw [hst] at q1; cases q1
        obtain ⟨rfl, hsz⟩ := q10 rfl
        rw [r3] at q6; cases q6
        obtain ⟨hyr, hyo⟩ := cells_sound hy hc3
        have hyc := RVl.RCl hc4 hyo hyr
        have hl1 := RVl.length hyr
        have hul : us.toList.length = C * s := by rw [Array.length_toList, r4]
        have hle : e * s ≤ C * s := Nat.mul_le_mul_right _ r5
        rw [Array.length_toList] at hl1
        have hrun := run_storeVar (P := P) (w := w) (n := (cellsV (ρ y)).length) (off := off) hc1.symm r3 (by rw [hl1]) (by rw [r4]; omega) hyo
        have hz : (us.toList.take off ++ (ρ' y).cells.toList ++ us.toList.drop (off + (ρ' y).cells.toList.length)).toArray.size = us.size := by
          simp only [List.size_toArray, List.length_append, List.length_take, List.length_drop, hul, r4, Array.length_toList, hl1]; omega
        have hcont : RCl σ.L w (splice xs (cellsV (ρ y)) off) ((us.toList.take off ++ (ρ' y).cells.toList ++ us.toList.drop (off + (ρ' y).cells.toList.length)).take (e * s)) := by
          have h1 := splice_take (a := us.toList) (b := (ρ' y).cells.toList) (off := off) (k := e * s) (by rw [Array.length_toList]; omega) (by omega)
          rw [h1, splice, ← hl1, ← Array.length_toList]
          exact RCl.app (RCl.app (RCl.take r9) hyc) (RCl.drop r9)
        obtain ⟨g1, g2⟩ := set_row (P := P) g hst r3 r1 r4 (Chg.setRow r3) hz (by simpa using hcont) (by rw [splice_len hc2, r7])
        refine ⟨.skip, undef, _, _, ?_, .inr ⟨rfl, rfl⟩, rfl, g1, g2, by simp only [RV]⟩
        simp [execOp, hp, Sem.run_bind, Instr.storeAt, Instr.sureAddr, hrun]
      · cases h
    · cases h
  · cases h

theorem y_nilCheck (g : Good P σ w) (hρ : ∀ x, RV P σ w (ρ x) (ρ' x)) {x : Operand} (h : aval P ρ σ.st ⟨dst, .nilCheck x, ty, pos, after, gd⟩ = some (v, st')) : YieldS P σ ρ' w ⟨dst, .nilCheck x, ty, pos, after, gd⟩ v st' := by
  have hx := hρ x
  simp only [aval] at h
  split at h
  · rename_i id off hxx
    cases h
    rw [hxx] at hx
    have hx' := hx
    simp only [RV] at hx'
    exact Yield.same (u := ρ' x) g (by simp [execOp, hx'.1]) hx
  · rename_i id off e hxx
    cases h
    rw [hxx] at hx
    have hx' := hx
    simp only [RV] at hx'
    obtain ⟨_, _, _, _, _, _, _, ⟨a, ha⟩, _⟩ := hx'
    exact Yield.same (u := ρ' x) g (by simp [execOp, ha]) hx
  · rename_i xs hxx
    cases h
    rw [hxx] at hx
    have hx' := hx
    simp only [RV] at hx'
    obtain ⟨a, us, ha, _⟩ := hx'
    exact Yield.same (u := ρ' x) g (by simp [execOp, ha]) hx
  · rename_i f cs hxx
    split at h
    · cases h
      rw [hxx] at hx
      have hx' := hx
      simp only [RV] at hx'
      obtain ⟨us, ha, _⟩ := hx'
      exact Yield.same (u := ρ' x) g (by simp [execOp, ha]) hx
    · cases h
  · cases h

theorem sort1 {x : V} {u : Value} (hs : sortV x = 1) (h : RV P σ w x u) : ∃ A n c, u = .slice A n c ∧ A.isNone = nilV x := by
  cases x with
  | tsl xs len nil full =>
    simp only [RV, RC] at h
    obtain ⟨A, c, us, rfl, _, _, _, h4, h5, _⟩ := h
    refine ⟨A, len, c, rfl, ?_⟩
    cases nil with
    | true => rw [(h4 rfl).1]; rfl
    | false => have := h5 rfl; cases A <;> simp_all [nilV]
  | sl id off len full =>
    simp only [RV, RSl] at h
    obtain ⟨_, _, _, _, _, _, _, _, _, ⟨a, c, rfl, _⟩, _⟩ := h
    exact ⟨some a, len, c, rfl, rfl⟩
  | sc v => simp only [sortV] at hs; split at hs <;> simp_all
  | _ => simp [sortV] at hs

theorem sort2 {x : V} {u : Value} (hs : sortV x = 2) (h : RV P σ w x u) : ∃ A, u = .pointer A ∧ A.isNone = nilV x := by
  cases x with
  | ref id off => simp only [RV] at h; exact ⟨_, h.1, rfl⟩
  | rref id off e => simp only [RV] at h; obtain ⟨_, _, _, _, _, _, _, ⟨a, rfl⟩, _⟩ := h; exact ⟨some a, rfl, rfl⟩
  | tref xs => simp only [RV] at h; obtain ⟨a, us, rfl, _⟩ := h; exact ⟨some a, rfl, rfl⟩
  | sc v =>
    simp only [RV] at h
    subst h
    simp only [sortV] at hs
    split at hs <;> simp_all [nilV]
  | _ => simp [sortV] at hs

theorem sort3 {x : V} {u : Value} (hs : sortV x = 3) (h : RV P σ w x u) : ∃ A, u = .map A ∧ A.isNone = nilV x := by
  cases x with
  | map id => simp only [RV] at h; exact ⟨_, h.1, rfl⟩
  | sc v =>
    simp only [RV] at h
    subst h
    simp only [sortV] at hs
    split at hs <;> simp_all [nilV]
  | _ => simp [sortV] at hs

theorem sort4 {x : V} {u : Value} (hs : sortV x = 4) (h : RV P σ w x u) : (u = .nilFunc ∧ nilV x = true) ∨ (∃ f a b, u = .func f a b ∧ nilV x = false) := by
  cases x with
  | fn f caps => simp only [RV] at h; obtain ⟨us, rfl, _⟩ := h; exact .inr ⟨_, _, _, rfl, rfl⟩
  | sc v =>
    simp only [RV] at h
    subst h
    simp only [sortV] at hs
    split at hs <;> simp_all [nilV]
  | _ => simp [sortV] at hs

theorem eq_slice {t e : TypeId} (hu : P.underlying t = some (.slice e)) {A B : Option Addr} {n m c d : Nat} (h : (A.isNone || B.isNone) = true) : (Op.equal t (.slice A n c) (.slice B m d)).run P w = .ok (A.isNone && B.isNone) w := by
  show (Op.equalIn (9999 + 1) t (.slice A n c) (.slice B m d)).run P w = _
  rw [Op.equalIn, Sem.run_bind, run_underlying hu, Result.andThen_ok]
  cases A <;> cases B <;> first | rfl | simp at h
theorem eq_pointer {t e : TypeId} (hu : P.underlying t = some (.pointer e)) {A B : Option Addr} (h : (A.isNone || B.isNone) = true) : (Op.equal t (.pointer A) (.pointer B)).run P w = .ok (A.isNone && B.isNone) w := by
  show (Op.equalIn (9999 + 1) t (.pointer A) (.pointer B)).run P w = _
  rw [Op.equalIn, Sem.run_bind, run_underlying hu, Result.andThen_ok]
  cases A <;> cases B <;> first | rfl | simp at h
theorem eq_map {t k e : TypeId} (hu : P.underlying t = some (.map k e)) {A B : Option Nat} (h : (A.isNone || B.isNone) = true) : (Op.equal t (.map A) (.map B)).run P w = .ok (A.isNone && B.isNone) w := by
  show (Op.equalIn (9999 + 1) t (.map A) (.map B)).run P w = _
  rw [Op.equalIn, Sem.run_bind, run_underlying hu, Result.andThen_ok]
  cases A <;> cases B <;> first | rfl | simp at h

theorem eql_of {t : TypeId} {x y : Operand} {a b : Value} {r : Bool} (h1 : eqGuard .eql t x y a b = pure ()) (h2 : eqGuard .neq t x y a b = pure ()) (h3 : binOp .eql t a b = (do pure (.bool (← Op.equal t a b)))) (h4 : binOp .neq t a b = (do pure (.bool (!(← Op.equal t a b)))))
    (h : (Op.equal t a b).run P w = .ok r w) : (do eqGuard .eql t x y a b; binOp .eql t a b : Sem Value).run P w = .ok (.bool r) w ∧ (do eqGuard .neq t x y a b; binOp .neq t a b : Sem Value).run P w = .ok (.bool !r) w := by
  rw [h1, h2, h3, h4]
  simp [Sem.run_bind, h]

theorem y_binOp (g : Good P σ w) (hρ : ∀ x, RV P σ w (ρ x) (ρ' x)) {op : BinOp} {t t2 : TypeId} {x y : Operand} (h : aval P ρ σ.st ⟨dst, .binOp op t x y t2, ty, pos, after, gd⟩ = some (v, st')) : YieldS P σ ρ' w ⟨dst, .binOp op t x y t2, ty, pos, after, gd⟩ v st' := by
  have hx := hρ x
  have hy := hρ y
  simp only [aval, abin] at h
  split at h
  · rename_i a b ha hb
    simp only [Option.map_map] at h
    obtain ⟨u, hu, hh⟩ := Option.map_eq_some_iff.1 h
    cases hh
    have := pureRun_sound hu w
    rw [← toVal_sound ha hx, ← toVal_sound hb hy] at this
    exact Yield.same g (by simp only [execOp]; exact run_v (α := Unit) this) (by simp only [RV])
  · have key : ∀ b, eqNil P t (ρ x) (ρ y) = some b → (do eqGuard .eql t x y (ρ' x) (ρ' y); binOp .eql t (ρ' x) (ρ' y)).run P w = .ok (.bool b) w ∧ (do eqGuard .neq t x y (ρ' x) (ρ' y); binOp .neq t (ρ' x) (ρ' y)).run P w = .ok (.bool !b) w := by
      intro b hb
      unfold eqNil at hb
      cases hu : P.underlying t with
      | none => simp [hu] at hb
      | some d =>
        simp only [hu] at hb
        split at hb
        · rename_i hc
          obtain ⟨h1, h2, h3⟩ := hc
          cases hb
          cases d with
          | slice e =>
            obtain ⟨A, n, c, hA, hA2⟩ := sort1 h1 hx
            obtain ⟨B, m, c2, hB, hB2⟩ := sort1 h2 hy
            rw [hA, hB, ← hA2, ← hB2]
            rw [← hA2, ← hB2] at h3
            exact eql_of rfl rfl rfl rfl (eq_slice hu h3)
          | pointer e =>
            obtain ⟨A, hA, hA2⟩ := sort2 h1 hx
            obtain ⟨B, hB, hB2⟩ := sort2 h2 hy
            rw [hA, hB, ← hA2, ← hB2]
            rw [← hA2, ← hB2] at h3
            refine eql_of rfl rfl ?_ ?_ (eq_pointer hu h3)
            · cases A <;> cases B <;> rfl
            · cases A <;> cases B <;> rfl
          | map k e =>
            obtain ⟨A, hA, hA2⟩ := sort3 h1 hx
            obtain ⟨B, hB, hB2⟩ := sort3 h2 hy
            rw [hA, hB, ← hA2, ← hB2]
            rw [← hA2, ← hB2] at h3
            exact eql_of rfl rfl rfl rfl (eq_map hu h3)
          | func a b c =>
            rcases sort4 h1 hx with ⟨hA, hA2⟩ | ⟨f1, f2, f3, hA, hA2⟩ <;> rcases sort4 h2 hy with ⟨hB, hB2⟩ | ⟨f4, f5, f6, hB, hB2⟩ <;> rw [hA, hB, hA2, hB2] <;> rw [hA2, hB2] at h3
            · refine eql_of rfl rfl rfl rfl ?_
              show (Op.equalIn (9999 + 1) t _ _).run P w = _
              rw [Op.equalIn, Sem.run_bind, run_underlying hu, Result.andThen_ok]
              rfl
            · refine eql_of rfl rfl rfl rfl ?_
              show (Op.equalIn (9999 + 1) t _ _).run P w = _
              rw [Op.equalIn, Sem.run_bind, run_underlying hu, Result.andThen_ok]
              rfl
            · refine eql_of rfl rfl rfl rfl ?_
              show (Op.equalIn (9999 + 1) t _ _).run P w = _
              rw [Op.equalIn, Sem.run_bind, run_underlying hu, Result.andThen_ok]
              rfl
            · simp at h3
          | _ =>
            exfalso
            have h5 : sortV (ρ x) = 5 := h1
            have : sortV (ρ x) ≤ 4 := by
              unfold sortV
              split <;> omega
            omega
        · cases hb
    split at h
    · rename_i b hb
      cases h
      exact Yield.same (u := .bool b) g (by simp only [execOp]; exact run_v (α := Unit) (key b hb).1) (by simp only [RV])
    · rename_i b hb
      cases h
      exact Yield.same (u := .bool !b) g (by simp only [execOp]; exact run_v (α := Unit) (key b hb).2) (by simp only [RV])
    · cases h
end
end Go.M
