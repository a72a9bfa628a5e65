/- The plain law of chapter 2's reader: what a reader's state becomes. -/
import Derived.Test.YtfndpnmdjblokaaM17
import Derived.Laws.BitsAllLaws
import Derived.IntWalk
namespace Go.M
open Go
/-- The next number, and how many bytes it has; 0: there is none. -/
def pk : List Int → Nat → Nat → Nat × Nat
  | [], _, _ => (0, 0)
  | c :: l, k, n => if (k = 9 ∧ c > 1) ∨ (c = 0 ∧ k > 0) then (0, 0) else if c < 128 then (n + c.toNat % 128 * 128 ^ k, k + 1) else pk l (k + 1) (n + c.toNat % 128 * 128 ^ k)
/-- A reader: its bytes, where it is, what was wrong. -/
structure RS where
  b : List Int
  at_ : Nat
  e : Int
def RS.uv (r : RS) : Nat × RS := if r.e = 0 then if (pk (r.b.drop r.at_) 0 0).2 = 0 then (0, { r with e := 5 }) else ((pk (r.b.drop r.at_) 0 0).1, { r with at_ := r.at_ + (pk (r.b.drop r.at_) 0 0).2 }) else (0, r)
theorem pk_lt : ∀ (l : List Int) (k n : Nat), (∀ c ∈ l, 0 ≤ c ∧ c < 256) → k ≤ 9 → n < 128 ^ k → (pk l k n).1 < 18446744073709551616 ∧ (pk l k n).2 ≤ k + l.length
  | [], k, n, h, hk, hn => by simp [pk]
  | c :: l, k, n, h, hk, hn => by
    have hc := h c (by simp)
    simp only [pk]
    split
    · simp
    · rename_i h1
      have h2 : 128 ^ (k + 1) = 128 ^ k * 128 := Nat.pow_succ ..
      have h3 : c.toNat % 128 * 128 ^ k ≤ 127 * 128 ^ k := Nat.mul_le_mul_right _ (by omega)
      split
      · refine ⟨?_, by simp only [List.length_cons]; omega⟩
        rcases Nat.lt_or_ge k 9 with h9 | h9
        · have h4 : 128 ^ (k + 1) ≤ 128 ^ 9 := Nat.pow_le_pow_right (by omega) (by omega)
          simp only
          omega
        · obtain rfl : k = 9 := by omega
          have : c.toNat % 128 ≤ 1 := by omega
          have : c.toNat % 128 * 128 ^ 9 ≤ 1 * 128 ^ 9 := Nat.mul_le_mul_right _ this
          simp only
          omega
      · have := pk_lt l (k + 1) (n + c.toNat % 128 * 128 ^ k) (fun d hd => h d (by simp [hd])) (by omega) (by omega)
        exact ⟨this.1, by have := this.2; simp only [List.length_cons]; omega⟩
theorem pk_zero : ∀ (l : List Int) (k n : Nat), (pk l k n).2 = 0 → (pk l k n).1 = 0
  | [], k, n, _ => rfl
  | c :: l, k, n, h => by
    simp only [pk] at h ⊢
    split
    · rfl
    · rename_i h1
      rw [if_neg h1] at h
      split
      · rename_i h2; rw [if_pos h2] at h; simp at h
      · rename_i h2; rw [if_neg h2] at h; exact pk_zero _ _ _ h
theorem shl_or {n d k : Nat} (hn : n < 2 ^ k) : n ||| d * 2 ^ k = n + d * 2 ^ k := by
  rw [Nat.or_comm, Nat.mul_comm, ← Nat.two_pow_add_eq_or_of_lt hn, Nat.add_comm]
/-- The program's reader holds this. -/
def RS.c (bv : V) (r : RS) : List V := [bv, .sc (.int .i64 r.at_), .sc (.int .i64 r.e)]
structure RS.ok (r : RS) : Prop where
  at_ : r.at_ ≤ r.b.length
  len : r.b.length < 4611686018427387904
  b : ∀ c ∈ r.b, 0 ≤ c ∧ c < 256
theorem RS.uv_ok {r : RS} (h : r.ok) : r.uv.2.ok := by
  have := (pk_lt (r.b.drop r.at_) 0 0 (fun c hc => h.b c (List.drop_subset _ _ hc)) (by omega) (by simp)).2
  have h0 := h.at_
  rw [List.length_drop] at this
  unfold RS.uv
  split
  · split
    · exact ⟨h.at_, h.len, h.b⟩
    · exact ⟨by simp only; omega, h.len, h.b⟩
  · exact h
theorem RS.uv_lt {r : RS} (h : r.ok) : r.uv.1 < 18446744073709551616 := by
  have := (pk_lt (r.b.drop r.at_) 0 0 (fun c hc => h.b c (List.drop_subset _ _ hc)) (by omega) (by simp)).1
  unfold RS.uv
  split
  · split
    · simp
    · exact this
  · simp
/-- A number with sign, out of one without. -/
def zag (n : Nat) : Int := if n % 2 = 1 then -((n / 2 : Nat) : Int) - 1 else ((n / 2 : Nat) : Int)
theorem zag_xor {n : Nat} (h : n < 18446744073709551616) : bits .xor .i64 ((n / 2 : Nat) : Int) (-((n % 2 : Nat) : Int)) = zag n := by
  show IntKind.i64.wrap ((BitVec.ofInt 64 ((n / 2 : Nat) : Int) ^^^ BitVec.ofInt 64 (-((n % 2 : Nat) : Int))).toNat : Int) = _
  unfold zag
  rcases Nat.mod_two_eq_zero_or_one n with h2 | h2
  · rw [h2, if_neg (by omega), show BitVec.ofInt 64 (-((0 : Nat) : Int)) = 0#64 by decide, BitVec.xor_zero, ofInt_u64 _ (by omega)]
    rw [IntKind.wrap_i64]; omega
  · rw [h2, if_pos rfl, show BitVec.ofInt 64 (-((1 : Nat) : Int)) = BitVec.allOnes 64 by decide, BitVec.xor_allOnes, BitVec.toNat_not, ofInt_u64 _ (by omega)]
    rw [IntKind.wrap_i64]; omega
/-- The next k bytes. -/
def RS.tk (k : Nat) (r : RS) : Option (List Int) × RS := if r.e = 0 then (if k + r.at_ > r.b.length then (none, { r with e := 5 }) else (some ((r.b.drop r.at_).take k), { r with at_ := r.at_ + k })) else (none, r)
/-- Bytes as a number. -/
def le : List Int → Nat
  | [] => 0
  | c :: l => c.toNat + 256 * le l
theorem le_lt : ∀ l : List Int, (∀ c ∈ l, 0 ≤ c ∧ c < 256) → le l < 256 ^ l.length
  | [], _ => by simp [le]
  | c :: l, h => by
    have := le_lt l fun d hd => h d (by simp [hd])
    have := h c (by simp)
    rw [le, List.length_cons, Nat.pow_succ]
    omega
theorem le_append : ∀ a b : List Int, le (a ++ b) = le a + 256 ^ a.length * le b
  | [], b => by simp [le]
  | c :: a, b => by
    rw [List.cons_append, le, le_append a b, le, List.length_cons, Nat.pow_succ, Nat.mul_add, Nat.mul_comm (256 ^ a.length) 256, Nat.mul_assoc]; omega
def RS.fx (k : Nat) (r : RS) : Nat × RS := match r.tk k with
  | (none, r') => (0, r')
  | (some l, r') => (le l, r')
/-- The next number, at most this. -/
def RS.nb (most : Int) (r : RS) : Int × RS := if r.e = 0 then (if (pk (r.b.drop r.at_) 0 0).2 = 0 then (0, { r with e := 5 }) else if ((pk (r.b.drop r.at_) 0 0).1 : Int) > most ∨ most < 0 then (0, { r with e := 3 }) else (((pk (r.b.drop r.at_) 0 0).1 : Int), { r with at_ := r.at_ + (pk (r.b.drop r.at_) 0 0).2 })) else (0, r)
/-- The next bytes, at most so many. -/
def RS.by (most : Int) (r : RS) : List Int × RS := if r.e = 0 then (if (pk (r.b.drop r.at_) 0 0).2 = 0 then ([], { r with e := 5 }) else if ((pk (r.b.drop r.at_) 0 0).1 : Int) > most ∨ most < 0 then ([], { r with e := 3 }) else
  if (pk (r.b.drop r.at_) 0 0).1 + r.at_ + (pk (r.b.drop r.at_) 0 0).2 > r.b.length then ([], { r with e := 5 }) else ((r.b.drop (r.at_ + (pk (r.b.drop r.at_) 0 0).2)).take (pk (r.b.drop r.at_) 0 0).1, { r with at_ := r.at_ + (pk (r.b.drop r.at_) 0 0).2 + (pk (r.b.drop r.at_) 0 0).1 })) else ([], r)
theorem RS.tk_ok {r : RS} (h : r.ok) (k : Nat) : (r.tk k).2.ok := by
  unfold RS.tk
  split
  · split
    · exact ⟨h.at_, h.len, h.b⟩
    · exact ⟨by simp only; omega, h.len, h.b⟩
  · exact h
theorem pk_at {r : RS} (h : r.ok) : r.at_ + (pk (r.b.drop r.at_) 0 0).2 ≤ r.b.length := by
  have := (pk_lt (r.b.drop r.at_) 0 0 (fun c hc => h.b c (List.drop_subset _ _ hc)) (by omega) (by simp)).2
  have := h.at_
  simp only [List.length_drop] at *
  omega
theorem pk_u64 {r : RS} (h : r.ok) : (pk (r.b.drop r.at_) 0 0).1 < 18446744073709551616 := (pk_lt (r.b.drop r.at_) 0 0 (fun c hc => h.b c (List.drop_subset _ _ hc)) (by omega) (by simp)).1
theorem RS.nb_ok {r : RS} (h : r.ok) (most : Int) : (r.nb most).2.ok := by
  have := pk_at h
  unfold RS.nb
  repeat' split
  all_goals first | exact h | exact ⟨h.at_, h.len, h.b⟩ | exact ⟨this, h.len, h.b⟩
theorem RS.by_ok {r : RS} (h : r.ok) (most : Int) : (r.by most).2.ok := by
  have := pk_at h
  unfold RS.by
  repeat' split
  all_goals first | exact h | exact ⟨h.at_, h.len, h.b⟩ | exact ⟨this, h.len, h.b⟩ | exact ⟨by simp only; omega, h.len, h.b⟩
theorem RS.fx_ok {r : RS} (h : r.ok) (k : Nat) : (r.fx k).2.ok := by
  have := RS.tk_ok h k
  unfold RS.fx
  split <;> simp_all
/-- What was wrong, bytes that are left among it. -/
def RS.dn (r : RS) : Int := if r.e = 0 then (if r.at_ < r.b.length then 5 else 0) else r.e
theorem RS.uv_b (r : RS) : r.uv.2.b = r.b := by
  unfold RS.uv
  repeat' split
  all_goals rfl
theorem RS.tk_b (r : RS) (k : Nat) : (r.tk k).2.b = r.b := by
  unfold RS.tk
  repeat' split
  all_goals rfl
theorem RS.fx_b (r : RS) (k : Nat) : (r.fx k).2.b = r.b := by
  have := RS.tk_b r k
  unfold RS.fx; split <;> simp_all
theorem RS.nb_b (r : RS) (k : Int) : (r.nb k).2.b = r.b := by
  unfold RS.nb
  repeat' split
  all_goals rfl
theorem RS.by_b (r : RS) (k : Int) : (r.by k).2.b = r.b := by
  unfold RS.by
  repeat' split
  all_goals rfl
end Go.M
