/- The plain law of chapter 2: what is written is what is read. -/
import Derived.Test.YtfndpnmdjblokaaW4
import Derived.Test.YtfndpnmdjblokaaP02
set_option linter.unusedVariables false
set_option linter.unusedSimpArgs false
set_option maxRecDepth 10000
namespace Go.Proofs.Ytfndpnmdjblokaa
open Go Go.M Go.RowKit
attribute [local congr] acallF_cong aloop_cong bcase_cong resK_cong valK_cong wantK_cong callK_cong xputK_cong qputK_cong
attribute [local irreducible] seqK blockK loopK nextK bcase resK valK wantK funK putK dputK xputK qputK callK aops aop acode adraw aloop acallF acall invK
theorem pk_canon : ∀ (l : List Int) (i x : Nat), (∀ c ∈ l, 0 ≤ c ∧ c < 256) → (pk l i x).2 ≠ 0 → ∃ z j, (pk l i x).1 = x + z * 128 ^ i ∧ (pk l i x).2 = i + j ∧ l.take j = uvb z ∧ (0 < i → 0 < z)
  | [], i, x, hb, h => absurd rfl h
  | c :: l, i, x, hb, h => by
    have hc := hb c (by simp)
    simp only [pk] at h ⊢
    by_cases h1 : (i = 9 ∧ c > 1) ∨ (c = 0 ∧ i > 0)
    · rw [if_pos h1] at h; exact absurd rfl h
    · rw [if_neg h1] at h ⊢
      by_cases h2 : c < 128
      · rw [if_pos h2]
        refine ⟨c.toNat, 1, ?_, rfl, ?_, by omega⟩
        · rw [show c.toNat % 128 = c.toNat by omega]
        · rw [uvb_lt (by omega)]
          have : (c.toNat : Int) = c := by omega
          simp [this]
      · rw [if_neg h2] at h ⊢
        obtain ⟨z, j, k1, k2, k3, k4⟩ := pk_canon l (i + 1) _ (fun d hd => hb d (by simp [hd])) h
        have hz := k4 (by omega)
        refine ⟨c.toNat % 128 + 128 * z, j + 1, ?_, by omega, ?_, fun _ => by omega⟩
        · rw [k1, Nat.pow_succ, Nat.add_mul, Nat.mul_comm (128 ^ i) 128, ← Nat.mul_assoc, Nat.mul_comm z 128]; omega
        · rw [uvb_ge (by omega), List.take_succ_cons, k3, show (c.toNat % 128 + 128 * z) / 128 = z by omega]
          congr 1
          omega
theorem pk_back : ∀ (z i y : Nat) (l : List Int), i ≤ 9 → z * 128 ^ i < 18446744073709551616 → (0 < i → 0 < z) → pk (uvb z ++ l) i y = (y + z * 128 ^ i, i + (uvb z).length) := by
  intro z
  induction z using Nat.strongRecOn with
  | ind z ih =>
    intro i y l hi hz h0
    have h9 : i = 9 → z ≤ 1 := fun h => by
      subst h
      rw [show 128 ^ 9 = 9223372036854775808 from rfl] at hz
      omega
    by_cases h : z < 128
    · rw [uvb_lt h]
      simp only [List.cons_append, List.nil_append, pk, List.length_cons, List.length_nil]
      rw [if_neg (by omega), if_pos (by omega), Int.toNat_natCast, Nat.mod_eq_of_lt h]
    · rw [uvb_ge h]
      simp only [List.cons_append, pk, List.length_cons]
      have h9' : i ≠ 9 := fun e => by have := h9 e; omega
      rw [if_neg (by omega), if_neg (by omega), Int.toNat_natCast, show (z % 128 + 128) % 128 = z % 128 by omega]
      have e : z = z % 128 + 128 * (z / 128) := by omega
      have e2 : z * 128 ^ i = z % 128 * 128 ^ i + z / 128 * 128 ^ (i + 1) := by
        conv => lhs; rw [e]
        rw [Nat.add_mul, Nat.pow_succ, Nat.mul_comm 128 (z / 128), Nat.mul_assoc, Nat.mul_comm 128 (128 ^ i)]
      rw [ih (z / 128) (by omega) (i + 1) _ l (by omega) (by omega) (fun _ => by omega), e2]
      congr 1 <;> omega
theorem zz_zag {n : Nat} (h : n < 18446744073709551616) : zz (zag n) = n := by
  unfold zz zag
  split <;> split <;> omega
theorem zag_in {n : Nat} (h : n < 18446744073709551616) : -9223372036854775808 ≤ zag n ∧ zag n < 9223372036854775808 := by
  unfold zag; split <;> omega
theorem zag_zz (n : Int) : zag (zz n) = n := by
  unfold zz zag
  split <;> split <;> omega
theorem le_fxb : ∀ (k x : Nat), le (fxb x k) = x % 256 ^ k
  | 0, x => by simp [fxb, le, Nat.mod_one]
  | k + 1, x => by
    rw [fxb, le, le_fxb k, Int.toNat_natCast, Nat.pow_succ, Nat.mul_comm (256 ^ k), Nat.mod_mul]
/-- What is read back, of a number. -/
theorem RS.uv_back {r : RS} {x : Nat} {l : List Int} (he : r.e = 0) (hx : x < 18446744073709551616) (hd : r.b.drop r.at_ = uvb x ++ l) : r.uv = (x, { r with at_ := r.at_ + (uvb x).length }) := by
  have := pk_back x 0 0 l (by omega) (by omega) (by omega)
  simp only [Nat.zero_add, Nat.pow_zero, Nat.mul_one] at this
  have hl : (uvb x).length ≠ 0 := by
    by_cases h : x < 128
    · rw [uvb_lt h]; simp
    · rw [uvb_ge h]; simp
  simp only [RS.uv, if_pos he, hd, this, if_neg hl]
theorem RS.tk_back {r : RS} {a l : List Int} (he : r.e = 0) (hat : r.at_ ≤ r.b.length) (hd : r.b.drop r.at_ = a ++ l) : r.tk a.length = (some a, { r with at_ := r.at_ + a.length }) := by
  have := congrArg List.length hd
  rw [List.length_drop, List.length_append] at this
  simp only [RS.tk, if_pos he, if_neg (show ¬ a.length + r.at_ > r.b.length by omega), hd, List.take_left]
theorem RS.fx_back {r : RS} {x k : Nat} {l : List Int} (he : r.e = 0) (hat : r.at_ ≤ r.b.length) (hd : r.b.drop r.at_ = fxb x k ++ l) : r.fx k = (x % 256 ^ k, { r with at_ := r.at_ + k }) := by
  have := RS.tk_back he hat hd
  rw [fxb_length] at this
  simp only [RS.fx, this, le_fxb]
theorem RS.by_back {r : RS} {a l : List Int} (he : r.e = 0) (hat : r.at_ ≤ r.b.length) (hl : a.length < 18446744073709551616) (hd : r.b.drop r.at_ = (uvb a.length ++ a) ++ l) : r.by a.length = (a, { r with at_ := r.at_ + (uvb a.length ++ a).length }) := by
  have h1 := pk_back a.length 0 0 (a ++ l) (by omega) (by omega) (by omega)
  simp only [Nat.zero_add, Nat.pow_zero, Nat.mul_one] at h1
  rw [List.append_assoc] at hd
  have hn : (uvb a.length).length ≠ 0 := by
    by_cases h : a.length < 128
    · rw [uvb_lt h]; simp
    · rw [uvb_ge h]; simp
  have h2 := congrArg List.length hd
  rw [List.length_drop, List.length_append, List.length_append] at h2
  have h3 : r.b.drop (r.at_ + (uvb a.length).length) = a ++ l := by rw [← List.drop_drop, hd, List.drop_left]
  simp only [RS.by, if_pos he, hd, h1, if_neg hn]
  rw [if_neg (by omega), if_neg (by omega), h3, List.take_left, List.length_append, Nat.add_assoc]
end Go.Proofs.Ytfndpnmdjblokaa
