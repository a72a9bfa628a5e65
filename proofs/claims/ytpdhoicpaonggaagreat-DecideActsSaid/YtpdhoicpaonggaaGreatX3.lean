/- Chapter 4: a map of one's own; New by the document; Check by the program. Chapter 4, the plain law: what the program's maps hold, and the document's list. Chapter 4, the plain law: which maps may be. Chapter 4: both worlds, an edit in both. Chapter 4: a map's worlds behind edits. Chapter 4: each cell's terrain and building: the law. Chapter 4: maps and edits, as they are handed in. -/
import Derived.Test.YtpdhoicpaonggaaGreatX2
set_option linter.unusedVariables false
set_option linter.unusedSimpArgs false
set_option maxRecDepth 10000
namespace Go.Proofs.YtpdhoicpaonggaaGreat
open Go Go.M Go.RowKit
attribute [local congr] acallF_cong aloop_cong bcase_cong resK_cong valK_cong wantK_cong callK_cong xputK_cong qputK_cong resM_cong rfK_cong
attribute [local irreducible] seqK blockK loopK nextK bcase resK valK wantK funK putK dputK xputK qputK callK aops aop acode adraw aloop acallF acall invK resM rfK rfEnd rdEnd rdMid around
section
variable {n m : Nat} {st s : List Ob} {K : V → List Ob → Prop} {WW HH : Int} {T : List Int} {L : List B4} {tv bv : V}
theorem nil_app {P : Program} {s : List Ob} {e t : TypeId} {x : V} {zs : List V} {k : Nat} (ht : P.underlying t = some (.slice e)) {sz by_ : Nat} {z : Value} (hs : szOf P e = some sz) (hb : bytesOf P e = some by_) (hz : zeroOf P e = some z) (h0 : 0 < sz) (hzs : z.cells.size = sz)
    (hx : Rd P s e x zs k) (hc : closedL zs = true) (h1 : k * by_ ≤ 140737488355328) (h2 : k ≤ 9223372036854775807) :
    ∃ v' s', aappend P s t (.tsl [] 0 true true) x = some (v', s') ∧ Gl s' e v' zs k ∧ Grw s s' ∧ (∀ j, rowOf v' = some j → s.length ≤ j) := by
  obtain ⟨v', s', a1, a2, a3, a4⟩ := gl_app (P := P) (t := t) (e := e) (s := s) (v := .tsl [] 0 true true) (xs := []) (n := 0) (x := x) (.inl ⟨rfl, rfl, rfl⟩) ht hs hb hz h0 hzs (by simp) hx.1 hc (hx.2.2 _ hs) (by simpa using h1) (by simpa using h2)
  rw [List.nil_append, Nat.zero_add] at a2
  refine ⟨v', s', a1, a2, fun j o h => a3.2 _ _ (fun hh => by cases hh) h, fun j h => ?_⟩
  rcases a4 j h with h' | h'
  · cases h'
  · exact h'
theorem bs_len (T : List Int) : (bs T).length = T.length := by simp [bs]
set_option maxHeartbeats 2000000 in
theorem q_New (ht : Rd Tryz.prog st 5 tv (bs T) T.length) (hb : Rd Tryz.prog st 115 bv (L.flatMap B4.v) L.length) (ot : one tv = true ∧ cellsV tv = [tv]) (ob : one bv = true ∧ cellsV bv = [bv]) (hm : 300 < m) (hTm : T.length < m) (hTb : ∀ t ∈ T, 0 ≤ t ∧ t < 256) (hT : T.length ≤ 140737488355328) (hL : L.length ≤ 3518437208883)
    (hE : refOK WW HH T L = false → ∀ s, Grw st s → K (.tup [.sc (.pointer none), .sc (.int .i64 1)]) s)
    (hO : refOK WW HH T L = true → ∀ rd tv' bv' s, Wr s rd WW HH tv' bv' (.tsl [] 0 true true) (bs T) L [] → Grw st s → st.length ≤ rd → (∀ j, rowOf tv' = some j → st.length ≤ j) → (∀ j, rowOf bv' = some j → st.length ≤ j) → K (.tup [.ref rd 0, .sc (.int .i64 0)]) s) :
    acallF Tryz.prog pl (n + 8) m 16 [.agg (mp WW HH tv bv)] st K := by
  refine acallF_inF Tryz.func16 rfl rfl Tryz.ntmps16 (by simp) ?_
  obtain ⟨s1, hs1⟩ : ∃ s1, s1 = st ++ [Ob.cells (mp WW HH tv bv)] := ⟨_, rfl⟩
  have g1 : Grw st s1 := by rw [hs1]; exact .push _ _
  have c1 : s1[st.length]? = some (.cells (mp WW HH tv bv)) := by rw [hs1]; exact get_new0 _ _
  simp only [mp] at hs1 c1
  simp only [mp, ot.1, ot.2, ob.1, ob.2, ↓zP,zV,Nat.reduceAdd,Nat.reduceMul,Nat.reduceLT,Nat.reduceEqDiff,Nat.reduceLeDiff,Int.reduceLE,Int.reduceLT,Int.reduceBNe,Int.reduceBEq,Int.reduceNeg,Int.reduceEq,Int.reduceAdd,Int.reduceGT,Int.reduceGE,reduceCtorEq]
  rw [← hs1]
  refine q_Check (n := n) (ht.grw g1) (hb.grw g1) ot ob hm hTm hTb (fun e s2 g2 => ?_) fun e s2 g2 => ?_
  · simp only [↓zP,zV,Nat.reduceAdd,Nat.reduceMul,Nat.reduceLT,Nat.reduceEqDiff,Nat.reduceLeDiff,Int.reduceLE,Int.reduceLT,Int.reduceBNe,Int.reduceBEq,Int.reduceNeg,Int.reduceEq,Int.reduceAdd,Int.reduceGT,Int.reduceGE,reduceCtorEq]
    exact hE e _ (g1.trans g2)
  have c2 := g2 _ _ c1
  obtain ⟨s3, hs3⟩ : ∃ s3, s3 = s2 ++ [Ob.cells [.sc (.int .i64 WW), .sc (.int .i64 HH), .tsl [] 0 true true, .tsl [] 0 true true, .tsl [] 0 true true]] := ⟨_, rfl⟩
  have g3 : Grw s2 s3 := by rw [hs3]; exact .push _ _
  have c3 := g3 _ _ c2
  have w3 : s3[s2.length]? = some (.cells [.sc (.int .i64 WW), .sc (.int .i64 HH), .tsl [] 0 true true, .tsl [] 0 true true, .tsl [] 0 true true]) := by rw [hs3]; exact get_new0 _ _
  have gs3 := (g1.trans g2).trans g3
  obtain ⟨tv', s4, ap1, gl4, g4, n4⟩ := nil_app (t := 22) Tryz.underlying22 sz5 by5 ze5 (by omega) rfl (ht.grw gs3) (closed_bs _) (by omega) (by omega)
  have c4 := g4 _ _ c3
  have w4 := g4 _ _ w3
  obtain ⟨o1, o2⟩ := gl4.one
  have lw4 : s2.length < s4.length := (List.getElem?_eq_some_iff.1 w4).1
  have lst2 : st.length < s2.length := (List.getElem?_eq_some_iff.1 c2).1
  have l3 : s3.length = s2.length + 1 := by rw [hs3]; simp
  obtain ⟨s5, hs5⟩ : ∃ s5, s5 = s4.set s2.length (Ob.cells [.sc (.int .i64 WW), .sc (.int .i64 HH), tv', .tsl [] 0 true true, .tsl [] 0 true true]) := ⟨_, rfl⟩
  have w5 : s5[s2.length]? = some (.cells [.sc (.int .i64 WW), .sc (.int .i64 HH), tv', .tsl [] 0 true true, .tsl [] 0 true true]) := by rw [hs5]; exact List.getElem?_set_self lw4
  have c5 : s5[st.length]? = some (.cells [.sc (.int .i64 WW), .sc (.int .i64 HH), tv, bv]) := by rw [hs5, List.getElem?_set_ne (by omega)]; exact c4
  have g5 : Grw st s5 := by rw [hs5]; exact (gs3.trans g4).set (by omega) _
  have gl5 : Gl s5 5 tv' (bs T) T.length := gl4.of fun j o hj ho => by have := n4 j hj; rw [hs5, List.getElem?_set_ne (by omega)]; exact ho
  obtain ⟨bv', s6, ap2, gl6, g6, n6⟩ := nil_app (t := 23) Tryz.underlying23 sz115 by115 ze115 (by omega) rfl (hb.grw g5) (closed_bd _) (by omega) (by omega)
  have w6 := g6 _ _ w5
  have c6 := g6 _ _ c5
  obtain ⟨o3, o4⟩ := gl6.one
  have lw6 : s2.length < s6.length := (List.getElem?_eq_some_iff.1 w6).1
  have l5 : s5.length = s4.length := by rw [hs5, List.length_set]
  have l34 := g4.le
  simp only [↓zP,zV,Nat.reduceAdd,Nat.reduceMul,Nat.reduceLT,Nat.reduceEqDiff,Nat.reduceLeDiff,Int.reduceLE,Int.reduceLT,Int.reduceBNe,Int.reduceBEq,Int.reduceNeg,Int.reduceEq,Int.reduceAdd,Int.reduceGT,Int.reduceGE,reduceCtorEq]
  simp only [c2, ↓zP,zV,Nat.reduceAdd,Nat.reduceMul,Nat.reduceLT,Nat.reduceEqDiff,Nat.reduceLeDiff,Int.reduceLE,Int.reduceLT,Int.reduceBNe,Int.reduceBEq,Int.reduceNeg,Int.reduceEq,Int.reduceAdd,Int.reduceGT,Int.reduceGE,reduceCtorEq]
  rw [← hs3]
  simp only [w3, c3, ap1, w4, c4, o1, o2, g4, ↓zP,zV,Nat.reduceAdd,Nat.reduceMul,Nat.reduceLT,Nat.reduceEqDiff,Nat.reduceLeDiff,Int.reduceLE,Int.reduceLT,Int.reduceBNe,Int.reduceBEq,Int.reduceNeg,Int.reduceEq,Int.reduceAdd,Int.reduceGT,Int.reduceGE,reduceCtorEq]
  rw [← hs5]
  simp only [w5, c5, ap2, w6, c6, o1, o2, o3, o4, g6, ↓zP,zV,Nat.reduceAdd,Nat.reduceMul,Nat.reduceLT,Nat.reduceEqDiff,Nat.reduceLeDiff,Int.reduceLE,Int.reduceLT,Int.reduceBNe,Int.reduceBEq,Int.reduceNeg,Int.reduceEq,Int.reduceAdd,Int.reduceGT,Int.reduceGE,reduceCtorEq]
  refine hO e s2.length tv' bv' _ ⟨List.getElem?_set_self lw6, ?_, ?_, .inl ⟨rfl, rfl, rfl⟩⟩ ((g5.trans g6).set (by omega) _) (by omega) (fun j hj => by have := n4 j hj; omega) fun j hj => by have := n6 j hj; omega
  · rw [bs_len]
    refine gl5.of fun j o hj ho => ?_
    have := n4 j hj
    rw [List.getElem?_set_ne (by omega)]
    exact g6 _ _ ho
  · refine gl6.of fun j o hj ho => ?_
    have := n6 j hj
    rw [List.getElem?_set_ne (by omega)]
    exact ho
end
def inU (u : B4) (a b : Int) : Prop := u.x ≤ a ∧ a ≤ u.x + u.w - 1 ∧ u.y ≤ b ∧ b ≤ u.y + u.h - 1
theorem cellq (x y a b : Int) (W H : Nat) (hW : 0 < W) : (∃ q, q < H * W ∧ a = x + (q % W : Nat) ∧ b = y + (q / W : Nat)) ↔ (x ≤ a ∧ a ≤ x + W - 1 ∧ y ≤ b ∧ b ≤ y + H - 1) := by
  constructor
  · rintro ⟨q, hq, rfl, rfl⟩
    have h1 := Nat.mod_lt q hW
    have h2 : q / W < H := Nat.div_lt_of_lt_mul (by rw [Nat.mul_comm]; exact hq)
    generalize q / W = d at h2 ⊢
    generalize q % W = e at h1 ⊢
    clear hq
    omega
  · rintro ⟨h1, h2, h3, h4⟩
    obtain ⟨i, hi⟩ := Int.eq_ofNat_of_zero_le (show 0 ≤ a - x by omega)
    obtain ⟨j, hj⟩ := Int.eq_ofNat_of_zero_le (show 0 ≤ b - y by omega)
    have hiW : i < W := by omega
    have hjH : j < H := by omega
    refine ⟨j * W + i, ?_, ?_, ?_⟩
    · have := Nat.mul_le_mul_right W (show j + 1 ≤ H from hjH)
      rw [Nat.add_mul, Nat.one_mul] at this
      omega
    · rw [show (j * W + i) % W = i by rw [Nat.mul_comm, Nat.mul_add_mod, Nat.mod_eq_of_lt hiW]]; omega
    · rw [show (j * W + i) / W = j by rw [Nat.mul_comm, Nat.mul_add_div hW, Nat.div_eq_of_lt hiW, Nat.add_zero]]; omega
section
variable {os : List ((Int × Int) × V)} {x y a b : Int} {W : Nat} {v : V}
theorem fill_in : ∀ k, (∃ q, q < k ∧ a = x + (q % W : Nat) ∧ b = y + (q / W : Nat)) → getC (a, b) (fillC v x y W os k) = some v
  | 0, ⟨q, h, _⟩ => by omega
  | k + 1, ⟨q, hq, ha, hb⟩ => by
    simp only [fillC]
    rw [getC_putC]
    split
    · rfl
    · rename_i h
      refine fill_in k ⟨q, ?_, ha, hb⟩
      rcases Nat.lt_or_ge q k with h1 | h1
      · exact h1
      · obtain rfl : q = k := by omega
        exact absurd (by simp [ha, hb]) h
theorem fill_out : ∀ k, (¬ ∃ q, q < k ∧ a = x + (q % W : Nat) ∧ b = y + (q / W : Nat)) → getC (a, b) (fillC v x y W os k) = getC (a, b) os
  | 0, _ => rfl
  | k + 1, h => by
    simp only [fillC]
    rw [getC_putC, if_neg, fill_out k (fun ⟨q, h1, h2⟩ => h ⟨q, by omega, h2⟩)]
    intro hh
    simp only [Bool.and_eq_true, beq_iff_eq] at hh
    exact h ⟨k, by omega, hh.1, hh.2⟩
theorem nd_fill : ∀ k, ndC os → ndC (fillC v x y W os k)
  | 0, h => h
  | k + 1, h => by simp only [fillC]; exact ndC_putC _ _ (nd_fill k h)
theorem nd_cut : ∀ k, ndC os → ndC (cutC x y W os k)
  | 0, h => h
  | k + 1, h => by simp only [cutC]; exact ndC_delC _ (nd_cut k h)
theorem cut_in (hn : ndC os) : ∀ k, (∃ q, q < k ∧ a = x + (q % W : Nat) ∧ b = y + (q / W : Nat)) → getC (a, b) (cutC x y W os k) = none
  | 0, ⟨q, h, _⟩ => by omega
  | k + 1, ⟨q, hq, ha, hb⟩ => by
    simp only [cutC]
    rw [getC_delC _ _ (nd_cut k hn)]
    split
    · rfl
    · rename_i h
      refine cut_in hn k ⟨q, ?_, ha, hb⟩
      rcases Nat.lt_or_ge q k with h1 | h1
      · exact h1
      · obtain rfl : q = k := by omega
        exact absurd (by simp [ha, hb]) h
theorem cut_out (hn : ndC os) : ∀ k, (¬ ∃ q, q < k ∧ a = x + (q % W : Nat) ∧ b = y + (q / W : Nat)) → getC (a, b) (cutC x y W os k) = getC (a, b) os
  | 0, _ => rfl
  | k + 1, h => by
    simp only [cutC]
    rw [getC_delC _ _ (nd_cut k hn), if_neg, cut_out hn k (fun ⟨q, h1, h2⟩ => h ⟨q, by omega, h2⟩)]
    intro hh
    simp only [Bool.and_eq_true, beq_iff_eq] at hh
    exact h ⟨k, by omega, hh.1, hh.2⟩
end
def valB (WW HH : Int) (u : B4) : Bool := bmayB u.id u.x u.y u.w u.h WW HH
theorem val_facts {WW HH : Int} {u : B4} (h : valB WW HH u = true) : mayB u.x u.y u.w u.h = true ∧ 1 ≤ u.w ∧ 1 ≤ u.h ∧ u.w ≤ 8 ∧ u.h ≤ 8 ∧ 1 ≤ u.id := by
  obtain ⟨h1, h2, h3, h4, _⟩ := bmay_may h
  obtain ⟨_, _, h5, h6, _⟩ := may_facts h1
  exact ⟨h1, h5.1, h6.1, h2, h3, h4⟩
theorem has_in {WW HH : Int} {u : B4} (h : valB WW HH u = true) (a b : Int) : hasU a b u = true ↔ inU u a b := by
  obtain ⟨h1, _⟩ := val_facts h
  simp only [hasU, hasB, h1, Bool.true_and, inB, inU, Bool.and_eq_true, decide_eq_true_eq]
  omega
structure Rel (WW HH : Int) (us : List (Int × V)) (os : List ((Int × Int) × V)) (L : List B4) : Prop where
  ni : ndI us
  nc : ndC os
  val : ∀ u ∈ L, valB WW HH u = true
  ids : (L.map B4.id).Nodup
  gu : ∀ i v, getI i us = some v ↔ ∃ u ∈ L, u.id = i ∧ v = .agg (rc u.x u.y u.w u.h)
  go : ∀ a b v, getC (a, b) os = some v ↔ ∃ u ∈ L, inU u a b ∧ v = .sc (.int .i64 u.id)
  len : us.length = L.length
theorem Rel.nil (WW HH : Int) : Rel WW HH [] [] [] := ⟨by simp [ndI], by simp [ndC], by simp, by simp, by simp [getI_nil], by simp [getC_nil], rfl⟩
section
variable {WW HH : Int} {us : List (Int × V)} {os : List ((Int × Int) × V)} {L : List B4}
theorem isSome_of {α : Type} {o : Option α} : o.isSome = true ↔ ∃ v, o = some v := Option.isSome_iff_exists
theorem Rel.hits (h : Rel WW HH us os L) (u : B4) (hu : valB WW HH u = true) : hitsB os u.x u.y u.w.toNat (u.h.toNat * u.w.toNat) = true ↔ ∃ p ∈ L, ∃ a b, inU p a b ∧ inU u a b := by
  obtain ⟨_, h1, h2, _⟩ := val_facts hu
  obtain ⟨W, hW⟩ := Int.eq_ofNat_of_zero_le (show 0 ≤ u.w by omega)
  obtain ⟨H, hH⟩ := Int.eq_ofNat_of_zero_le (show 0 ≤ u.h by omega)
  simp only [hW, hH, Int.toNat_natCast]
  simp only [hitsB, List.any_eq_true, List.mem_range]
  constructor
  · rintro ⟨q, hq, hs⟩
    obtain ⟨v, hv⟩ := isSome_of.1 hs
    obtain ⟨p, hp, hin, _⟩ := (h.go _ _ _).1 hv
    refine ⟨p, hp, _, _, hin, ?_⟩
    have := (cellq u.x u.y _ _ W H (by omega)).1 ⟨q, hq, rfl, rfl⟩
    simp only [inU, hW, hH]
    omega
  · rintro ⟨p, hp, a, b, h3, h4⟩
    simp only [inU, hW, hH] at h4
    obtain ⟨q, hq, ha, hb⟩ := (cellq u.x u.y a b W H (by omega)).2 (by omega)
    refine ⟨q, hq, isSome_of.2 ⟨_, (h.go _ _ _).2 ⟨p, hp, ?_, rfl⟩⟩⟩
    rw [← ha, ← hb]; exact h3
theorem meet_in {u p : B4} (hu : valB WW HH u = true) (hp : valB WW HH p = true) : meetB p.x p.y p.w p.h u.x u.y u.w u.h = true ↔ ∃ a b, inU p a b ∧ inU u a b := by
  obtain ⟨m1, h1, h2, _⟩ := val_facts hu
  obtain ⟨m2, h3, h4, _⟩ := val_facts hp
  simp only [meetB, m1, m2, Bool.true_and, lapB, Bool.not_eq_true', Bool.or_eq_false_iff, decide_eq_false_iff_not, mn, mx]
  constructor
  · rintro ⟨h5, h6⟩
    have key : ∀ a b c d : Int, a ≤ b → c ≤ d → ¬ ((if d < b then d else b) < (if c > a then c else a)) → (∃ z, a ≤ z ∧ z ≤ b ∧ c ≤ z ∧ z ≤ d) := fun a b c d h1 h2 hh => by
      refine ⟨if c > a then c else a, ?_⟩
      split at hh <;> split at hh <;> (try rw [if_pos (by assumption)]) <;> (try rw [if_neg (by assumption)]) <;> omega
    obtain ⟨a, ha1, ha2, ha3, ha4⟩ := key p.x (p.x + p.w - 1) u.x (u.x + u.w - 1) (by omega) (by omega) (of_decide_eq_false h5)
    obtain ⟨b, hb1, hb2, hb3, hb4⟩ := key p.y (p.y + p.h - 1) u.y (u.y + u.h - 1) (by omega) (by omega) (of_decide_eq_false h6)
    exact ⟨a, b, ⟨ha1, ha2, hb1, hb2⟩, ⟨ha3, ha4, hb3, hb4⟩⟩
  · rintro ⟨a, b, h5, h6⟩
    simp only [inU] at h5 h6
    constructor <;> refine decide_eq_false ?_ <;> split <;> split <;> omega
theorem plc_some (id : Int) (L : List B4) : plcI id L 0 ≥ 0 ↔ ∃ u ∈ L, u.id = id := by
  rcases plcI_spec id L 0 with ⟨h1, h2⟩ | ⟨i, hi, h1, h2⟩
  · rw [h1]
    constructor
    · intro h; omega
    · rintro ⟨u, hu, he⟩; exact absurd he (h2 u hu)
  · rw [h1]
    constructor
    · intro _; exact ⟨L[i], List.getElem_mem hi, h2⟩
    · intro _; omega
theorem Rel.may (h : Rel WW HH us os L) (u : B4) : mayE us os WW HH u.id u.x u.y u.w u.h = mayR L WW HH u.id u.x u.y u.w u.h := by
  unfold mayE mayR
  by_cases e1 : bmayB u.id u.x u.y u.w u.h WW HH = false
  · rw [if_pos e1, if_pos e1]
  rw [if_neg e1, if_neg e1]
  have hu : valB WW HH u = true := by simpa [valB] using e1
  have e2 : (getI u.id us).isSome = true ↔ plcI u.id L 0 ≥ 0 := by
    rw [plc_some, isSome_of]
    constructor
    · rintro ⟨v, hv⟩
      obtain ⟨p, hp, he, _⟩ := (h.gu _ _).1 hv
      exact ⟨p, hp, he⟩
    · rintro ⟨p, hp, he⟩
      exact ⟨_, (h.gu _ _).2 ⟨p, hp, he, rfl⟩⟩
  by_cases q2 : plcI u.id L 0 ≥ 0
  · rw [if_pos (e2.2 q2), if_pos q2]
  rw [if_neg (fun hh => q2 (e2.1 hh)), if_neg q2, h.len]
  by_cases q3 : 256 ≤ L.length
  · rw [if_pos q3, if_pos q3]
  rw [if_neg q3, if_neg q3]
  have e4 : hitsB os u.x u.y u.w.toNat (u.h.toNat * u.w.toNat) = true ↔ L.any (shareB u.x u.y u.w u.h) = true := by
    rw [h.hits u hu, List.any_eq_true]
    constructor
    · rintro ⟨p, hp, a, b, h1, h2⟩
      exact ⟨p, hp, (meet_in hu (h.val p hp)).2 ⟨a, b, h1, h2⟩⟩
    · rintro ⟨p, hp, hm⟩
      obtain ⟨a, b, h1, h2⟩ := (meet_in hu (h.val p hp)).1 hm
      exact ⟨p, hp, a, b, h1, h2⟩
  by_cases q4 : L.any (shareB u.x u.y u.w u.h) = true
  · rw [if_pos (e4.2 q4), if_pos q4]
  · rw [if_neg (fun hh => q4 (e4.1 hh)), if_neg q4]
theorem nodup_in {α β : Type} {f : α → β} : ∀ {l : List α}, (l.map f).Nodup → ∀ {a b : α}, a ∈ l → b ∈ l → f a = f b → a = b
  | [], _, a, b, ha, _, _ => by simp at ha
  | c :: l, h, a, b, ha, hb, e => by
    rw [List.map_cons, List.nodup_cons] at h
    rcases List.mem_cons.1 ha with rfl | ha' <;> rcases List.mem_cons.1 hb with rfl | hb'
    · rfl
    · exact absurd (List.mem_map.2 ⟨b, hb', e.symm⟩) h.1
    · exact absurd (List.mem_map.2 ⟨a, ha', e⟩) h.1
    · exact nodup_in h.2 ha' hb' e
theorem Rel.put (h : Rel WW HH us os L) {u : B4} {L' : List B4} (he : mayE us os WW HH u.id u.x u.y u.w u.h = 0) (hm : ∀ v, v ∈ L' ↔ v = u ∨ v ∈ L) (hn : (L'.map B4.id).Nodup) (hl : L'.length = L.length + 1) :
    Rel WW HH (putI u.id (.agg (rc u.x u.y u.w u.h)) us) (fillC (.sc (.int .i64 u.id)) u.x u.y u.w.toNat os (u.h.toNat * u.w.toNat)) L' := by
  obtain ⟨hu, hg, _, hh⟩ := mayE_zero he
  have hu : valB WW HH u = true := hu
  have hno : ¬ ∃ p ∈ L, ∃ a b, inU p a b ∧ inU u a b := fun hx => by rw [(h.hits u hu).2 hx] at hh; cases hh
  obtain ⟨_, h1, h2, _⟩ := val_facts hu
  refine ⟨ndI_putI _ _ h.ni, nd_fill _ h.nc, fun v hv => ?_, hn, fun i v => ?_, fun a b v => ?_, ?_⟩
  · rcases (hm v).1 hv with rfl | hv
    · exact hu
    · exact h.val v hv
  · rw [getI_putI]
    by_cases hi : i = u.id
    · subst hi
      simp only [beq_self_eq_true, if_true, Option.some.injEq]
      constructor
      · rintro rfl; exact ⟨u, (hm u).2 (.inl rfl), rfl, rfl⟩
      · rintro ⟨p, hp, he, rfl⟩
        rcases (hm p).1 hp with rfl | hp
        · rfl
        · have := (h.gu u.id _).2 ⟨p, hp, he, rfl⟩
          rw [hg] at this; cases this
    · rw [if_neg (by simpa using hi), h.gu]
      constructor
      · rintro ⟨p, hp, h3⟩; exact ⟨p, (hm p).2 (.inr hp), h3⟩
      · rintro ⟨p, hp, h3, h4⟩
        rcases (hm p).1 hp with rfl | hp
        · exact absurd h3.symm hi
        · exact ⟨p, hp, h3, h4⟩
  · obtain ⟨W, hW⟩ := Int.eq_ofNat_of_zero_le (show 0 ≤ u.w by omega)
    obtain ⟨H, hH⟩ := Int.eq_ofNat_of_zero_le (show 0 ≤ u.h by omega)
    have hin : (∃ q, q < H * W ∧ a = u.x + (q % W : Nat) ∧ b = u.y + (q / W : Nat)) ↔ inU u a b := by
      rw [cellq u.x u.y a b W H (by omega)]
      simp only [inU, hW, hH]
    simp only [hW, hH, Int.toNat_natCast]
    by_cases hc : inU u a b
    · rw [fill_in _ (hin.2 hc)]
      simp only [Option.some.injEq]
      constructor
      · rintro rfl; exact ⟨u, (hm u).2 (.inl rfl), hc, rfl⟩
      · rintro ⟨p, hp, h3, rfl⟩
        rcases (hm p).1 hp with rfl | hp
        · rfl
        · exact absurd ⟨p, hp, a, b, h3, hc⟩ hno
    · rw [fill_out _ (fun hh => hc (hin.1 hh)), h.go]
      constructor
      · rintro ⟨p, hp, h3⟩; exact ⟨p, (hm p).2 (.inr hp), h3⟩
      · rintro ⟨p, hp, h3, h4⟩
        rcases (hm p).1 hp with rfl | hp
        · exact absurd h3 hc
        · exact ⟨p, hp, h3, h4⟩
  · rw [putI_len, hg, hl, h.len]; rfl
theorem Rel.raze (h : Rel WW HH us os L) {u : B4} {L' : List B4} (hu : u ∈ L) (hm : ∀ v, v ∈ L' ↔ v ≠ u ∧ v ∈ L) (hn : (L'.map B4.id).Nodup) (hl : L'.length + 1 = L.length) :
    Rel WW HH (delI u.id us) (cutC u.x u.y u.w.toNat os (u.h.toNat * u.w.toNat)) L' := by
  have hv := h.val u hu
  obtain ⟨_, h1, h2, _⟩ := val_facts hv
  have huniq : ∀ p ∈ L, p.id = u.id → p = u := fun p hp he => nodup_in h.ids hp hu he
  refine ⟨ndI_delI _ h.ni, nd_cut _ h.nc, fun v hv => h.val v ((hm v).1 hv).2, hn, fun i v => ?_, fun a b v => ?_, ?_⟩
  · rw [getI_delI _ _ h.ni]
    by_cases hi : i = u.id
    · subst hi
      simp only [beq_self_eq_true, if_true]
      constructor
      · intro hh; cases hh
      · rintro ⟨p, hp, he, _⟩
        obtain ⟨q1, q2⟩ := (hm p).1 hp
        exact absurd (huniq p q2 he) q1
    · rw [if_neg (by simpa using hi), h.gu]
      constructor
      · rintro ⟨p, hp, h3, h4⟩
        exact ⟨p, (hm p).2 ⟨fun hh => hi (by rw [← h3, hh]), hp⟩, h3, h4⟩
      · rintro ⟨p, hp, h3⟩; exact ⟨p, ((hm p).1 hp).2, h3⟩
  · obtain ⟨W, hW⟩ := Int.eq_ofNat_of_zero_le (show 0 ≤ u.w by omega)
    obtain ⟨H, hH⟩ := Int.eq_ofNat_of_zero_le (show 0 ≤ u.h by omega)
    have hin : (∃ q, q < H * W ∧ a = u.x + (q % W : Nat) ∧ b = u.y + (q / W : Nat)) ↔ inU u a b := by
      rw [cellq u.x u.y a b W H (by omega)]
      simp only [inU, hW, hH]
    simp only [hW, hH, Int.toNat_natCast]
    by_cases hc : inU u a b
    · rw [cut_in h.nc _ (hin.2 hc)]
      constructor
      · intro hh; cases hh
      · rintro ⟨p, hp, h3, rfl⟩
        obtain ⟨q1, q2⟩ := (hm p).1 hp
        have e1 := (h.go a b _).2 ⟨p, q2, h3, rfl⟩
        have e2 := (h.go a b _).2 ⟨u, hu, hc, rfl⟩
        rw [e1] at e2
        simp only [Option.some.injEq, V.sc.injEq, Value.int.injEq, true_and] at e2
        exact absurd (huniq p q2 e2) q1
    · rw [cut_out h.nc _ (fun hh => hc (hin.1 hh)), h.go]
      constructor
      · rintro ⟨p, hp, h3, h4⟩
        exact ⟨p, (hm p).2 ⟨fun hh => hc (by rw [← hh]; exact h3), hp⟩, h3, h4⟩
      · rintro ⟨p, hp, h3⟩; exact ⟨p, ((hm p).1 hp).2, h3⟩
  · have := delI_len u.id (l := us) (isSome_of.2 ⟨_, (h.gu _ _).2 ⟨u, hu, rfl, rfl⟩⟩)
    rw [h.len] at this
    omega
end
section
variable {WW HH : Int}
theorem mayR_zero {L : List B4} {id x y w h : Int} : mayR L WW HH id x y w h = 0 ↔ bmayB id x y w h WW HH = true ∧ ¬ plcI id L 0 ≥ 0 ∧ ¬ 256 ≤ L.length ∧ L.any (shareB x y w h) = false := by
  unfold mayR
  constructor
  · intro e
    split at e
    · cases e
    rename_i h1
    split at e
    · cases e
    rename_i h2
    split at e
    · cases e
    rename_i h3
    split at e
    · cases e
    rename_i h4
    exact ⟨by simpa using h1, h2, h3, by simpa using h4⟩
  · rintro ⟨h1, h2, h3, h4⟩
    rw [if_neg (by rw [h1]; decide), if_neg h2, if_neg h3, if_neg (by rw [h4]; decide)]
theorem go_chk : ∀ (L pre : List B4) (last : Int) (us : List (Int × V)) (os : List ((Int × Int) × V)), Rel WW HH us os pre → (pre = [] ∧ last = 0 ∨ (∃ p ∈ pre, p.id = last) ∧ ∀ p ∈ pre, p.id ≤ last) → pre.length ≤ 256 →
    (goAll WW HH last us os L).isSome = (chk WW HH pre L && decide (pre.length + L.length ≤ 256)) ∧ ∀ us' os', goAll WW HH last us os L = some (us', os') → Rel WW HH us' os' (pre ++ L)
  | [], pre, last, us, os, hr, hl, hp => by
    simp only [goAll, chk, Bool.true_and, List.length_nil, Nat.add_zero, List.append_nil]
    refine ⟨by simp [hp], fun us' os' h => ?_⟩
    simp only [Option.some.injEq, Prod.mk.injEq] at h
    obtain ⟨rfl, rfl⟩ := h
    exact hr
  | u :: L, pre, last, us, os, hr, hl, hp => by
    simp only [goAll, chk, List.length_cons]
    by_cases h1 : u.id ≤ last
    · rw [if_pos h1]
      refine ⟨?_, fun us' os' h => by cases h⟩
      have : (bmayB u.id u.x u.y u.w u.h WW HH && pre.all (pairB u)) = false := by
        cases hb : bmayB u.id u.x u.y u.w u.h WW HH
        · rfl
        · have := (bmay_may hb).2.2.2.1
          rw [Bool.true_and]
          rcases hl with ⟨rfl, rfl⟩ | ⟨⟨p, hp1, hp2⟩, _⟩
          · omega
          · rw [Bool.eq_false_iff]
            intro hh
            have := List.all_eq_true.1 hh p hp1
            simp only [pairB, Bool.and_eq_true, decide_eq_true_eq] at this
            omega
      rw [this, Bool.false_and, Bool.false_and]
      rfl
    rw [if_neg h1]
    have hlt : ∀ p ∈ pre, p.id < u.id := fun p hp1 => by
      rcases hl with ⟨rfl, _⟩ | ⟨_, h⟩
      · cases hp1
      · have := h p hp1; omega
    have hme := hr.may u
    by_cases h2 : mayE us os WW HH u.id u.x u.y u.w u.h = 0
    · rw [if_pos h2]
      obtain ⟨r1, r2, r3, r4⟩ := mayR_zero.1 (hme ▸ h2)
      have hall : pre.all (pairB u) = true := List.all_eq_true.2 fun p hp1 => by
        have h3 := hlt p hp1
        have h4 : shareB u.x u.y u.w u.h p = false := by
          rw [Bool.eq_false_iff]
          intro hh
          have := List.any_eq_true.2 ⟨p, hp1, hh⟩
          rw [r4] at this; cases this
        simp only [shareB] at h4
        simp only [pairB, h4, Bool.not_false, Bool.and_true, decide_eq_true_eq]
        exact h3
      rw [r1, hall, Bool.true_and, Bool.true_and]
      have hr' := hr.put (L' := pre ++ [u]) h2 (fun v => by rw [List.mem_append, List.mem_singleton]; exact Or.comm) (by
        rw [List.map_append, List.nodup_append]
        refine ⟨hr.ids, by simp, fun a ha b hb => ?_⟩
        obtain ⟨p, hp1, rfl⟩ := List.mem_map.1 ha
        simp only [List.map_cons, List.map_nil, List.mem_singleton] at hb
        subst hb
        have := hlt p hp1
        omega) (by simp)
      obtain ⟨i1, i2⟩ := go_chk L (pre ++ [u]) u.id _ _ hr' (.inr ⟨⟨u, by simp, rfl⟩, fun p hp1 => by
        rcases List.mem_append.1 hp1 with h | h
        · have := hlt p h; omega
        · simp only [List.mem_singleton] at h; subst h; exact Int.le_refl _⟩) (by simp; omega)
      refine ⟨?_, fun us' os' h => ?_⟩
      · rw [i1]
        congr 2
        simp only [List.length_append, List.length_cons, List.length_nil, eq_iff_iff]
        omega
      · have := i2 us' os' h
        rwa [List.append_assoc] at this
    · rw [if_neg h2]
      refine ⟨?_, fun us' os' h => by cases h⟩
      rw [hme] at h2
      have h3 := fun hh => h2 (mayR_zero.2 hh)
      cases hb : bmayB u.id u.x u.y u.w u.h WW HH
      · rw [Bool.false_and, Bool.false_and, Bool.false_and]; rfl
      cases ha : pre.all (pairB u)
      · rw [Bool.true_and, Bool.false_and, Bool.false_and]; rfl
      rcases Nat.lt_or_ge pre.length 256 with h4 | h4
      · refine absurd ⟨hb, ?_, by omega, ?_⟩ h3
        · rw [plc_some]
          rintro ⟨p, hp1, hp2⟩
          have := hlt p hp1
          omega
        · rw [Bool.eq_false_iff]
          intro hh
          obtain ⟨p, hp1, hp2⟩ := List.any_eq_true.1 hh
          have := List.all_eq_true.1 ha p hp1
          simp only [pairB, Bool.and_eq_true, Bool.not_eq_true'] at this
          simp only [shareB] at hp2
          rw [this.2] at hp2; cases hp2
      · rw [show decide (pre.length + (L.length + 1) ≤ 256) = false from decide_eq_false (by omega), Bool.and_false]; rfl
theorem newOK_ref (T : List Int) (L : List B4) : newOK WW HH T L = refOK WW HH T L := by
  unfold newOK refOK
  rw [(go_chk L [] 0 [] [] (Rel.nil WW HH) (.inl ⟨rfl, rfl⟩) (by simp)).1]
  simp only [List.length_nil, Nat.zero_add]
  cases decide (1 ≤ WW) <;> cases decide (WW ≤ 128) <;> cases decide (1 ≤ HH) <;> cases decide (HH ≤ 128) <;> cases decide ((T.length : Int) = WW * HH) <;> cases decide (L.length ≤ 256) <;> cases T.all (fun t => decide (t < 4)) <;> cases chk WW HH [] L <;> rfl
theorem new_rel {L : List B4} {us : List (Int × V)} {os : List ((Int × Int) × V)} (h : goAll WW HH 0 [] [] L = some (us, os)) : Rel WW HH us os L :=
  (go_chk L [] 0 [] [] (Rel.nil WW HH) (.inl ⟨rfl, rfl⟩) (by simp)).2 us os h
theorem refOK_facts {T : List Int} {L : List B4} (h : refOK WW HH T L = true) : (1 ≤ WW ∧ WW ≤ 128) ∧ (1 ≤ HH ∧ HH ≤ 128) ∧ (T.length : Int) = WW * HH ∧ L.length ≤ 256 := by
  simp only [refOK, Bool.and_eq_true, decide_eq_true_eq] at h
  exact ⟨⟨h.1.1.1.1.1.1.1, h.1.1.1.1.1.1.2⟩, ⟨h.1.1.1.1.1.2, h.1.1.1.1.2⟩, h.1.1.1.2, h.1.1.2⟩
end
section
variable {WW HH : Int} {us : List (Int × V)} {os : List ((Int × Int) × V)} {L : List B4}
theorem mem_insAt (u v : B4) (L : List B4) (p : Nat) : v ∈ insAt p u L ↔ v = u ∨ v ∈ L := by
  unfold insAt
  rw [List.mem_append, List.mem_cons]
  conv => rhs; rw [← List.take_append_drop p L, List.mem_append]
  constructor
  · rintro (h | h | h)
    · exact .inr (.inl h)
    · exact .inl h
    · exact .inr (.inr h)
  · rintro (h | h | h)
    · exact .inr (.inl h)
    · exact .inl h
    · exact .inr (.inr h)
theorem nodup_insAt (u : B4) (L : List B4) (p : Nat) (h : (L.map B4.id).Nodup) (hu : ∀ v ∈ L, v.id ≠ u.id) : ((insAt p u L).map B4.id).Nodup := by
  unfold insAt
  have hp : (L.take p ++ u :: L.drop p).Perm (u :: L) := by
    have := List.perm_middle (a := u) (l₁ := L.take p) (l₂ := L.drop p)
    rwa [List.take_append_drop] at this
  rw [(hp.map B4.id).nodup_iff, List.map_cons, List.nodup_cons]
  refine ⟨fun hm => ?_, h⟩
  obtain ⟨v, hv, he⟩ := List.mem_map.1 hm
  exact hu v hv he
theorem Rel.place (h : Rel WW HH us os L) (u : B4) (p : Nat) (he : mayE us os WW HH u.id u.x u.y u.w u.h = 0) :
    Rel WW HH (putI u.id (.agg (rc u.x u.y u.w u.h)) us) (fillC (.sc (.int .i64 u.id)) u.x u.y u.w.toNat os (u.h.toNat * u.w.toNat)) (insAt p u L) := by
  refine h.put he (fun v => mem_insAt u v L p) (nodup_insAt u L p h.ids fun v hv hh => ?_) (insAt_len _ _ _)
  have := (mayR_zero.1 (h.may u ▸ he)).2.1
  exact this ((plc_some _ _).2 ⟨v, hv, hh⟩)
theorem Rel.new (h : Rel WW HH us os L) (u : B4) (he : mayE us os WW HH u.id u.x u.y u.w u.h = 0) : ∀ v ∈ L, v.id ≠ u.id := fun v hv hh => by
  have := (mayR_zero.1 (h.may u ▸ he)).2.1
  exact this ((plc_some _ _).2 ⟨v, hv, hh⟩)
theorem Rel.take (h : Rel WW HH us os L) (i : Nat) (hi : i < L.length) :
    Rel WW HH (delI L[i].id us) (cutC L[i].x L[i].y L[i].w.toNat os (L[i].h.toNat * L[i].w.toNat)) (L.take i ++ L.drop (i + 1)) := by
  have hL : L = L.take i ++ L[i] :: L.drop (i + 1) := by rw [← List.drop_eq_getElem_cons hi, List.take_append_drop]
  have hp : L.Perm (L[i] :: (L.take i ++ L.drop (i + 1))) := by
    conv => lhs; rw [hL]
    exact List.perm_middle
  have hnd : (L[i] :: (L.take i ++ L.drop (i + 1))).map B4.id |>.Nodup := ((hp.map B4.id).nodup_iff).1 h.ids
  rw [List.map_cons, List.nodup_cons] at hnd
  refine h.raze (List.getElem_mem hi) (fun v => ?_) hnd.2 ?_
  · constructor
    · intro hv
      refine ⟨fun hh => ?_, hp.mem_iff.2 (List.mem_cons_of_mem _ hv)⟩
      exact hnd.1 (List.mem_map.2 ⟨v, hv, by rw [hh]⟩)
    · rintro ⟨h1, h2⟩
      rcases List.mem_cons.1 (hp.mem_iff.1 h2) with h3 | h3
      · exact absurd h3 h1
      · exact h3
  · rw [List.length_append, List.length_take, List.length_drop]; omega
def Srt (L : List B4) : Prop := L.Pairwise (fun a b => a.id < b.id)
theorem Srt.insAt {L : List B4} (h : Srt L) (u : B4) (p : Nat) (hp : p ≤ L.length) (h1 : ∀ j (hj : j < L.length), p ≤ j → u.id < L[j].id) (h2 : ∀ hp : 0 < p, ∀ hq : p - 1 < L.length, ¬ u.id < L[p - 1].id) (hn : ∀ v ∈ L, v.id ≠ u.id) : Srt (insAt p u L) := by
  unfold Srt at h ⊢
  unfold Go.Proofs.YtpdhoicpaonggaaGreat.insAt
  rw [List.pairwise_append]
  have hL : L = L.take p ++ L.drop p := (List.take_append_drop p L).symm
  rw [hL, List.pairwise_append] at h
  refine ⟨h.1, ?_, fun a ha b hb => ?_⟩
  · rw [List.pairwise_cons]
    refine ⟨fun a ha => ?_, h.2.1⟩
    obtain ⟨j, hj, rfl⟩ := List.getElem_of_mem ha
    rw [List.length_drop] at hj
    rw [List.getElem_drop]
    exact h1 (p + j) (by omega) (by omega)
  · have key : a.id < u.id := by
      obtain ⟨j, hj, rfl⟩ := List.getElem_of_mem ha
      have hj' := hj
      rw [List.length_take] at hj'
      rw [List.getElem_take]
      have hp0 : 0 < p := by omega
      have hq : p - 1 < L.length := by omega
      have e1 := h2 hp0 hq
      have e2 := hn L[p - 1] (List.getElem_mem hq)
      by_cases hjp : j = p - 1
      · subst hjp; omega
      · have hlt : j < p - 1 := by omega
        have hT := h.1
        have := List.pairwise_iff_getElem.1 hT j (p - 1) hj (by rw [List.length_take]; omega) hlt
        rw [List.getElem_take, List.getElem_take] at this
        omega
    rcases List.mem_cons.1 hb with rfl | hb
    · exact key
    · exact h.2.2 a ha b hb
theorem Srt.take {L : List B4} (h : Srt L) (i : Nat) : Srt (L.take i ++ L.drop (i + 1)) := by
  unfold Srt at h ⊢
  refine h.sublist ?_
  conv => rhs; rw [← List.take_append_drop i L]
  refine List.Sublist.append (List.Sublist.refl _) ?_
  rw [← List.drop_drop]
  exact List.drop_sublist _ _
theorem chk_srt {WW HH : Int} : ∀ (L pre : List B4), chk WW HH pre L = true → Srt pre → Srt (pre ++ L)
  | [], pre, _, h => by rwa [List.append_nil]
  | u :: L, pre, hc, h => by
    simp only [chk, Bool.and_eq_true] at hc
    have : pre ++ u :: L = (pre ++ [u]) ++ L := by simp
    rw [this]
    refine chk_srt L (pre ++ [u]) hc.2 ?_
    unfold Srt at h ⊢
    rw [List.pairwise_append]
    refine ⟨h, by simp, fun a ha b hb => ?_⟩
    simp only [List.mem_singleton] at hb
    subst hb
    have := List.all_eq_true.1 hc.1.2 a ha
    simp only [pairB, Bool.and_eq_true, decide_eq_true_eq] at this
    exact this.1
theorem refOK_srt {WW HH : Int} {T : List Int} {L : List B4} (h : refOK WW HH T L = true) : Srt L := by
  simp only [refOK, Bool.and_eq_true] at h
  have := chk_srt L [] h.2 List.Pairwise.nil
  rwa [List.nil_append] at this
theorem Rel.find (h : Rel WW HH us os L) (id : Int) : (getI id us = none ∧ plcI id L 0 = -1) ∨ ∃ i, ∃ hi : i < L.length, plcI id L 0 = i ∧ L[i].id = id ∧ getI id us = some (.agg (rc L[i].x L[i].y L[i].w L[i].h)) := by
  rcases plcI_spec id L 0 with ⟨h1, h2⟩ | ⟨i, hi, h1, h2⟩
  · left
    refine ⟨?_, h1⟩
    cases hq : getI id us with
    | none => rfl
    | some v =>
      obtain ⟨p, hp, he, _⟩ := (h.gu _ _).1 hq
      exact absurd he (h2 p hp)
  · right
    rw [Nat.zero_add] at h1
    exact ⟨i, hi, h1, h2, (h.gu _ _).2 ⟨L[i], List.getElem_mem hi, h2, rfl⟩⟩
theorem Rel.at_ (h : Rel WW HH us os L) (a b : Int) : (match getC (a, b) os with | some v => V.tup [v, .sc (.bool true)] | none => .tup [.sc (.int .i64 0), .sc (.bool false)]) = match L.find? (hasU a b) with | some u => V.tup [.sc (.int .i64 u.id), .sc (.bool true)] | none => .tup [.sc (.int .i64 0), .sc (.bool false)] := by
  cases hf : L.find? (hasU a b) with
  | none =>
    have : getC (a, b) os = none := by
      cases hq : getC (a, b) os with
      | none => rfl
      | some v =>
        obtain ⟨p, hp, hin, _⟩ := (h.go _ _ _).1 hq
        have := List.find?_eq_none.1 hf p hp
        exact absurd ((has_in (h.val p hp) a b).2 hin) this
    rw [this]
  | some u =>
    have hu := List.mem_of_find?_eq_some hf
    have hh := List.find?_some hf
    have : getC (a, b) os = some (.sc (.int .i64 u.id)) := (h.go _ _ _).2 ⟨u, hu, (has_in (h.val u hu) a b).1 hh, rfl⟩
    rw [this]
theorem Rel.rcs (h : Rel WW HH us os L) : ∀ i v, getI i us = some v → ∃ x y w h, v = .agg (rc x y w h) ∧ mayB x y w h = true ∧ w ≤ 8 ∧ h ≤ 8 := fun i v hv => by
  obtain ⟨p, hp, _, rfl⟩ := (h.gu _ _).1 hv
  obtain ⟨h1, _, _, h2, h3, _⟩ := val_facts (h.val p hp)
  exact ⟨_, _, _, _, rfl, h1, h2, h3⟩
end
def FC (wd rd : Nat) (s s' : List Ob) : Prop := ∀ j cs, j ≠ wd → j ≠ rd → s[j]? = some (.cells cs) → s'[j]? = some (.cells cs)
structure Bo (s : List Ob) (wd a b rd : Nat) (WW HH : Int) (tv tv2 dv bv ev : V) (T : List Int) (us : List (Int × V)) (os : List ((Int × Int) × V)) (L : List B4) (ds : List R4) : Prop where
  p : Wg s wd a b WW HH tv dv (bs T) us os ds
  r : Wr s rd WW HH tv2 bv ev (bs T) L ds
  rel : Rel WW HH us os L
  srt : Srt L
  ne : wd ≠ rd
  nr : ∀ j, rowOf dv = some j → rowOf ev ≠ some j
section
variable {n m : Nat} {st s : List Ob} {K : V → List Ob → Prop} {wd a b rd : Nat} {WW HH : Int} {tv tv2 dv bv ev dv' bv' ev' : V} {T : List Int} {us us' : List (Int × V)} {os os' : List ((Int × Int) × V)} {L L' : List B4} {ds ds' : List R4} {x y w h id : Int}
theorem Bo.grw (h : Bo st wd a b rd WW HH tv tv2 dv bv ev T us os L ds) (k : Grw st s) : Bo s wd a b rd WW HH tv tv2 dv bv ev T us os L ds := ⟨h.p.grw k, h.r.grw k, h.rel, h.srt, h.ne, h.nr⟩
theorem FC.trans {s2 : List Ob} (h : FC wd rd st s) (k : FC wd rd s s2) : FC wd rd st s2 := fun j cs h1 h2 h3 => k _ _ h1 h2 (h _ _ h1 h2 h3)
end
structure E4 where
  rz : Bool
  u : B4
def E4.v (e : E4) : List V := .sc (.bool e.rz) :: B4.v e.u
def FS (s s' : List Ob) : Prop := ∀ (j : Nat) (cs : List V), s[j]? = some (.cells cs) → s'[j]? = some (.cells cs)
section
variable {n m : Nat} {st s : List Ob} {K : V → List Ob → Prop} {WW HH : Int} {T : List Int} {L : List B4} {E : List E4} {tv bv lv : V}
theorem FS.trans {s s' s2 : List Ob} (h : FS s s') (k : FS s' s2) : FS s s2 := fun j cs hj => k _ _ (h _ _ hj)
end
theorem Rel.at2 {WW HH : Int} {us : List (Int × V)} {os : List ((Int × Int) × V)} {L : List B4} (h : Rel WW HH us os L) (a b : Int) : (getC (a, b) os = none ∧ L.find? (hasU a b) = none) ∨ ∃ u, getC (a, b) os = some (.sc (.int .i64 u.id)) ∧ L.find? (hasU a b) = some u := by
  cases hf : L.find? (hasU a b) with
  | none =>
    left
    refine ⟨?_, rfl⟩
    cases hq : getC (a, b) os with
    | none => rfl
    | some v =>
      obtain ⟨p, hp, hin, _⟩ := (h.go _ _ _).1 hq
      have := List.find?_eq_none.1 hf p hp
      exact absurd ((has_in (h.val p hp) a b).2 hin) this
  | some u =>
    right
    have hu := List.mem_of_find?_eq_some hf
    have hh := List.find?_some hf
    exact ⟨u, (h.go _ _ _).2 ⟨u, hu, (has_in (h.val u hu) a b).1 hh, rfl⟩, rfl⟩
section
variable {n m : Nat} {st s : List Ob} {K : V → List Ob → Prop} {WW HH : Int} {T : List Int} {L : List B4} {E : List E4} {tv bv lv : V} {x y z q : Int}
def terK (WW HH : Int) (ts : List V) (x y : Int) : Int := if hasB 0 0 WW HH x y = true then (match ts[(y * WW + x).toNat]? with | some (.sc (.int _ k)) => k | _ => 0) else 0
theorem w_Terr {wd a b : Nat} {dv : V} {ts : List V} {us : List (Int × V)} {os : List ((Int × Int) × V)} {ds : List R4} (hi : Wg st wd a b WW HH tv dv ts us os ds) (hW : 1 ≤ WW ∧ WW ≤ 128) (hH : 1 ≤ HH ∧ HH ≤ 128) (hl : (ts.length : Int) = WW * HH) (hb : ∀ v ∈ ts, ∃ k : Int, v = .sc (.int .u8 k) ∧ 0 ≤ k ∧ k < 256)
    (hK : ∀ s, Grw st s → K (.tup [.sc (.int .i64 (terK WW HH ts x y)), .sc (.bool (hasB 0 0 WW HH x y))]) s) : acallF Tryz.prog pl (n + 5) m 117 [.ref wd 0, .agg (cl x y)] st K := by
  unfold terK at hK
  refine w_Terrain1 hi hW hH hl hb (fun e s g => ?_) fun e k s hk g => ?_
  · have := hK s g
    rw [e, if_neg (by decide)] at this
    exact this
  · have := hK s g
    rw [e, if_pos rfl, hk] at this
    exact this
theorem q_Terr {rd : Nat} {ev : V} {ts : List V} {ds : List R4} (hi : Wr st rd WW HH tv bv ev ts L ds) (hW : 1 ≤ WW ∧ WW ≤ 128) (hH : 1 ≤ HH ∧ HH ≤ 128) (hl : (ts.length : Int) = WW * HH) (hb : ∀ v ∈ ts, ∃ k : Int, v = .sc (.int .u8 k) ∧ 0 ≤ k ∧ k < 256)
    (hK : ∀ s, Grw st s → K (.tup [.sc (.int .i64 (terK WW HH ts x y)), .sc (.bool (hasB 0 0 WW HH x y))]) s) : acallF Tryz.prog pl (n + 5) m 73 [.ref rd 0, .agg (cl x y)] st K := by
  unfold terK at hK
  refine q_Terrain hi hW hH hl hb (fun e s g => ?_) fun e k s hk g => ?_
  · have := hK s g
    rw [e, if_neg (by decide)] at this
    exact this
  · have := hK s g
    rw [e, if_pos rfl, hk] at this
    exact this
def atK (L : List B4) (x y : Int) : Int := match L.find? (hasU x y) with
  | some u => u.id
  | none => 0
theorem w_Atk {wd a b : Nat} {dv : V} {ts : List V} {us : List (Int × V)} {os : List ((Int × Int) × V)} {ds : List R4} (hi : Wg st wd a b WW HH tv dv ts us os ds) (hr : Rel WW HH us os L)
    (hK : ∀ s, Grw st s → K (.tup [.sc (.int .i64 (atK L x y)), .sc (.bool (L.find? (hasU x y)).isSome)]) s) : acallF Tryz.prog pl (n + 2) m 118 [.ref wd 0, .agg (cl x y)] st K := by
  unfold atK at hK
  refine w_At1 hi.wd fun s g => ?_
  have := hK s g
  rcases hr.at2 x y with ⟨h1, h2⟩ | ⟨u, h1, h2⟩
  · rw [h2] at this; rw [h1]; exact this
  · rw [h2] at this; rw [h1]; exact this
theorem q_Atk {rd : Nat} {ev : V} {ts : List V} {ds : List R4} (hi : Wr st rd WW HH tv bv ev ts L ds) (hm : L.length < m) (hl : L.length < 1000000)
    (hK : ∀ s, Grw st s → K (.tup [.sc (.int .i64 (atK L x y)), .sc (.bool (L.find? (hasU x y)).isSome)]) s) : acallF Tryz.prog pl (n + 5) m 74 [.ref rd 0, .agg (cl x y)] st K := by
  unfold atK at hK
  refine q_At hi hm hl fun s g => ?_
  have := hK s g
  cases h : L.find? (hasU x y) with
  | none => rw [h] at this; exact this
  | some u => rw [h] at this; exact this
end
theorem bytes_of {t : TypeId} {b : Nat} (h : M.bytesOf Tryz.prog t = some b) : Tryz.prog.bytesOf t = b := by
  unfold M.bytesOf at h
  unfold Program.bytesOf
  rw [h]; rfl
set_option maxRecDepth 100000 in
theorem tv_bd {k : Nat} {ys : List V} (h : TV Tryz.prog (k + 3) 115 ys) : ∃ u : B4, ys = B4.v u := by
  have h := tv_struct h Tryz.underlying115
  obtain ⟨y1, z1, rfl, h1, h⟩ := h
  obtain ⟨y2, z2, rfl, h2, h⟩ := h
  obtain rfl : z2 = [] := h
  obtain ⟨i, rfl, _⟩ := tv_int h1 Tryz.underlying3
  have h := tv_struct h2 Tryz.underlying75
  obtain ⟨a0, b0, rfl, j0, h⟩ := h
  obtain ⟨a1, b1, rfl, j1, h⟩ := h
  obtain ⟨a2, b2, rfl, j2, h⟩ := h
  obtain rfl : b2 = [] := h
  have h := tv_struct j0 Tryz.underlying31
  obtain ⟨a3, b3, rfl, j3, h⟩ := h
  obtain ⟨a4, b4, rfl, j4, h⟩ := h
  obtain rfl : b4 = [] := h
  obtain ⟨x, rfl, _⟩ := tv_int j3 Tryz.underlying3
  obtain ⟨y, rfl, _⟩ := tv_int j4 Tryz.underlying3
  obtain ⟨w, rfl, _⟩ := tv_int j1 Tryz.underlying3
  obtain ⟨hh, rfl, _⟩ := tv_int j2 Tryz.underlying3
  exact ⟨⟨i, x, y, w, hh⟩, rfl⟩
set_option maxRecDepth 100000 in
theorem tv_map {k : Nat} {ys : List V} (h : TV Tryz.prog (k + 5) 25 ys) : ∃ (WW HH : Int) (tv bv : V) (T : List Int) (L : List B4), ys = mp WW HH tv bv ∧ (∀ s, Rd Tryz.prog s 5 tv (bs T) T.length) ∧ (∀ s, Rd Tryz.prog s 115 bv (L.flatMap B4.v) L.length) ∧ (one tv = true ∧ cellsV tv = [tv]) ∧ (one bv = true ∧ cellsV bv = [bv]) ∧
    (∀ t ∈ T, 0 ≤ t ∧ t < 256) ∧ T.length ≤ 140737488355328 ∧ L.length ≤ 3518437208883 := by
  have h := tv_struct h Tryz.underlying25
  obtain ⟨y1, z1, rfl, h1, h⟩ := h
  obtain ⟨y2, z2, rfl, h2, h⟩ := h
  obtain ⟨y3, z3, rfl, h3, h⟩ := h
  obtain ⟨y4, z4, rfl, h4, h⟩ := h
  obtain rfl : z4 = [] := h
  obtain ⟨WW, rfl, _⟩ := tv_int h1 Tryz.underlying3
  obtain ⟨HH, rfl, _⟩ := tv_int h2 Tryz.underlying3
  obtain ⟨us, n, nil, full, rfl, hu, hn, hnil⟩ := tv_slice h3 Tryz.underlying22
  obtain ⟨T, rfl, rfl, hT⟩ := tv_bytes Tryz.underlying5 hu
  obtain ⟨ws, n2, nil2, full2, rfl, hu2, hn2, hnil2⟩ := tv_slice h4 Tryz.underlying23
  obtain ⟨L, rfl, rfl, _⟩ := TVn.list (f := B4.v) (Q := fun _ => True) (fun ys hy => by
    obtain ⟨u, rfl⟩ := tv_bd hy
    exact ⟨u, rfl, trivial⟩) hu2
  rw [bytes_of by5] at hn
  rw [bytes_of by115] at hn2
  have er : reachBytes = 140737488351232 := rfl
  rw [er] at hn hn2
  exact ⟨WW, HH, .tsl (bs T) T.length nil full, .tsl (L.flatMap B4.v) L.length nil2 full2, T, L, rfl, fun s => tsl_rd sz5 (by rw [bs_len]; omega) (fun h => (hnil h).1), fun s => tsl_rd sz115 (flatMap_len (f := B4.v) (s := 5) (fun _ => rfl) _) (fun h => (hnil2 h).1), ⟨rfl, rfl⟩, ⟨rfl, rfl⟩, hT, by omega, by omega⟩
end Go.Proofs.YtpdhoicpaonggaaGreat
