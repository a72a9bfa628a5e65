/- Chapter 5: a unit moved, taken. Chapter 5: all units, by rising numbers. Chapter 5: has an index just these units? Chapter 5's reference: has nobody but one a cell? Chapter 5: what comes of an act, in one form. The document's index: what Put tells. The document's index: rows of units, turned in their places. Chapters 5 and 22: acts, units and claims, as they are handed in. Chapter 22: an index and a table over it, both ways. Chapter 22: a table's claims, told as moved units. Chapter 22: all claims, by rising numbers; all stand where they claimed. Chapter 22: claims, as they are handed in; old and new places. Chapter 22's reference: may one claim? Chapter 22's reference: a claim more. Chapter 22: a round of 'ReserveActs' over all claims. -/
import Derived.Test.YtpdhoicpaonggaaGreatX5
set_option linter.unusedVariables false
set_option linter.unusedSimpArgs false
set_option maxRecDepth 10000
namespace Go.Proofs.YtpdhoicpaonggaaGreat
open Go Go.M Go.RowKit
attribute [local congr] acallF_cong aloop_cong bcase_cong resK_cong valK_cong wantK_cong callK_cong xputK_cong qputK_cong resM_cong rfK_cong
attribute [local irreducible] seqK blockK loopK nextK bcase resK valK wantK funK putK dputK xputK qputK callK aops aop acode adraw aloop acallF acall invK resM rfK rfEnd rdEnd rdMid around
namespace o
def mvU (u : U) (x y : Int) : U := ⟨u.id, x, y, u.w, u.h⟩

end o
namespace o
theorem keys_srt {us : List (Int × V)} {ids : List Int} (hn : ndI us) (hmem : ∀ i, (getI i us).isSome = true ↔ i ∈ ids) (hs : ids.Pairwise (· < ·)) : ((us.map (·.1)).mergeSort fun x y => decide (x ≤ y)) = ids ∧ us.length = ids.length := by
  have hnd : ids.Nodup := hs.imp fun {a b} hab he => by omega
  have hp : (us.map (·.1)).Perm ids := (List.perm_ext_iff_of_nodup hn hnd).2 fun i => by
    rw [← hmem]
    have := getI_none (i := i) (l := us)
    constructor
    · intro hi
      cases hq : getI i us with
      | none => exact absurd hi (this.1 hq)
      | some v => rfl
    · intro hi
      cases Classical.em (i ∈ us.map (·.1)) with
      | inl h1 => exact h1
      | inr h1 => rw [this.2 h1] at hi; cases hi
  have tr : ∀ a b c : Int, (decide (a ≤ b)) = true → (decide (b ≤ c)) = true → (decide (a ≤ c)) = true := fun a b c h1 h2 => by simp only [decide_eq_true_eq] at *; omega
  have to : ∀ a b : Int, (decide (a ≤ b) || decide (b ≤ a)) = true := fun a b => by simp only [Bool.or_eq_true, decide_eq_true_eq]; omega
  refine ⟨List.Perm.eq_of_pairwise (le := fun a b => decide (a ≤ b) = true) (fun a b _ _ h1 h2 => ?_) (List.pairwise_mergeSort tr to _) ?_ ((List.mergeSort_perm _ _).trans hp), by rw [← hp.length_eq, List.length_map]⟩
  · simp only [decide_eq_true_eq] at h1 h2; omega
  · refine hs.imp fun {a b} hab => ?_
    simp only [decide_eq_true_eq]; omega
def inR (i : Int) : Prop := -9223372036854775808 ≤ i ∧ i < 9223372036854775808
section
variable {n m : Nat} {st s : List Ob} {K : V → List Ob → Prop} {ix a b : Nat} {us : List (Int × V)} {os : List ((Int × Int) × V)} {ids : List Int}
theorem m_KeysC (hK : K (.fn (.func 78) [.ref st.length 0]) (st ++ [.cells [.map a]])) : acallF Tryz.prog pl (n + 1) m 39 [.map a] st K := by
  refine acallF_inF Tryz.func39 rfl rfl Tryz.ntmps39 (by simp) ?_
  simp only [↓zP,zV,Nat.reduceAdd,Nat.reduceMul,Nat.reduceLT,Nat.reduceEqDiff,Nat.reduceLeDiff,Int.reduceLE,Int.reduceLT,Int.reduceBNe,Int.reduceBEq,Int.reduceNeg,Int.reduceEq,Int.reduceAdd,Int.reduceGT,Int.reduceGE,reduceCtorEq]
  exact hK
theorem m_Sorted {c g : Nat} (hg : g ∈ [78]) (hc : st[c]? = some (.cells [.map a])) (ha : st[a]? = some (.map (esI us))) (hn : ndI us) (hmem : ∀ i, (getI i us).isSome = true ↔ i ∈ ids) (hs : ids.Pairwise (· < ·)) (hr : ∀ i ∈ ids, inR i) (hl : ids.length ≤ 1000000)
    (h0 : ids = [] → K (.tsl [] 0 true true) st)
    (h1 : ids ≠ [] → K (.sl st.length 0 ids.length false ids.length) (st ++ [.row 3 (ids.map fun k => .sc (.int .i64 k)) ids.length 0 false])) :
    acallF Tryz.prog pl (n + 1) m 38 [.fn (.func g) [.ref c 0]] st K := by
  obtain ⟨k2, k3⟩ := keys_srt hn hmem hs
  have hlen : (us.map (·.1)).length = ids.length := by rw [List.length_map, k3]
  have hall : ((us.map (·.1)).all fun k => decide (-9223372036854775808 ≤ k ∧ k < 9223372036854775808)) = true := List.all_eq_true.2 fun k hk => by
    have : k ∈ (us.map (·.1)).mergeSort fun x y => decide (x ≤ y) := (List.mergeSort_perm _ _).mem_iff.2 hk
    rw [k2] at this
    have := hr k this
    unfold inR at this
    simpa using this
  have hcond : (us.map (·.1)).Nodup ∧ (us.map (·.1)).length ≤ 1000000 ∧ ((us.map (·.1)).all fun k => decide (-9223372036854775808 ≤ k ∧ k < 9223372036854775808)) = true := ⟨hn, by omega, hall⟩
  by_cases hL : ids = []
  · have he : us.map (·.1) = [] := List.eq_nil_of_length_eq_zero (by rw [hlen, hL]; rfl)
    refine acallF_prim Tryz.func38 rfl (v := .tsl [] 0 true true) (st' := st) ?_ (h0 hL)
    unfold sortedK
    simp only [hc, ha, keysI_esI]
    rw [if_pos hg, if_pos hcond, if_pos he]
  · have he : us.map (·.1) ≠ [] := fun hh => hL (List.eq_nil_of_length_eq_zero (by rw [← hlen, hh]; rfl))
    refine acallF_prim Tryz.func38 rfl (v := .sl st.length 0 ids.length false ids.length) (st' := st ++ [.row 3 (ids.map fun k => .sc (.int .i64 k)) ids.length 0 false]) ?_ (h1 hL)
    unfold sortedK
    simp only [hc, ha, keysI_esI]
    rw [if_pos hg, if_pos hcond, if_neg he, k2, hlen]
end
end o
namespace o
structure Gd (L : List U) : Prop where
  srt : Srt L
  rng : ∀ u ∈ L, inR u.id
  len : L.length ≤ 256
def Kr (s s' : List Ob) : Prop := ∀ (j : Nat) (e : TypeId) (xs : List V) (n lo : Nat) (fz : Bool), s[j]? = some (.row e xs n lo fz) → s'[j]? = some (.row e xs n lo fz)
theorem rd_kr {P : Program} {st s : List Ob} {e : TypeId} {v : V} {xs : List V} {n : Nat} (h : Rd P st e v xs n) (k : Kr st s) : Rd P s e v xs n := by
  rcases h.cases with ⟨nil, full, rfl⟩ | ⟨id, off, full, gg, ys, m, lo, fz, sz, rfl, k1, k2, k3, hxs⟩
  · exact h
  · refine ⟨?_, h.2⟩
    have := h.1
    simp only [elems, k1, k2] at this
    simp only [elems, k _ _ _ _ _ _ k1, k2]
    exact this
theorem cut_kr {P : Program} {st s : List Ob} {e : TypeId} {v : V} {xs : List V} {n : Nat} (h : Cut P st e v xs n) (k : Kr st s) : Cut P s e v xs n := by
  refine ⟨rd_kr h.1 k, ?_, h.2.2⟩
  rcases h.2.1 with ⟨xs, n, nil, f, rfl⟩ | ⟨id, off, n, gg, rfl⟩
  · exact .inl ⟨_, _, _, _, rfl⟩
  · exact .inr ⟨_, _, _, _, rfl⟩
section
variable {us : List (Int × V)} {os : List ((Int × Int) × V)} {L : List U}
theorem Gd.pw (h : Gd L) : (L.map U.id).Pairwise (· < ·) := List.pairwise_map.2 h.srt
theorem Gd.ir (h : Gd L) : ∀ i ∈ L.map U.id, inR i := fun i hi => by
  obtain ⟨u, hu, rfl⟩ := List.mem_map.1 hi
  exact h.rng u hu
end

end o
namespace o
section
variable {n m : Nat} {st s : List Ob} {K : V → List Ob → Prop} {x y w h but : Int} {sv : V} {L : List U} {iy : Nat}
def othR (but x y w h : Int) (u : U) : Bool := u.id != but && meetsR x y w h u
set_option maxHeartbeats 4000000 in
theorem r_Free (hy : Ri st iy sv L) (hm : L.length < m) (hl : L.length < 1000000) (hK : ∀ s, Grw st s → K (.sc (.bool (mayB x y w h && !L.any (othR but x y w h)))) s) : acallF Tryz.prog pl (n + 6) m 59 [.ref iy 0, .agg (rc x y w h), .sc (.int .i64 but)] st K := by
  refine acallF_inF Tryz.func59 rfl rfl Tryz.ntmps59 (by simp) ?_
  have g0 := Grw.push st [.cells (rc x y w h)]
  have c0 : (st ++ [Ob.cells (rc x y w h)])[st.length]? = some (.cells (rc x y w h)) := get_new _ _ 0
  simp only [rc] at g0 c0
  simp only [rc, c0, ↓zP,zV,Nat.reduceAdd,Nat.reduceMul,Nat.reduceLT,Nat.reduceEqDiff,Nat.reduceLeDiff,Int.reduceLE,Int.reduceLT,Int.reduceBNe,Int.reduceBEq,Int.reduceNeg,Int.reduceEq,Int.reduceAdd,Int.reduceGT,Int.reduceGE,reduceCtorEq]
  refine r_May (n := n + 2) fun s1 j1 => ?_
  have c1 := j1 _ _ c0
  have g1 := g0.trans j1
  cases e1 : mayB x y w h
  · simp only [e1, Bool.false_and] at hK
    simp only [↓zP,zV,Nat.reduceAdd,Nat.reduceMul,Nat.reduceLT,Nat.reduceEqDiff,Nat.reduceLeDiff,Int.reduceLE,Int.reduceLT,Int.reduceBNe,Int.reduceBEq,Int.reduceNeg,Int.reduceEq,Int.reduceAdd,Int.reduceGT,Int.reduceGE,reduceCtorEq]
    exact hK _ g1
  simp only [e1, Bool.true_and] at hK
  simp only [↓zP,zV,Nat.reduceAdd,Nat.reduceMul,Nat.reduceLT,Nat.reduceEqDiff,Nat.reduceLeDiff,Int.reduceLE,Int.reduceLT,Int.reduceBNe,Int.reduceBEq,Int.reduceNeg,Int.reduceEq,Int.reduceAdd,Int.reduceGT,Int.reduceGE,reduceCtorEq]
  refine aloop_forF (fun k f s => ∃ i : Nat, Grw st s ∧ s[st.length]? = some (.cells (rc x y w h)) ∧ k + i = m ∧ i ≤ L.length ∧ L.any (othR but x y w h) = (L.drop i).any (othR but x y w h) ∧ f 0 = .ref iy 0 ∧ f 2 = .sc (.int .i64 but) ∧ f 4 = .ref st.length 0 ∧ f 7 = .sc (.int .i64 i)) ⟨0, g1, c1, by omega, by omega, rfl, by simp only [zF,Nat.reduceEqDiff,Nat.reduceLT], by simp only [zF,Nat.reduceEqDiff,Nat.reduceLT], by simp only [zF,Nat.reduceEqDiff,Nat.reduceLT], by simp only [zF,Nat.reduceEqDiff,Nat.reduceLT]; rfl⟩ ?_
  rintro I' hI' k f s ⟨i, gs, cs, hk, hi, hp, f0, f2, f4, f7⟩
  refine ⟨k - 1, by omega, ?_⟩
  have hys := hy.grw gs
  have y1 := hys.at_
  have hv := hys.rd.1
  have hal := alen_rd hv Tryz.underlying82
  simp only [rc] at cs
  by_cases hil : i < L.length
  · have d : decide ((i : Int) < L.length) = true := decide_eq_true (by omega)
    obtain ⟨p1, p2⟩ := ix_flat (f := U.v) (fun a => rfl) hv Tryz.underlying82 sz134 ag134 (by omega) hil
    have e3 : IntKind.i64.wrap ((i : Int) + 1) = ((i + 1 : Nat) : Int) := by rw [IntWalk.i64_in _ (by omega)]; rfl
    have hd : L.drop i = L[i] :: L.drop (i + 1) := List.drop_eq_getElem_cons hil
    rw [hd, List.any_cons] at hp
    obtain ⟨p3, p4⟩ := u_r hv hil
    obtain ⟨p5, p6⟩ := u_id hv hil
    cases q0 : L[i].id != but
    · simp only [othR, q0, Bool.false_and, Bool.false_or] at hp
      simp only [f0, f2, f4, f7, y1, hal, d, p1, p3, p4, p5, p6, cs, q0, e3, ↓zP,zV,Nat.reduceAdd,Nat.reduceMul,Nat.reduceLT,Nat.reduceEqDiff,Nat.reduceLeDiff,Int.reduceLE,Int.reduceLT,Int.reduceBNe,Int.reduceBEq,Int.reduceNeg,Int.reduceEq,Int.reduceAdd,Int.reduceGT,Int.reduceGE,reduceCtorEq]
      exact hI' _ _ _ ⟨i + 1, gs, cs, by omega, hil, hp, by simp only [f0, zF,Nat.reduceEqDiff,Nat.reduceLT], by simp only [f2, zF,Nat.reduceEqDiff,Nat.reduceLT], by simp only [f4, zF,Nat.reduceEqDiff,Nat.reduceLT], by simp only [zF,Nat.reduceEqDiff,Nat.reduceLT]⟩
    · simp only [f0, f2, f4, f7, y1, hal, d, p1, p3, p4, p5, p6, cs, q0, ↓zP,zV,Nat.reduceAdd,Nat.reduceMul,Nat.reduceLT,Nat.reduceEqDiff,Nat.reduceLeDiff,Int.reduceLE,Int.reduceLT,Int.reduceBNe,Int.reduceBEq,Int.reduceNeg,Int.reduceEq,Int.reduceAdd,Int.reduceGT,Int.reduceGE,reduceCtorEq]
      refine r_meet (n := n) fun s2 j2 => ?_
      have cs2 := j2 _ _ cs
      cases q : meetB L[i].x L[i].y L[i].w L[i].h x y w h
      · simp only [othR, meetsR, q0, q, Bool.and_false, Bool.false_or] at hp
        simp only [f0, f2, f4, f7, e3, ↓zP,zV,Nat.reduceAdd,Nat.reduceMul,Nat.reduceLT,Nat.reduceEqDiff,Nat.reduceLeDiff,Int.reduceLE,Int.reduceLT,Int.reduceBNe,Int.reduceBEq,Int.reduceNeg,Int.reduceEq,Int.reduceAdd,Int.reduceGT,Int.reduceGE,reduceCtorEq]
        exact hI' _ _ _ ⟨i + 1, gs.trans j2, cs2, by omega, hil, hp, by simp only [f0, zF,Nat.reduceEqDiff,Nat.reduceLT], by simp only [f2, zF,Nat.reduceEqDiff,Nat.reduceLT], by simp only [f4, zF,Nat.reduceEqDiff,Nat.reduceLT], by simp only [zF,Nat.reduceEqDiff,Nat.reduceLT]⟩
      · simp only [othR, meetsR, q0, q, Bool.and_self, Bool.true_or] at hp
        rw [hp] at hK
        simp only [↓zP,zV,Nat.reduceAdd,Nat.reduceMul,Nat.reduceLT,Nat.reduceEqDiff,Nat.reduceLeDiff,Int.reduceLE,Int.reduceLT,Int.reduceBNe,Int.reduceBEq,Int.reduceNeg,Int.reduceEq,Int.reduceAdd,Int.reduceGT,Int.reduceGE,reduceCtorEq]
        exact hK _ (gs.trans j2)
  · have d : decide ((i : Int) < L.length) = false := decide_eq_false (by omega)
    obtain rfl : i = L.length := by omega
    rw [List.drop_length] at hp
    rw [hp] at hK
    simp only [f0, f2, f4, f7, y1, hal, d, ↓zP,zV,Nat.reduceAdd,Nat.reduceMul,Nat.reduceLT,Nat.reduceEqDiff,Nat.reduceLeDiff,Int.reduceLE,Int.reduceLT,Int.reduceBNe,Int.reduceBEq,Int.reduceNeg,Int.reduceEq,Int.reduceAdd,Int.reduceGT,Int.reduceGE,reduceCtorEq]
    exact hK _ gs
end
end o
namespace o
section
variable {us : List (Int × V)} {os : List ((Int × Int) × V)} {L : List U}
theorem Gd.nil : Gd [] := ⟨List.Pairwise.nil, fun u hu => by simp at hu, by simp⟩
theorem Gd.place (h : Gd L) {u : U} (hl : L.length < 256) (hn : ∀ v ∈ L, v.id ≠ u.id) (hi : inR u.id) : Gd (insU u L) := by
  refine ⟨h.srt.insU u hn, fun v hv => ?_, by rw [insU_eq, insAt_len]; omega⟩
  rcases (mem_insAt u v L _).1 hv with rfl | hv
  · exact hi
  · exact h.rng v hv
theorem Gd.take (h : Gd L) (i : Nat) (hi : i < L.length) : Gd (L.take i ++ L.drop (i + 1)) := by
  refine ⟨h.srt.take i, fun v hv => h.rng v ?_, ?_⟩
  · rcases List.mem_append.1 hv with hv | hv
    · exact List.mem_of_mem_take hv
    · exact List.mem_of_mem_drop hv
  · have := h.len
    rw [List.length_append, List.length_take, List.length_drop]; omega
end
structure A6 where
  d : Int
  id : Int
  x : Int
  y : Int
  w : Int
  h : Int
def A6.v (e : A6) : List V := .sc (.int .i64 e.d) :: .sc (.int .i64 e.id) :: rc e.x e.y e.w e.h
end o
namespace o
section
variable {n m : Nat} {st s : List Ob} {K : V → List Ob → Prop} {L : List U} {x y w h id : Int} {sv : V} {iy : Nat}
theorem r_PutR (hy : Ri st iy sv L) (hm : 300 < m) (hl : L.length ≤ 256)
    (hK1 : putR L id x y w h ≠ 0 → ∀ s, Grw st s → K (.sc (.int .i64 (putR L id x y w h))) s)
    (hK0 : putR L id x y w h = 0 → ∀ sv' s, Ri s iy sv' (insU ⟨id, x, y, w, h⟩ L) → (∀ j o, j ≠ iy → st[j]? = some o → s[j]? = some o) → K (.sc (.int .i64 0)) s) :
    acallF Tryz.prog pl (n + 7) m 19 [.ref iy 0, .sc (.int .i64 id), .agg (rc x y w h)] st K := by
  unfold putR at hK1 hK0
  refine r_Put hy (by omega) (by omega) (fun e s g => ?_) (fun e1 e2 e3 e4 s g => ?_) (fun e1 e2 e3 e4 e5 s g => ?_) (fun e1 e2 e3 e4 e5 e6 s g => ?_) fun e1 e2 e3 e4 e5 e6 sv' s h1 h2 => ?_
  · rw [if_pos e] at hK1
    exact hK1 (by decide) s g
  all_goals have en : ¬ (mayB x y w h = false ∨ w > 4 ∨ h > 4) := by rw [e1]; simp; omega
  all_goals rw [if_neg en] at hK1 hK0
  · rw [if_pos e4] at hK1
    exact hK1 (by decide) s g
  all_goals rw [if_neg (by omega)] at hK1 hK0
  · rw [if_pos e5] at hK1
    exact hK1 (by decide) s g
  all_goals rw [if_neg (by omega)] at hK1 hK0
  · rw [if_pos e6] at hK1
    exact hK1 (by decide) s g
  · rw [if_neg (by rw [e6]; decide)] at hK0
    exact hK0 rfl sv' s h1 h2
end
end o
namespace o
theorem cut_nil (P : Program) (s : List Ob) {e : TypeId} : Cut P s e (.tsl [] 0 true true) [] 0 := ⟨⟨rfl, ⟨fun b hb => (by cases hb), fun _ => rfl⟩, fun s _ => by simp⟩, .inl ⟨_, _, _, _, rfl⟩, fun _ => rfl⟩

end o
namespace o
theorem wf_inR {i : Int} (h : (Lit.int IntKind.i64 i).wf = true) : inR i := by
  simp [Lit.wf, IntKind.max, IntKind.min, IntKind.signed, IntKind.bits] at h
  unfold inR; omega
set_option maxRecDepth 100000 in
theorem tv_rect {k : Nat} {ys : List V} (h : TV Tryz.prog (k + 2) 75 ys) : ∃ x y w hh : Int, ys = rc x y w hh := by
  have h := tv_struct h Tryz.underlying75
  obtain ⟨a0, b0, rfl, j0, h⟩ := h
  obtain ⟨a1, b1, rfl, j1, h⟩ := h
  obtain ⟨a2, b2, rfl, j2, h⟩ := h
  obtain rfl : b2 = [] := h
  have h := tv_struct j0 Tryz.underlying31
  obtain ⟨a3, b3, rfl, j3, h⟩ := h
  obtain ⟨a4, b4, rfl, j4, h⟩ := h
  obtain rfl : b4 = [] := h
  obtain ⟨x, rfl, _⟩ := tv_int j3 Tryz.underlying3
  obtain ⟨y, rfl, _⟩ := tv_int j4 Tryz.underlying3
  obtain ⟨w, rfl, _⟩ := tv_int j1 Tryz.underlying3
  obtain ⟨hh, rfl, _⟩ := tv_int j2 Tryz.underlying3
  exact ⟨x, y, w, hh, rfl⟩
end o
namespace o
section
variable {n m : Nat} {st s : List Ob} {K : V → List Ob → Prop} {L E : List U} {x y w h id : Int} {sv lv : V} {iy : Nat}
theorem m_id (hv : Rd Tryz.prog s 77 lv (E.flatMap U.v) E.length) {i : Nat} (hi : i < E.length) : afa Tryz.prog s 77 0 (ixp 5 lv i 0) = some (ixp 5 lv i 0, s) ∧ ald Tryz.prog s 3 (ixp 5 lv i 0) = some (.sc (.int .i64 E[i].id), s) := by
  refine ⟨afa_ix hv (i := 0) (off := 0) (k := 1) (ft := 3) (by kernel_rfl) (by omega) i 0, ?_⟩
  rw [ald_ix hv sz77 sz3 (by omega) hi (by omega)]
  simp only [aload, ag3, Nat.add_zero]
  rw [flatMap_at (f := U.v) (s := 5) (fun a => rfl) E i hi]
  rfl
theorem m_r (hv : Rd Tryz.prog s 77 lv (E.flatMap U.v) E.length) {i : Nat} (hi : i < E.length) : afa Tryz.prog s 77 1 (ixp 5 lv i 0) = some (ixp 5 lv i 1, s) ∧ ald Tryz.prog s 75 (ixp 5 lv i 1) = some (.agg (rc E[i].x E[i].y E[i].w E[i].h), s) := by
  refine ⟨afa_ix hv (i := 1) (off := 1) (k := 4) (ft := 75) (by kernel_rfl) (by omega) i 0, ?_⟩
  rw [ald_ix hv sz77 sz75 (by omega) hi (by omega)]
  have e : (E.flatMap U.v).drop (i * 5 + 1) = rc E[i].x E[i].y E[i].w E[i].h ++ (E.drop (i + 1)).flatMap U.v := by
    rw [← List.drop_drop, flatMap_at (f := U.v) (s := 5) (fun a => rfl) E i hi]
    rfl
  rw [e]
  simp only [aload, ag75, sz75]
  rw [if_pos (by simp [rc])]
  rfl
end
end o
namespace o
theorem len_sub : ∀ {A B : List Int}, A.Nodup → (∀ x ∈ A, x ∈ B) → A.length ≤ B.length
  | [], _, _, _ => Nat.zero_le _
  | a :: A, B, h, hs => by
    rw [List.nodup_cons] at h
    have ha := hs a (by simp)
    have := len_sub (A := A) (B := B.erase a) h.2 fun x hx => (List.mem_erase_of_ne (by rintro rfl; exact h.1 hx)).2 (hs x (by simp [hx]))
    rw [List.length_erase_of_mem ha] at this
    have := List.length_pos_of_mem ha
    simp only [List.length_cons]; omega
structure Cr (L M : List U) (gs cls : List (Int × V)) (cc : List ((Int × Int) × V)) : Prop where
  rel : Rel gs cc M
  ni : ndI cls
  gu : ∀ i v, getI i cls = some v ↔ ∃ u ∈ M, u.id = i ∧ v = .agg (cl u.x u.y)
  len : cls.length = M.length
  srt : Srt M
  un : ∀ u ∈ M, ∃ p ∈ L, p.id = u.id ∧ p.w = u.w ∧ p.h = u.h
  fr : ∀ u ∈ M, ∀ p ∈ L, p.id ≠ u.id → meetB p.x p.y p.w p.h u.x u.y u.w u.h = false
def mayC (L M : List U) (id x y : Int) : Int := match L.find? (fun u => u.id == id) with
  | none => 4
  | some u => if M.any (fun c => c.id == id) = true then 8 else if mayB x y u.w u.h = false then 1 else if L.any (othR id x y u.w u.h) = true then 6 else if M.any (meetsR x y u.w u.h) = true then 6 else 0
section
variable {us gs cls : List (Int × V)} {os cc : List ((Int × Int) × V)} {L M : List U}
theorem Cr.nil (L : List U) : Cr L [] [] [] [] := ⟨Rel.nil, by simp [ndI], by simp [getI_nil], rfl, List.Pairwise.nil, by simp, by simp⟩
theorem Cr.gd (h : Cr L M gs cls cc) (hL : Gd L) : Gd M := by
  refine ⟨h.srt, fun u hu => ?_, ?_⟩
  · obtain ⟨p, hp, he, _⟩ := h.un u hu
    rw [← he]; exact hL.rng p hp
  · have := len_sub (A := M.map U.id) (B := L.map U.id) h.rel.ids fun x hx => by
      obtain ⟨u, hu, rfl⟩ := List.mem_map.1 hx
      obtain ⟨p, hp, he, _⟩ := h.un u hu
      exact List.mem_map.2 ⟨p, hp, he⟩
    rw [List.length_map, List.length_map] at this
    have := hL.len
    omega
theorem Rel.unit (h : Rel us os L) (id : Int) : (getI id us = none ∧ L.find? (fun u => u.id == id) = none) ∨ ∃ p ∈ L, p.id = id ∧ L.find? (fun u => u.id == id) = some p ∧ getI id us = some (.agg (rc p.x p.y p.w p.h)) := by
  cases hf : L.find? (fun u => u.id == id) with
  | none =>
    left
    refine ⟨?_, rfl⟩
    cases hq : getI id us with
    | none => rfl
    | some v =>
      obtain ⟨p, hp, he, _⟩ := (h.gu _ _).1 hq
      have := List.find?_eq_none.1 hf p hp
      simp [he] at this
  | some p =>
    right
    have h1 := List.find?_some hf
    have h2 := List.mem_of_find?_eq_some hf
    have he : p.id = id := by simpa using h1
    exact ⟨p, h2, he, rfl, (h.gu _ _).2 ⟨p, h2, he, rfl⟩⟩
theorem cl_any (h : Rel gs cc M) (x y : Int) (W k : Nat) : clAny cc x y W k = anyB (fun _ => true) cc x y W k := by
  unfold clAny anyB
  congr 1
  funext q
  unfold clB hitB
  cases hg : getC (x + ((q % W : Nat) : Int), y + ((q / W : Nat) : Int)) cc with
  | none => rfl
  | some v =>
    obtain ⟨i, rfl⟩ := h.int _ _ hg
    rfl
theorem Cr.cells (h : Cr L M gs cls cc) : ∀ i v, getI i cls = some v → ∃ x y, v = .agg (cl x y) := fun i v hv => by
  obtain ⟨u, _, _, rfl⟩ := (h.gu _ _).1 hv
  exact ⟨_, _, rfl⟩
theorem Cr.no_id (h : Cr L M gs cls cc) (id : Int) : getI id cls = none ↔ M.any (fun c => c.id == id) = false := by
  rw [Bool.eq_false_iff]
  constructor
  · intro hn hh
    obtain ⟨c, hc, he⟩ := List.any_eq_true.1 hh
    have := (h.gu id _).2 ⟨c, hc, by simpa using he, rfl⟩
    rw [hn] at this; cases this
  · intro hh
    cases hq : getI id cls with
    | none => rfl
    | some v =>
      obtain ⟨c, hc, he, _⟩ := (h.gu _ _).1 hq
      exact absurd (List.any_eq_true.2 ⟨c, hc, by simpa using he⟩) hh
theorem Cr.put (h : Cr L M gs cls cc) (hr : Rel us os L) {p : U} (hp : p ∈ L) (x y : Int) (hv : valB (mvU p x y) = true) (hn : getI p.id cls = none) (hf : L.any (othR p.id x y p.w p.h) = false) (hm : M.any (meetsR x y p.w p.h) = false) :
    Cr L (insU (mvU p x y) M) (putI p.id (.agg (rc x y p.w p.h)) gs) (putI p.id (.agg (cl x y)) cls) (fillC (.sc (.int .i64 p.id)) x y p.w.toNat cc (p.h.toNat * p.w.toNat)) := by
  have hnM : ∀ u ∈ M, u.id ≠ p.id := fun u hu he => by
    have := (h.gu p.id _).2 ⟨u, hu, he, rfl⟩
    rw [hn] at this; cases this
  have hgs : getI p.id gs = Option.none := by
    cases hq : getI p.id gs with
    | none => rfl
    | some v =>
      obtain ⟨u, hu, he, _⟩ := (h.rel.gu _ _).1 hq
      exact absurd he (hnM u hu)
  have hno : ¬ ∃ q ∈ M, ∃ a b, inU q a b ∧ inU (mvU p x y) a b := by
    rintro ⟨q, hq, hab⟩
    have := (meet_in hv (h.rel.val q hq)).2 hab
    rw [Bool.eq_false_iff] at hm
    exact hm (List.any_eq_true.2 ⟨q, hq, this⟩)
  refine ⟨h.rel.place (mvU p x y) hv hgs hno, ndI_putI _ _ h.ni, fun i v => ?_, ?_, h.srt.insU _ hnM, fun u hu => ?_, fun u hu q hq hne => ?_⟩
  · rw [getI_putI]
    by_cases hi : i = p.id
    · subst hi
      simp only [beq_self_eq_true, if_true, Option.some.injEq]
      constructor
      · rintro rfl; exact ⟨mvU p x y, (mem_insAt _ _ _ _).2 (.inl rfl), rfl, rfl⟩
      · rintro ⟨q, hq, he, rfl⟩
        rcases (mem_insAt _ _ _ _).1 hq with rfl | hq
        · rfl
        · exact absurd he (hnM q hq)
    · rw [if_neg (by simpa using hi), h.gu]
      constructor
      · rintro ⟨q, hq, h3⟩; exact ⟨q, (mem_insAt _ _ _ _).2 (.inr hq), h3⟩
      · rintro ⟨q, hq, h3, h4⟩
        rcases (mem_insAt _ _ _ _).1 hq with rfl | hq
        · exact absurd h3.symm hi
        · exact ⟨q, hq, h3, h4⟩
  · rw [putI_len, hn, insU_eq, insAt_len, h.len]; rfl
  · rcases (mem_insAt _ _ _ _).1 hu with rfl | hu
    · exact ⟨p, hp, rfl, rfl, rfl⟩
    · exact h.un u hu
  · rcases (mem_insAt _ _ _ _).1 hu with rfl | hu
    · rw [Bool.eq_false_iff] at hf ⊢
      intro hh
      refine hf (List.any_eq_true.2 ⟨q, hq, ?_⟩)
      have : (q.id != p.id) = true := by simpa [mvU] using hne
      simp only [othR, meetsR, this, Bool.true_and]
      exact hh
    · exact h.fr u hu q hq hne
end
section
variable {n m : Nat} {st s : List Ob} {K : V → List Ob → Prop} {tb ix a b u c : Nat} {us gs cls : List (Int × V)} {os cc : List ((Int × Int) × V)} {L M : List U} {x y id : Int}
theorem o_FindN (hi : Ix st ix a b us os) (hg : getI id us = none) (hK : ∀ s, Grw st s → K (.tup [.agg (rc 0 0 0 0), .sc (.bool false)]) s) : acallF Tryz.prog pl (n + 2) m 22 [.ref ix 0, .sc (.int .i64 id)] st K := by
  refine acallF_inF Tryz.func22 rfl rfl Tryz.ntmps22 (by simp) ?_
  have g1 := fun X => hi.grw (Grw.push st X)
  have i1 := fun X => (g1 X).ix
  have l1 := fun X => lk_int (e := 75) (z := .agg (rc 0 0 0 0)) Tryz.underlying110 (by kernel_rfl) (g1 X).us id
  simp only [hg, rc] at i1 l1
  simp only [rc, ↓zP,zV,Nat.reduceAdd,Nat.reduceMul,Nat.reduceLT,Nat.reduceEqDiff,Nat.reduceLeDiff,Int.reduceLE,Int.reduceLT,Int.reduceBNe,Int.reduceBEq,Int.reduceNeg,Int.reduceEq,Int.reduceAdd,Int.reduceGT,Int.reduceGE,reduceCtorEq]
  refine o_is1 (g1 _) ?_
  simp only [i1, l1, get_new, get_new0, M.set_new0, ↓zP,zV,Nat.reduceAdd,Nat.reduceMul,Nat.reduceLT,Nat.reduceEqDiff,Nat.reduceLeDiff,Int.reduceLE,Int.reduceLT,Int.reduceBNe,Int.reduceBEq,Int.reduceNeg,Int.reduceEq,Int.reduceAdd,Int.reduceGT,Int.reduceGE,reduceCtorEq]
  exact hK _ (Grw.push _ _)
theorem t_MayN (hT : Tb st tb ix u c cls cc) (hi : Ix st ix a b us os) (hg : getI id us = none) (hK : ∀ s, Grw st s → K (.sc (.int .i64 4)) s) :
    acallF Tryz.prog pl (n + 7) m 21 [.ref tb 0, .sc (.int .i64 id), .agg (cl x y)] st K := by
  refine acallF_inF Tryz.func21 rfl rfl Tryz.ntmps21 (by simp) ?_
  have gX := fun X => Grw.push st X
  have T1 := fun X => hT.grw (gX X)
  simp only [cl, get_new, get_new0, ↓zP,zV,Nat.reduceAdd,Nat.reduceMul,Nat.reduceLT,Nat.reduceEqDiff,Nat.reduceLeDiff,Int.reduceLE,Int.reduceLT,Int.reduceBNe,Int.reduceBEq,Int.reduceNeg,Int.reduceEq,Int.reduceAdd,Int.reduceGT,Int.reduceGE,reduceCtorEq]
  refine t_is (n := n + 5) (T1 _) ?_
  have a1 := fun X => (T1 X).at_
  simp only [get_new, get_new0, a1, ↓zP,zV,Nat.reduceAdd,Nat.reduceMul,Nat.reduceLT,Nat.reduceEqDiff,Nat.reduceLeDiff,Int.reduceLE,Int.reduceLT,Int.reduceBNe,Int.reduceBEq,Int.reduceNeg,Int.reduceEq,Int.reduceAdd,Int.reduceGT,Int.reduceGE,reduceCtorEq]
  refine o_FindN (n := n + 4) (hi.grw (gX _)) hg fun s1 j1 => ?_
  have k2 := j1 _ _ (get_new _ _ 2)
  have g1 := (gX _).trans j1
  have hlt : st.length + 2 < s1.length := (List.getElem?_eq_some_iff.1 k2).1
  have k2' := fun X => Grw.push s1 X _ _ k2
  have so : ∀ X o, (s1 ++ X).set (st.length + 2) o = s1.set (st.length + 2) o ++ X := fun X o => M.set_old hlt X o
  have q0 : ∀ o X, (s1.set (st.length + 2) o ++ X)[st.length + 2]? = some o := fun o X => by rw [List.getElem?_append_left (by rw [List.length_set]; exact hlt), List.getElem?_set_self hlt]
  have fin : ∀ o X, Grw st (s1.set (st.length + 2) o ++ X) := fun o X => (g1.set (by omega) o).push' X
  simp only [rc, k2, k2', so, q0, get_new, get_new0, M.set_new0, M.set_new, ↓zP,zV,Nat.reduceAdd,Nat.reduceMul,Nat.reduceLT,Nat.reduceEqDiff,Nat.reduceLeDiff,Int.reduceLE,Int.reduceLT,Int.reduceBNe,Int.reduceBEq,Int.reduceNeg,Int.reduceEq,Int.reduceAdd,Int.reduceGT,Int.reduceGE,reduceCtorEq]
  exact hK _ (fin _ _)
theorem t_ClaimN (hT : Tb st tb ix u c cls cc) (hi : Ix st ix a b us os) (hg : getI id us = none) (hK : ∀ s, Grw st s → K (.sc (.int .i64 4)) s) :
    acallF Tryz.prog pl (n + 8) m 7 [.ref tb 0, .sc (.int .i64 id), .agg (cl x y)] st K := by
  refine acallF_inF Tryz.func7 rfl rfl Tryz.ntmps7 (by simp) ?_
  have gX := fun X => Grw.push st X
  have T1 := fun X => hT.grw (gX X)
  simp only [cl, get_new, get_new0, ↓zP,zV,Nat.reduceAdd,Nat.reduceMul,Nat.reduceLT,Nat.reduceEqDiff,Nat.reduceLeDiff,Int.reduceLE,Int.reduceLT,Int.reduceBNe,Int.reduceBEq,Int.reduceNeg,Int.reduceEq,Int.reduceAdd,Int.reduceGT,Int.reduceGE,reduceCtorEq]
  refine t_MayN (n := n) (T1 _) (hi.grw (gX _)) hg fun s1 j1 => ?_
  simp only [↓zP,zV,Nat.reduceAdd,Nat.reduceMul,Nat.reduceLT,Nat.reduceEqDiff,Nat.reduceLeDiff,Int.reduceLE,Int.reduceLT,Int.reduceBNe,Int.reduceBEq,Int.reduceNeg,Int.reduceEq,Int.reduceAdd,Int.reduceGT,Int.reduceGE,reduceCtorEq]
  exact hK _ ((gX _).trans j1)
theorem do_MayC (hr : Rel us os L) (hi : Ix st ix a b us os) (hT : Tb st tb ix u c cls cc) (hC : Cr L M gs cls cc) (hm : 300 < m)
    (hK : ∀ s, Grw st s → K (.sc (.int .i64 (mayC L M id x y))) s) :
    acallF Tryz.prog pl (n + 7) m 21 [.ref tb 0, .sc (.int .i64 id), .agg (cl x y)] st K := by
  unfold mayC at hK
  rcases hr.unit id with ⟨f1, f2⟩ | ⟨p, hp, f1, f2, f3⟩
  · rw [f2] at hK
    exact t_MayN hT hi f1 hK
  rw [f2] at hK
  simp only at hK
  obtain ⟨pm, p1, p2, p3, p4⟩ := val_facts (hr.val p hp)
  obtain ⟨W, hW⟩ := Int.eq_ofNat_of_zero_le (show 0 ≤ p.w by omega)
  obtain ⟨H, hH⟩ := Int.eq_ofNat_of_zero_le (show 0 ≤ p.h by omega)
  simp only [hW, hH] at f3 hK p3 p4 p1 p2
  have hWH : W * H ≤ 64 := Nat.le_trans (Nat.mul_le_mul (show W ≤ 4 by omega) (show H ≤ 4 by omega)) (by decide)
  have key : mayB x y W H = true → anyB (fun i => i != id) os x y W (H * W) = L.any (othR id x y W H) ∧ clAny cc x y W (H * W) = M.any (meetsR x y W H) := fun e => by
    refine ⟨hr.meets (fun i => i != id) e (by omega) (by omega), ?_⟩
    rw [cl_any hC.rel, hC.rel.meets (fun _ => true) e (by omega) (by omega)]
    simp only [Bool.true_and]
  refine t_May hr.int hC.cells hT hi f3 hWH (by omega) (by omega) (fun e s g => ?_) (fun e e1 s g => ?_) (fun e e1 e2 s g => ?_) fun e e1 e2 e3 s g => ?_
  · have : ¬ (M.any (fun c => c.id == id) = false) := fun hh => e ((hC.no_id id).2 hh)
    rw [if_pos (by simpa using this)] at hK
    exact hK s g
  all_goals
    have e0 := (hC.no_id id).1 e
    rw [if_neg (by rw [e0]; decide)] at hK
  · rw [if_pos e1] at hK
    exact hK s g
  · rw [if_neg (by rw [e1]; decide)] at hK
    obtain ⟨k1, k2⟩ := key e1
    rw [k1, k2] at e2
    by_cases h1 : L.any (othR id x y W H) = true
    · rw [if_pos h1] at hK; exact hK s g
    · rw [if_neg h1] at hK
      have : M.any (meetsR x y W H) = true := by simpa [h1] using e2
      rw [if_pos this] at hK; exact hK s g
  · rw [if_neg (by rw [e1]; decide)] at hK
    obtain ⟨k1, k2⟩ := key e1
    rw [k1] at e2
    rw [k2] at e3
    rw [if_neg (by rw [e2]; decide), if_neg (by rw [e3]; decide)] at hK
    exact hK s g
theorem do_Claim (hr : Rel us os L) (hi : Ix st ix a b us os) (hT : Tb st tb ix u c cls cc) (hC : Cr L M gs cls cc) (huc : u ≠ c) (hm : 300 < m)
    (hK1 : mayC L M id x y ≠ 0 → ∀ s, Grw st s → K (.sc (.int .i64 (mayC L M id x y))) s)
    (hK0 : mayC L M id x y = 0 → ∀ p gs' cls' cc' s, p ∈ L → p.id = id → Tb s tb ix u c cls' cc' → Cr L (insU (mvU p x y) M) gs' cls' cc' → Kp u c st s → K (.sc (.int .i64 0)) s) :
    acallF Tryz.prog pl (n + 8) m 7 [.ref tb 0, .sc (.int .i64 id), .agg (cl x y)] st K := by
  unfold mayC at hK1 hK0
  rcases hr.unit id with ⟨f1, f2⟩ | ⟨p, hp, f1, f2, f3⟩
  · rw [f2] at hK1
    simp only at hK1
    exact t_ClaimN hT hi f1 (hK1 (by decide))
  rw [f2] at hK1 hK0
  simp only at hK1 hK0
  obtain ⟨pm, p1, p2, p3, p4⟩ := val_facts (hr.val p hp)
  have hput := hC.put hr hp x y
  obtain ⟨W, hW⟩ := Int.eq_ofNat_of_zero_le (show 0 ≤ p.w by omega)
  obtain ⟨H, hH⟩ := Int.eq_ofNat_of_zero_le (show 0 ≤ p.h by omega)
  have hvv : mayB x y W H = true → valB (mvU p x y) = true := fun e => by
    simp only [valB, mvU, hW, hH, e, Bool.true_and, Bool.and_eq_true, decide_eq_true_eq]; omega
  simp only [hW, hH, f1, Int.toNat_natCast] at f3 hK1 hK0 p3 p4 p1 p2 hput
  have hWH : W * H ≤ 64 := Nat.le_trans (Nat.mul_le_mul (show W ≤ 4 by omega) (show H ≤ 4 by omega)) (by decide)
  have key : mayB x y W H = true → anyB (fun i => i != id) os x y W (H * W) = L.any (othR id x y W H) ∧ clAny cc x y W (H * W) = M.any (meetsR x y W H) := fun e => by
    refine ⟨hr.meets (fun i => i != id) e (by omega) (by omega), ?_⟩
    rw [cl_any hC.rel, hC.rel.meets (fun _ => true) e (by omega) (by omega)]
    simp only [Bool.true_and]
  refine t_Claim hr.int hC.cells huc hT hi f3 hWH (by omega) (by omega) (fun e s g => ?_) (fun e e1 s g => ?_) (fun e e1 e2 s g => ?_) fun e e1 e2 e3 s hT' k => ?_
  · have : ¬ (M.any (fun c => c.id == id) = false) := fun hh => e ((hC.no_id id).2 hh)
    rw [if_pos (by simpa using this)] at hK1
    exact hK1 (by decide) s g
  all_goals
    have e0 := (hC.no_id id).1 e
    rw [if_neg (by rw [e0]; decide)] at hK1 hK0
  · rw [if_pos e1] at hK1
    exact hK1 (by decide) s g
  · rw [if_neg (by rw [e1]; decide)] at hK1
    obtain ⟨k1, k2⟩ := key e1
    rw [k1, k2] at e2
    by_cases h1 : L.any (othR id x y W H) = true
    · rw [if_pos h1] at hK1; exact hK1 (by decide) s g
    · rw [if_neg h1] at hK1
      have : M.any (meetsR x y W H) = true := by simpa [h1] using e2
      rw [if_pos this] at hK1; exact hK1 (by decide) s g
  · rw [if_neg (by rw [e1]; decide)] at hK0
    obtain ⟨k1, k2⟩ := key e1
    rw [k1] at e2
    rw [k2] at e3
    rw [if_neg (by rw [e2]; decide), if_neg (by rw [e3]; decide)] at hK0
    exact hK0 rfl p _ _ _ s hp f1 hT' (hput (hvv e1) e e2 e3) k
end
end o
namespace o
section
variable {us gs cls : List (Int × V)} {os cc : List ((Int × Int) × V)} {L M : List U}
theorem find_none {M : List U} {i : Int} (h : ∀ c ∈ M, c.id ≠ i) : M.find? (fun c => c.id == i) = none := List.find?_eq_none.2 fun c hc => by simpa using h c hc
end
section
variable {n m : Nat} {st s : List Ob} {K : V → List Ob → Prop} {tb ix a b : Nat} {us : List (Int × V)} {os : List ((Int × Int) × V)} {ids : List Int}
set_option maxHeartbeats 2000000 in
theorem t_Each {l rb : Nat} {I : Nat → Ob → Nat → List Ob → Prop} {J : List Ob → Prop} (hi : Tb st tb ix a b us os) (hb : st[rb]? = some (.cells [.ref tb 0])) (hn : ndI us) (hmem : ∀ i, (getI i us).isSome = true ↔ i ∈ ids) (hs : ids.Pairwise (· < ·)) (hrg : ∀ i ∈ ids, inR i) (hl : ids.length ≤ 256) (hm : 300 < m)
    (keep : ∀ r ro k s, I r ro k s → s[rb]? = some (.cells [.ref tb 0]) ∧ Tb s tb ix a b us os ∧ s[r]? = some ro)
    (h0 : ∀ r ro s, Grw st s → st.length ≤ r → s[r]? = some ro → I r ro 0 s)
    (step : ∀ r ro i (hi : i < ids.length) (v : V) (s : List Ob) (K' : V → List Ob → Prop), getI ids[i] us = some v → I r ro i s → (∀ s', I r ro (i + 1) s' → K' (.sc (.bool true)) s') → (∀ s', J s' → K' (.sc (.bool false)) s') → acallF Tryz.prog pl (n + 3) m Tryz.prog.funcs.size [.yl l, .sc (.int .i64 ids[i]), v] s K')
    (hend : ∀ r ro s, I r ro ids.length s → K (.tup []) s) (hstop : ∀ s, J s → K (.tup []) s) : acallF Tryz.prog pl (n + 4) m 36 [.yl l, .ref rb 0] st K := by
  refine acallF_inF Tryz.func36 rfl rfl Tryz.ntmps36 (by simp) ?_
  have w1 := hi.at_
  simp only [hb, ↓zP,zV,Nat.reduceAdd,Nat.reduceMul,Nat.reduceLT,Nat.reduceEqDiff,Nat.reduceLeDiff,Int.reduceLE,Int.reduceLT,Int.reduceBNe,Int.reduceBEq,Int.reduceNeg,Int.reduceEq,Int.reduceAdd,Int.reduceGT,Int.reduceGE,reduceCtorEq]
  refine t_is (n := n + 2) hi ?_
  simp only [hb, w1, ↓zP,zV,Nat.reduceAdd,Nat.reduceMul,Nat.reduceLT,Nat.reduceEqDiff,Nat.reduceLeDiff,Int.reduceLE,Int.reduceLT,Int.reduceBNe,Int.reduceBEq,Int.reduceNeg,Int.reduceEq,Int.reduceAdd,Int.reduceGT,Int.reduceGE,reduceCtorEq]
  refine m_KeysC ?_
  have g1 := Grw.push st [Ob.cells [.map a]]
  have c1 : (st ++ [Ob.cells [.map a]])[st.length]? = some (.cells [.map a]) := get_new0 _ _
  have hb1 := g1 _ _ hb
  have hw1 := hi.grw g1
  simp only [↓zP,zV,Nat.reduceAdd,Nat.reduceMul,Nat.reduceLT,Nat.reduceEqDiff,Nat.reduceLeDiff,Int.reduceLE,Int.reduceLT,Int.reduceBNe,Int.reduceBEq,Int.reduceNeg,Int.reduceEq,Int.reduceAdd,Int.reduceGT,Int.reduceGE,reduceCtorEq]
  generalize hs1 : st ++ [Ob.cells [.map a]] = s1 at g1 c1 hb1 hw1
  refine m_Sorted (n := n + 2) (by simp) c1 hw1.cl hn hmem hs hrg (by omega) (fun hL => ?_) fun hL => ?_
  · have h1 := h0 _ _ s1 g1 (Nat.le_refl _) c1
    simp only [↓zP,zV,Nat.reduceAdd,Nat.reduceMul,Nat.reduceLT,Nat.reduceEqDiff,Nat.reduceLeDiff,Int.reduceLE,Int.reduceLT,Int.reduceBNe,Int.reduceBEq,Int.reduceNeg,Int.reduceEq,Int.reduceAdd,Int.reduceGT,Int.reduceGE,reduceCtorEq]
    refine aloop_forF (fun k f s => s = s1 ∧ k = m ∧ f 14 = .sc (.int .i64 0) ∧ f 15 = .sc (.int .i64 0)) ⟨rfl, rfl, by simp only [zF,Nat.reduceEqDiff,Nat.reduceLT], by simp only [zF,Nat.reduceEqDiff,Nat.reduceLT]⟩ ?_
    rintro I' hI' k f s ⟨rfl, hk, f14, f15⟩
    refine ⟨k - 1, by omega, ?_⟩
    have d : decide ((0 : Int) < 0) = false := rfl
    simp only [f14, f15, d, ↓zP,zV,Nat.reduceAdd,Nat.reduceMul,Nat.reduceLT,Nat.reduceEqDiff,Nat.reduceLeDiff,Int.reduceLE,Int.reduceLT,Int.reduceBNe,Int.reduceBEq,Int.reduceNeg,Int.reduceEq,Int.reduceAdd,Int.reduceGT,Int.reduceGE,reduceCtorEq]
    rw [← show ids.length = 0 from by rw [hL]; rfl] at h1
    exact hend _ _ _ h1
  · have h1 := h0 s1.length (.row 3 (ids.map fun k => .sc (.int .i64 k)) ids.length 0 false) (s1 ++ [.row 3 (ids.map fun k => .sc (.int .i64 k)) ids.length 0 false]) (g1.trans (Grw.push s1 _)) (by have := g1.le; omega) (get_new0 _ _)
    simp only [↓zP,zV,Nat.reduceAdd,Nat.reduceMul,Nat.reduceLT,Nat.reduceEqDiff,Nat.reduceLeDiff,Int.reduceLE,Int.reduceLT,Int.reduceBNe,Int.reduceBEq,Int.reduceNeg,Int.reduceEq,Int.reduceAdd,Int.reduceGT,Int.reduceGE,reduceCtorEq]
    refine aloop_forF (fun k f s => ∃ i : Nat, k + i = m ∧ i ≤ ids.length ∧ I s1.length (.row 3 (ids.map fun k => .sc (.int .i64 k)) ids.length 0 false) i s ∧ f 0 = .yl l ∧ f 1 = .ref rb 0 ∧ f 13 = .sl s1.length 0 ids.length false ids.length ∧ f 14 = .sc (.int .i64 ids.length) ∧ f 15 = .sc (.int .i64 i)) ⟨0, by omega, by omega, h1, by simp only [zF,Nat.reduceEqDiff,Nat.reduceLT], by simp only [zF,Nat.reduceEqDiff,Nat.reduceLT], by simp only [zF,Nat.reduceEqDiff,Nat.reduceLT], by simp only [zF,Nat.reduceEqDiff,Nat.reduceLT], by simp only [zF,Nat.reduceEqDiff,Nat.reduceLT]; rfl⟩ ?_
    rintro I' hI' k f s ⟨i, hk, hi, hI, f0, f1, f13, f14, f15⟩
    refine ⟨k - 1, by omega, ?_⟩
    obtain ⟨kb, kw, kr⟩ := keep _ _ _ _ hI
    by_cases hil : i < ids.length
    · have d : decide ((i : Int) < ids.length) = true := decide_eq_true (by omega)
      have e3 : IntKind.i64.wrap ((i : Int) + 1) = ((i + 1 : Nat) : Int) := by rw [IntWalk.i64_in _ (by omega)]; rfl
      have rd : Rd Tryz.prog s 3 (.sl s1.length 0 ids.length false ids.length) (ids.map fun k => .sc (.int .i64 k)) ids.length := by
        refine ⟨?_, ⟨fun b hb => (by cases hb), fun hh => by cases hh⟩, fun s' hs' => by rw [sz3] at hs'; cases hs'; simp⟩
        simp only [elems, kr, sz3]
        rw [if_pos ⟨trivial, Nat.zero_le _, by omega⟩, Nat.zero_mul, List.drop_zero, Nat.mul_one, List.take_of_length_le (by simp)]
      have p1 := aix_rd rd Tryz.underlying104 sz3 .i64 (j := (i : Int)) (by omega) (by omega)
      have p2 := ald_ix rd sz3 sz3 (by omega) hil (o := 0) (by omega)
      have p3 : aload Tryz.prog 3 ((ids.map fun k => V.sc (.int .i64 k)).drop (i * 1 + 0)) = some (.sc (.int .i64 ids[i])) := by
        simp only [aload, ag3, Nat.mul_one, Nat.add_zero]
        rw [List.getElem?_drop, Nat.add_zero, List.getElem?_map, List.getElem?_eq_getElem hil]
        rfl
      rw [p3] at p2
      simp only [Int.toNat_natCast] at p1
      obtain ⟨vv, hvv⟩ : ∃ vv, vv = V.sl s1.length 0 ids.length false ids.length := ⟨_, rfl⟩
      rw [← hvv] at f13 p1 p2
      obtain ⟨v, hv⟩ := Option.isSome_iff_exists.1 ((hmem ids[i]).2 (List.getElem_mem hil))
      have look := lk_int1 Tryz.underlying89 kw.cl ids[i] hv
      have kw1 := kw.at_
      have st1 := fun K' => step _ _ i hil v s K' hv hI
      simp only [f0, f1, f13, f14, f15, d, p1, p2, kb, kw1, look, ↓zP,zV,Nat.reduceAdd,Nat.reduceMul,Nat.reduceLT,Nat.reduceEqDiff,Nat.reduceLeDiff,Int.reduceLE,Int.reduceLT,Int.reduceBNe,Int.reduceBEq,Int.reduceNeg,Int.reduceEq,Int.reduceAdd,Int.reduceGT,Int.reduceGE,reduceCtorEq]
      refine yl_fsz fsz (st1 _ (fun s' h' => ?_) fun s' h' => ?_)
      · simp only [f0, f1, f13, f14, f15, e3, ↓zP,zV,Nat.reduceAdd,Nat.reduceMul,Nat.reduceLT,Nat.reduceEqDiff,Nat.reduceLeDiff,Int.reduceLE,Int.reduceLT,Int.reduceBNe,Int.reduceBEq,Int.reduceNeg,Int.reduceEq,Int.reduceAdd,Int.reduceGT,Int.reduceGE,reduceCtorEq]
        exact hI' _ _ _ ⟨i + 1, by omega, hil, h', by simp only [f0, zF,Nat.reduceEqDiff,Nat.reduceLT], by simp only [f1, zF,Nat.reduceEqDiff,Nat.reduceLT], by simp only [f13, hvv, zF,Nat.reduceEqDiff,Nat.reduceLT], by simp only [f14, zF,Nat.reduceEqDiff,Nat.reduceLT], by simp only [zF,Nat.reduceEqDiff,Nat.reduceLT]⟩
      · simp only [↓zP,zV,Nat.reduceAdd,Nat.reduceMul,Nat.reduceLT,Nat.reduceEqDiff,Nat.reduceLeDiff,Int.reduceLE,Int.reduceLT,Int.reduceBNe,Int.reduceBEq,Int.reduceNeg,Int.reduceEq,Int.reduceAdd,Int.reduceGT,Int.reduceGE,reduceCtorEq]
        exact hstop _ h'
    · have d : decide ((i : Int) < ids.length) = false := decide_eq_false (by omega)
      obtain rfl : i = ids.length := by omega
      simp only [f14, f15, d, ↓zP,zV,Nat.reduceAdd,Nat.reduceMul,Nat.reduceLT,Nat.reduceEqDiff,Nat.reduceLeDiff,Int.reduceLE,Int.reduceLT,Int.reduceBNe,Int.reduceBEq,Int.reduceNeg,Int.reduceEq,Int.reduceAdd,Int.reduceGT,Int.reduceGE,reduceCtorEq]
      exact hend _ _ _ hI
end
end o
namespace o
structure K4 where
  id : Int
  x : Int
  y : Int
  ap : Bool
def K4.v (e : K4) : List V := .sc (.int .i64 e.id) :: .sc (.int .i64 e.x) :: .sc (.int .i64 e.y) :: [.sc (.bool e.ap)]
section
variable {s : List Ob} {C : List K4} {lv : V}
theorem k_id (hv : Rd Tryz.prog s 50 lv (C.flatMap K4.v) C.length) {i : Nat} (hi : i < C.length) : afa Tryz.prog s 50 0 (ixp 4 lv i 0) = some (ixp 4 lv i 0, s) ∧ ald Tryz.prog s 3 (ixp 4 lv i 0) = some (.sc (.int .i64 C[i].id), s) := by
  refine ⟨afa_ix hv (i := 0) (off := 0) (k := 1) (ft := 3) (by kernel_rfl) (by omega) i 0, ?_⟩
  rw [ald_ix hv sz50 sz3 (by omega) hi (by omega)]
  simp only [aload, ag3, Nat.add_zero]
  rw [flatMap_at (f := K4.v) (s := 4) (fun a => rfl) C i hi]
  rfl
theorem k_to (hv : Rd Tryz.prog s 50 lv (C.flatMap K4.v) C.length) {i : Nat} (hi : i < C.length) : afa Tryz.prog s 50 1 (ixp 4 lv i 0) = some (ixp 4 lv i 1, s) ∧ ald Tryz.prog s 31 (ixp 4 lv i 1) = some (.agg (cl C[i].x C[i].y), s) := by
  refine ⟨afa_ix hv (i := 1) (off := 1) (k := 2) (ft := 31) (by kernel_rfl) (by omega) i 0, ?_⟩
  rw [ald_ix hv sz50 sz31 (by omega) hi (by omega)]
  have e : (C.flatMap K4.v).drop (i * 4 + 1) = cl C[i].x C[i].y ++ .sc (.bool C[i].ap) :: (C.drop (i + 1)).flatMap K4.v := by
    rw [← List.drop_drop, flatMap_at (f := K4.v) (s := 4) (fun a => rfl) C i hi]
    rfl
  rw [e]
  simp only [aload, ag31, sz31]
  rw [if_pos (by simp [cl])]
  rfl
end
set_option maxRecDepth 100000 in
theorem tv_units {k : Nat} {ys : List V} (h : TV Tryz.prog (k + 5) 26 ys) : ∃ (lv : V) (E : List U), ys = [lv] ∧ (∀ s, Rd Tryz.prog s 77 lv (E.flatMap U.v) E.length) ∧ (∀ e ∈ E, inR e.id) ∧ E.length ≤ 3518437208883 := by
  obtain ⟨us, n, nil, full, rfl, hu, hn, hnil⟩ := tv_slice h Tryz.underlying26
  obtain ⟨E, rfl, rfl, hE⟩ := TVn.list (f := U.v) (Q := fun e => inR e.id) (fun ys hy => by
    have h := tv_struct hy Tryz.underlying77
    obtain ⟨y1, z1, rfl, h1, h⟩ := h
    obtain ⟨y2, z2, rfl, h2, h⟩ := h
    obtain rfl : z2 = [] := h
    obtain ⟨i, rfl, hi⟩ := tv_int h1 Tryz.underlying3
    obtain ⟨x, y, w, hh, rfl⟩ := tv_rect h2
    exact ⟨⟨i, x, y, w, hh⟩, by simp [U.v, rc], wf_inR hi⟩) hu
  rw [bytes_of by77] at hn
  have er : reachBytes = 140737488351232 := rfl
  rw [er] at hn
  exact ⟨.tsl (E.flatMap U.v) E.length nil full, E, rfl, fun s => tsl_rd sz77 (flatMap_len (f := U.v) (s := 5) (fun _ => rfl) _) (fun h => (hnil h).1), hE, by omega⟩
set_option maxRecDepth 100000 in
theorem tv_claims {k : Nat} {ys : List V} (h : TV Tryz.prog (k + 5) 27 ys) : ∃ (lv : V) (C : List K4), ys = [lv] ∧ (∀ s, Rd Tryz.prog s 50 lv (C.flatMap K4.v) C.length) ∧ C.length ≤ 4398046511104 := by
  obtain ⟨us, n, nil, full, rfl, hu, hn, hnil⟩ := tv_slice h Tryz.underlying27
  obtain ⟨E, rfl, rfl, _⟩ := TVn.list (f := K4.v) (Q := fun _ => True) (fun ys hy => by
    have h := tv_struct hy Tryz.underlying50
    obtain ⟨y1, z1, rfl, h1, h⟩ := h
    obtain ⟨y2, z2, rfl, h2, h⟩ := h
    obtain ⟨y3, z3, rfl, h3, h⟩ := h
    obtain rfl : z3 = [] := h
    obtain ⟨i, rfl, _⟩ := tv_int h1 Tryz.underlying3
    have h := tv_struct h2 Tryz.underlying31
    obtain ⟨a3, b3, rfl, j3, h⟩ := h
    obtain ⟨a4, b4, rfl, j4, h⟩ := h
    obtain rfl : b4 = [] := h
    obtain ⟨x, rfl, _⟩ := tv_int j3 Tryz.underlying3
    obtain ⟨y, rfl, _⟩ := tv_int j4 Tryz.underlying3
    obtain ⟨b, rfl⟩ := tv_bool h3 Tryz.underlying4
    exact ⟨⟨i, x, y, b⟩, by simp [K4.v], trivial⟩) hu
  rw [bytes_of by50] at hn
  have er : reachBytes = 140737488351232 := rfl
  rw [er] at hn
  exact ⟨.tsl (E.flatMap K4.v) E.length nil full, E, rfl, fun s => tsl_rd sz50 (flatMap_len (f := K4.v) (s := 4) (fun _ => rfl) _) (fun h => (hnil h).1), by omega⟩
end o
namespace o
structure C3 where
  id : Int
  x : Int
  y : Int
def C3.v (c : C3) : List V := .sc (.int .i64 c.id) :: cl c.x c.y
def cOf (u : U) : C3 := ⟨u.id, u.x, u.y⟩
structure Rt (s : List Ob) (z iy : Nat) (cv : V) (CL : List C3) : Prop where
  at_ : s[z]? = some (.cells [.ref iy 0, cv])
  rd : Cut Tryz.prog s 69 cv (CL.flatMap C3.v) CL.length
theorem Rt.grw {st s : List Ob} {z iy : Nat} {cv : V} {CL : List C3} (h : Rt st z iy cv CL) (k : Grw st s) : Rt s z iy cv CL := ⟨k _ _ h.at_, h.rd.grw k⟩
section
variable {s : List Ob} {CL : List C3} {lv : V}
theorem c_id (hv : Rd Tryz.prog s 69 lv (CL.flatMap C3.v) CL.length) {i : Nat} (hi : i < CL.length) : afa Tryz.prog s 69 0 (ixp 3 lv i 0) = some (ixp 3 lv i 0, s) ∧ ald Tryz.prog s 3 (ixp 3 lv i 0) = some (.sc (.int .i64 CL[i].id), s) := by
  refine ⟨afa_ix hv (i := 0) (off := 0) (k := 1) (ft := 3) (by kernel_rfl) (by omega) i 0, ?_⟩
  rw [ald_ix hv sz69 sz3 (by omega) hi (by omega)]
  simp only [aload, ag3, Nat.add_zero]
  rw [flatMap_at (f := C3.v) (s := 3) (fun a => rfl) CL i hi]
  rfl
theorem c_to (hv : Rd Tryz.prog s 69 lv (CL.flatMap C3.v) CL.length) {i : Nat} (hi : i < CL.length) : afa Tryz.prog s 69 1 (ixp 3 lv i 0) = some (ixp 3 lv i 1, s) ∧ ald Tryz.prog s 31 (ixp 3 lv i 1) = some (.agg (cl CL[i].x CL[i].y), s) := by
  refine ⟨afa_ix hv (i := 1) (off := 1) (k := 2) (ft := 31) (by kernel_rfl) (by omega) i 0, ?_⟩
  rw [ald_ix hv sz69 sz31 (by omega) hi (by omega)]
  have e : (CL.flatMap C3.v).drop (i * 3 + 1) = cl CL[i].x CL[i].y ++ (CL.drop (i + 1)).flatMap C3.v := by
    rw [← List.drop_drop, flatMap_at (f := C3.v) (s := 3) (fun a => rfl) CL i hi]
    rfl
  rw [e]
  simp only [aload, ag31, sz31]
  rw [if_pos (by simp [cl])]
  rfl
end
section
variable {n m : Nat} {st s : List Ob} {K : V → List Ob → Prop} {iy z : Nat} {us gs cls : List (Int × V)} {os cc : List ((Int × Int) × V)} {L M : List U} {x y id : Int} {sv cv : V}
theorem r_FindU (hy : Ri st iy sv L) (rel : Rel us os L) (hm : 300 < m) (hl : L.length ≤ 256)
    (h0 : L.find? (fun u => u.id == id) = none → ∀ s, Grw st s → K (.tup [.agg (rc 0 0 0 0), .sc (.bool false)]) s)
    (h1 : ∀ p, p ∈ L → p.id = id → L.find? (fun u => u.id == id) = some p → ∀ s, Grw st s → K (.tup [.agg (rc p.x p.y p.w p.h), .sc (.bool true)]) s) :
    acallF Tryz.prog pl (n + 2) m 58 [.ref iy 0, .sc (.int .i64 id)] st K := by
  refine acallF_inF Tryz.func58 rfl rfl Tryz.ntmps58 (by simp) ?_
  obtain ⟨s1, hs1⟩ : ∃ s1, s1 = st ++ [Ob.cells (rc 0 0 0 0)] := ⟨_, rfl⟩
  have g1 : Grw st s1 := by rw [hs1]; exact .push _ _
  have c1 : s1[st.length]? = some (.cells (rc 0 0 0 0)) := by rw [hs1]; exact get_new0 _ _
  have hy1 := hy.grw g1
  have y1 := hy1.at_
  have b1 : ∀ o, (s1.set st.length o)[st.length]? = some o := fun o => get_set c1 o
  simp only [rc] at hs1 c1
  simp only [↓zP,zV,Nat.reduceAdd,Nat.reduceMul,Nat.reduceLT,Nat.reduceEqDiff,Nat.reduceLeDiff,Int.reduceLE,Int.reduceLT,Int.reduceBNe,Int.reduceBEq,Int.reduceNeg,Int.reduceEq,Int.reduceAdd,Int.reduceGT,Int.reduceGE,reduceCtorEq]
  rw [← hs1]
  refine r_place (n := n) hy1 (by omega) (by omega) ?_
  rcases placeI_spec id L 0 with ⟨e1, e2⟩ | ⟨i, hil, e1, e2⟩
  · have d : decide ((-1 : Int) < 0) = true := rfl
    rw [e1]
    simp only [d, c1, b1, ↓zP,zV,Nat.reduceAdd,Nat.reduceMul,Nat.reduceLT,Nat.reduceEqDiff,Nat.reduceLeDiff,Int.reduceLE,Int.reduceLT,Int.reduceBNe,Int.reduceBEq,Int.reduceNeg,Int.reduceEq,Int.reduceAdd,Int.reduceGT,Int.reduceGE,reduceCtorEq]
    exact h0 (find_none e2) _ (g1.set (Nat.le_refl _) _)
  · have d : decide (((0 + i : Nat) : Int) < 0) = false := decide_eq_false (by omega)
    rw [e1]
    rw [Nat.zero_add] at d ⊢
    obtain ⟨p1, p2⟩ := ix_flat (f := U.v) (fun a => rfl) hy1.rd.1 Tryz.underlying82 sz134 ag134 (by omega) hil
    obtain ⟨p3, p4⟩ := u_r hy1.rd.1 hil
    simp only [rc] at p4
    simp only [d, c1, b1, y1, p1, p3, p4, ↓zP,zV,Nat.reduceAdd,Nat.reduceMul,Nat.reduceLT,Nat.reduceEqDiff,Nat.reduceLeDiff,Int.reduceLE,Int.reduceLT,Int.reduceBNe,Int.reduceBEq,Int.reduceNeg,Int.reduceEq,Int.reduceAdd,Int.reduceGT,Int.reduceGE,reduceCtorEq]
    rcases rel.unit id with ⟨_, f2⟩ | ⟨p, hp, f1, f2, _⟩
    · have := List.find?_eq_none.1 f2 _ (List.getElem_mem hil)
      simp [e2] at this
    · have : p = L[i] := nodup_in rel.ids hp (List.getElem_mem hil) (by rw [f1, e2])
      subst this
      exact h1 _ hp f1 f2 _ (g1.set (Nat.le_refl _) _)
set_option maxHeartbeats 8000000 in
theorem r_MayClaim (hy : Ri st iy sv L) (rel : Rel us os L) (hT : Rt st z iy cv (M.map cOf)) (hC : Cr L M gs cls cc) (hm : 300 < m) (hl : L.length ≤ 256) (hMl : M.length ≤ 256)
    (hK : ∀ s, Grw st s → K (.sc (.int .i64 (mayC L M id x y))) s) :
    acallF Tryz.prog pl (n + 7) m 24 [.ref z 0, .sc (.int .i64 id), .agg (cl x y)] st K := by
  refine acallF_inF Tryz.func24 rfl rfl Tryz.ntmps24 (by simp) ?_
  obtain ⟨s1, hs1⟩ : ∃ s1, s1 = st ++ [Ob.cells (cl x y)] := ⟨_, rfl⟩
  have g1 : Grw st s1 := by rw [hs1]; exact .push _ _
  have c1 : s1[st.length]? = some (.cells (cl x y)) := by rw [hs1]; exact get_new0 _ _
  have l1 : s1.length = st.length + 1 := by rw [hs1]; simp
  have hy1 := hy.grw g1
  have hT1 := hT.grw g1
  have a1 := hT1.at_
  simp only [cl] at hs1 c1
  simp only [cl, ↓zP,zV,Nat.reduceAdd,Nat.reduceMul,Nat.reduceLT,Nat.reduceEqDiff,Nat.reduceLeDiff,Int.reduceLE,Int.reduceLT,Int.reduceBNe,Int.reduceBEq,Int.reduceNeg,Int.reduceEq,Int.reduceAdd,Int.reduceGT,Int.reduceGE,reduceCtorEq]
  rw [← hs1]
  simp only [a1, ↓zP,zV,Nat.reduceAdd,Nat.reduceMul,Nat.reduceLT,Nat.reduceEqDiff,Nat.reduceLeDiff,Int.reduceLE,Int.reduceLT,Int.reduceBNe,Int.reduceBEq,Int.reduceNeg,Int.reduceEq,Int.reduceAdd,Int.reduceGT,Int.reduceGE,reduceCtorEq]
  unfold mayC at hK
  refine r_FindU (n := n + 4) hy1 rel hm hl (fun e s2 g2 => ?_) fun p hp hpe e s2 g2 => ?_
  · rw [e] at hK
    simp only [rc, ↓zP,zV,Nat.reduceAdd,Nat.reduceMul,Nat.reduceLT,Nat.reduceEqDiff,Nat.reduceLeDiff,Int.reduceLE,Int.reduceLT,Int.reduceBNe,Int.reduceBEq,Int.reduceNeg,Int.reduceEq,Int.reduceAdd,Int.reduceGT,Int.reduceGE,reduceCtorEq]
    exact hK _ ((g1.trans g2).push' _)
  rw [e] at hK
  simp only at hK
  obtain ⟨s3, hs3⟩ : ∃ s3, s3 = s2 ++ [Ob.cells (rc p.x p.y p.w p.h)] := ⟨_, rfl⟩
  have g3 : Grw s2 s3 := by rw [hs3]; exact .push _ _
  have r3 : s3[s2.length]? = some (.cells (rc p.x p.y p.w p.h)) := by rw [hs3]; exact get_new0 _ _
  have gg3 := (g1.trans g2).trans g3
  have c3 := (g2.trans g3) _ _ c1
  have hT3 := hT.grw gg3
  have a3 := hT3.at_
  have eM : (M.map cOf).length = M.length := List.length_map _
  have l2 := g2.le
  simp only [rc] at hs3 r3
  simp only [rc, ↓zP,zV,Nat.reduceAdd,Nat.reduceMul,Nat.reduceLT,Nat.reduceEqDiff,Nat.reduceLeDiff,Int.reduceLE,Int.reduceLT,Int.reduceBNe,Int.reduceBEq,Int.reduceNeg,Int.reduceEq,Int.reduceAdd,Int.reduceGT,Int.reduceGE,reduceCtorEq]
  rw [← hs3]
  have any_c : ∀ i, i ≤ M.length → True := fun _ _ => trivial
  refine aloop_forF (fun k f s => s = s3 ∧ ∃ i : Nat, k + i = m ∧ i ≤ M.length ∧ M.any (fun c => c.id == id) = (M.drop i).any (fun c => c.id == id) ∧ f 0 = .ref z 0 ∧ f 1 = .sc (.int .i64 id) ∧ f 5 = .ref st.length 0 ∧ f 7 = .ref s2.length 0 ∧ f 9 = .sc (.int .i64 i)) ⟨rfl, 0, by omega, by omega, rfl, by simp only [zF,Nat.reduceEqDiff,Nat.reduceLT], by simp only [zF,Nat.reduceEqDiff,Nat.reduceLT], by simp only [zF,Nat.reduceEqDiff,Nat.reduceLT], by simp only [zF,Nat.reduceEqDiff,Nat.reduceLT], by simp only [zF,Nat.reduceEqDiff,Nat.reduceLT]; rfl⟩ ?_
  rintro I' hI' k f s ⟨rfl, i, hk, hi, hp', f0, f1, f5, f7, f9⟩
  refine ⟨k - 1, by omega, ?_⟩
  have al := alen_rd hT3.rd.1 Tryz.underlying65
  rw [eM] at al
  have e3 : IntKind.i64.wrap ((i : Int) + 1) = ((i + 1 : Nat) : Int) := by rw [IntWalk.i64_in _ (by omega)]; rfl
  by_cases hil : i < M.length
  · have d : decide ((i : Int) < M.length) = true := decide_eq_true (by omega)
    have hil' : i < (M.map cOf).length := by rw [eM]; exact hil
    obtain ⟨p1, p2⟩ := ix_flat (f := C3.v) (fun a => rfl) hT3.rd.1 Tryz.underlying65 sz69 ag69 (by omega) hil'
    obtain ⟨p3, p4⟩ := c_id hT3.rd.1 hil'
    have ec : (M.map cOf)[i].id = M[i].id := by rw [List.getElem_map]; rfl
    rw [ec] at p4
    have hd : M.drop i = M[i] :: M.drop (i + 1) := List.drop_eq_getElem_cons hil
    rw [hd, List.any_cons] at hp'
    cases q : M[i].id == id
    · rw [q, Bool.false_or] at hp'
      simp only [f0, f1, f5, f7, f9, a3, al, d, p1, p3, p4, q, e3, ↓zP,zV,Nat.reduceAdd,Nat.reduceMul,Nat.reduceLT,Nat.reduceEqDiff,Nat.reduceLeDiff,Int.reduceLE,Int.reduceLT,Int.reduceBNe,Int.reduceBEq,Int.reduceNeg,Int.reduceEq,Int.reduceAdd,Int.reduceGT,Int.reduceGE,reduceCtorEq]
      exact hI' _ _ _ ⟨rfl, i + 1, by omega, hil, hp', by simp only [f0, zF,Nat.reduceEqDiff,Nat.reduceLT], by simp only [f1, zF,Nat.reduceEqDiff,Nat.reduceLT], by simp only [f5, zF,Nat.reduceEqDiff,Nat.reduceLT], by simp only [f7, zF,Nat.reduceEqDiff,Nat.reduceLT], by simp only [zF,Nat.reduceEqDiff,Nat.reduceLT]⟩
    · rw [q, Bool.true_or] at hp'
      rw [if_pos hp'] at hK
      simp only [f0, f1, f5, f7, f9, a3, al, d, p1, p3, p4, q, ↓zP,zV,Nat.reduceAdd,Nat.reduceMul,Nat.reduceLT,Nat.reduceEqDiff,Nat.reduceLeDiff,Int.reduceLE,Int.reduceLT,Int.reduceBNe,Int.reduceBEq,Int.reduceNeg,Int.reduceEq,Int.reduceAdd,Int.reduceGT,Int.reduceGE,reduceCtorEq]
      exact hK _ gg3
  have d : decide ((i : Int) < M.length) = false := decide_eq_false (by omega)
  obtain rfl : i = M.length := by omega
  rw [List.drop_length] at hp'
  simp only [List.any_nil] at hp'
  rw [if_neg (by rw [hp']; decide)] at hK
  have b3 : ∀ o, (s.set s2.length o)[s2.length]? = some o := fun o => get_set r3 o
  obtain ⟨s4, hs4⟩ : ∃ s4, s4 = s.set s2.length (Ob.cells (rc x y p.w p.h)) := ⟨_, rfl⟩
  have r4 : s4[s2.length]? = some (.cells (rc x y p.w p.h)) := by rw [hs4]; exact b3 _
  have g4 : Grw st s4 := by rw [hs4]; exact gg3.set (by omega) _
  simp only [rc] at hs4 r4
  simp only [f0, f1, f5, f7, f9, a3, al, d, c3, r3, b3, ↓zP,zV,Nat.reduceAdd,Nat.reduceMul,Nat.reduceLT,Nat.reduceEqDiff,Nat.reduceLeDiff,Int.reduceLE,Int.reduceLT,Int.reduceBNe,Int.reduceBEq,Int.reduceNeg,Int.reduceEq,Int.reduceAdd,Int.reduceGT,Int.reduceGE,reduceCtorEq]
  rw [← hs4]
  try simp only [r4, ↓zP,zV,Nat.reduceAdd,Nat.reduceMul,Nat.reduceLT,Nat.reduceEqDiff,Nat.reduceLeDiff,Int.reduceLE,Int.reduceLT,Int.reduceBNe,Int.reduceBEq,Int.reduceNeg,Int.reduceEq,Int.reduceAdd,Int.reduceGT,Int.reduceGE,reduceCtorEq]
  refine r_May (n := n + 3) fun s5 g5 => ?_
  have r5 := g5 _ _ r4
  have gg5 := g4.trans g5
  have hT5 := hT.grw gg5
  have a5 := hT5.at_
  cases e1 : mayB x y p.w p.h
  · rw [if_pos e1] at hK
    simp only [↓zP,zV,Nat.reduceAdd,Nat.reduceMul,Nat.reduceLT,Nat.reduceEqDiff,Nat.reduceLeDiff,Int.reduceLE,Int.reduceLT,Int.reduceBNe,Int.reduceBEq,Int.reduceNeg,Int.reduceEq,Int.reduceAdd,Int.reduceGT,Int.reduceGE,reduceCtorEq]
    exact hK _ gg5
  rw [if_neg (by rw [e1]; decide)] at hK
  simp only [f0, f1, f5, f7, f9, a5, r5, ↓zP,zV,Nat.reduceAdd,Nat.reduceMul,Nat.reduceLT,Nat.reduceEqDiff,Nat.reduceLeDiff,Int.reduceLE,Int.reduceLT,Int.reduceBNe,Int.reduceBEq,Int.reduceNeg,Int.reduceEq,Int.reduceAdd,Int.reduceGT,Int.reduceGE,reduceCtorEq]
  refine r_Free (n := n) (hy.grw gg5) (by omega) (by omega) fun s6 g6 => ?_
  have r6 := g6 _ _ r5
  have gg6 := gg5.trans g6
  have hT6 := hT.grw gg6
  have a6 := hT6.at_
  rw [e1]
  cases e2 : L.any (othR id x y p.w p.h)
  case true =>
    rw [if_pos e2] at hK
    simp only [Bool.not_true, Bool.and_false, ↓zP,zV,Nat.reduceAdd,Nat.reduceMul,Nat.reduceLT,Nat.reduceEqDiff,Nat.reduceLeDiff,Int.reduceLE,Int.reduceLT,Int.reduceBNe,Int.reduceBEq,Int.reduceNeg,Int.reduceEq,Int.reduceAdd,Int.reduceGT,Int.reduceGE,reduceCtorEq]
    exact hK _ gg6
  rw [if_neg (by rw [e2]; decide)] at hK
  simp only [Bool.not_false, Bool.and_self, f0, f1, f5, f7, f9, a5, r5, a6, r6, ↓zP,zV,Nat.reduceAdd,Nat.reduceMul,Nat.reduceLT,Nat.reduceEqDiff,Nat.reduceLeDiff,Int.reduceLE,Int.reduceLT,Int.reduceBNe,Int.reduceBEq,Int.reduceNeg,Int.reduceEq,Int.reduceAdd,Int.reduceGT,Int.reduceGE,reduceCtorEq]
  refine aloop_forF (fun k f s => ∃ i : Nat, k + i = m ∧ i ≤ M.length ∧ Grw s6 s ∧ M.any (meetsR x y p.w p.h) = (M.drop i).any (meetsR x y p.w p.h) ∧ f 0 = .ref z 0 ∧ f 7 = .ref s2.length 0 ∧ f 10 = .sc (.int .i64 i)) ⟨0, by omega, by omega, fun _ _ h => h, rfl, by simp only [f0, zF,Nat.reduceEqDiff,Nat.reduceLT], by simp only [f7, zF,Nat.reduceEqDiff,Nat.reduceLT], by simp only [zF,Nat.reduceEqDiff,Nat.reduceLT]; rfl⟩ ?_
  rintro I2 hI2 k2 f s7 ⟨j, hk2, hj, g7, hq, f0, f7, f10⟩
  refine ⟨k2 - 1, by omega, ?_⟩
  have gg7 := gg6.trans g7
  have hT7 := hT.grw gg7
  have a7 := hT7.at_
  have r7 := g7 _ _ r6
  have al7 := alen_rd hT7.rd.1 Tryz.underlying65
  rw [eM] at al7
  have e4 : IntKind.i64.wrap ((j : Int) + 1) = ((j + 1 : Nat) : Int) := by rw [IntWalk.i64_in _ (by omega)]; rfl
  by_cases hjl : j < M.length
  · have d : decide ((j : Int) < M.length) = true := decide_eq_true (by omega)
    have hjl' : j < (M.map cOf).length := by rw [eM]; exact hjl
    have gX := fun X => Grw.push s7 X
    have hTX := fun X => hT7.grw (gX X)
    have aX := fun X => (hTX X).at_
    have r7X := fun X => gX X _ _ r7
    have p1 := fun X => (ix_flat (f := C3.v) (fun a => rfl) (hTX X).rd.1 Tryz.underlying65 sz69 ag69 (by omega) hjl').1
    have p3 := fun X => (c_id (hTX X).rd.1 hjl').1
    have p4 := fun X => (c_id (hTX X).rd.1 hjl').2
    have ec : (M.map cOf)[j].id = M[j].id := by rw [List.getElem_map]; rfl
    have ex : (M.map cOf)[j].x = M[j].x ∧ (M.map cOf)[j].y = M[j].y := by rw [List.getElem_map]; exact ⟨rfl, rfl⟩
    simp only [ec] at p4
    have hd : M.drop j = M[j] :: M.drop (j + 1) := List.drop_eq_getElem_cons hjl
    rw [hd, List.any_cons] at hq
    simp only [f0, f7, f10, a7, al7, d, aX, p1, p3, p4, ↓zP,zV,Nat.reduceAdd,Nat.reduceMul,Nat.reduceLT,Nat.reduceEqDiff,Nat.reduceLeDiff,Int.reduceLE,Int.reduceLT,Int.reduceBNe,Int.reduceBEq,Int.reduceNeg,Int.reduceEq,Int.reduceAdd,Int.reduceGT,Int.reduceGE,reduceCtorEq]
    have hyX := fun X => (hy.grw gg7).grw (gX X)
    refine r_FindU (n := n + 4) (hyX _) rel hm hl (fun e => ?_) fun q hq1 hq2 e s8 g8 => ?_
    · obtain ⟨q, hq1, hq2, _⟩ := hC.un M[j] (List.getElem_mem hjl)
      have := List.find?_eq_none.1 e q hq1
      simp [hq2] at this
    obtain ⟨q', hq1', hq2', w1, w2⟩ := hC.un M[j] (List.getElem_mem hjl)
    obtain rfl : q' = q := nodup_in rel.ids hq1' hq1 (by rw [hq2', hq2])
    have w0 : s8[s7.length]? = some Ob.gone := g8 _ _ (get_new0 _ _)
    have v1 : ∀ o, (s8.set s7.length o)[s7.length]? = some o := fun o => get_set w0 o
    have v2 : ∀ o o', ((s8.set s7.length o).set s7.length o') = s8.set s7.length o' := fun o o' => List.set_set ..
    have gs : ∀ o, Grw s7 (s8.set s7.length o) := fun o j' o' ho => by
      have lj : j' < s7.length := (List.getElem?_eq_some_iff.1 ho).1
      rw [List.getElem?_set_ne (by omega)]
      exact g8 _ _ (gX _ _ _ ho)
    have hTs := fun o => hT7.grw (gs o)
    have as_ := fun o => (hTs o).at_
    have rs := fun o => gs o _ _ r7
    have t1 := fun o => (ix_flat (f := C3.v) (fun a => rfl) (hTs o).rd.1 Tryz.underlying65 sz69 ag69 (by omega) hjl').1
    have t3 := fun o => (c_to (hTs o).rd.1 hjl').1
    have t4 := fun o => (c_to (hTs o).rd.1 hjl').2
    simp only [ex.1, ex.2, cl] at t4
    simp only [rc, f0, f7, f10, w0, v1, v2, as_, rs, t1, t3, t4, ↓zP,zV,Nat.reduceAdd,Nat.reduceMul,Nat.reduceLT,Nat.reduceEqDiff,Nat.reduceLeDiff,Int.reduceLE,Int.reduceLT,Int.reduceBNe,Int.reduceBEq,Int.reduceNeg,Int.reduceEq,Int.reduceAdd,Int.reduceGT,Int.reduceGE,reduceCtorEq]
    refine r_Meet (n := n + 2) fun ra rb rc' rd s9 g9 => ?_
    rw [w1, w2]
    have gg9 : Grw s7 s9 := (gs _).trans g9
    cases hmm : meetB M[j].x M[j].y M[j].w M[j].h x y p.w p.h
    · simp only [meetsR, hmm, Bool.false_or] at hq
      simp only [rc, f0, f7, f10, e4, ↓zP,zV,Nat.reduceAdd,Nat.reduceMul,Nat.reduceLT,Nat.reduceEqDiff,Nat.reduceLeDiff,Int.reduceLE,Int.reduceLT,Int.reduceBNe,Int.reduceBEq,Int.reduceNeg,Int.reduceEq,Int.reduceAdd,Int.reduceGT,Int.reduceGE,reduceCtorEq]
      exact hI2 _ _ _ ⟨j + 1, by omega, hjl, (g7.trans gg9).push' _, hq, by simp only [f0, zF,Nat.reduceEqDiff,Nat.reduceLT], by simp only [f7, zF,Nat.reduceEqDiff,Nat.reduceLT], by simp only [zF,Nat.reduceEqDiff,Nat.reduceLT]⟩
    · simp only [meetsR, hmm, Bool.true_or] at hq
      rw [if_pos hq] at hK
      simp only [rc, f0, f7, f10, ↓zP,zV,Nat.reduceAdd,Nat.reduceMul,Nat.reduceLT,Nat.reduceEqDiff,Nat.reduceLeDiff,Int.reduceLE,Int.reduceLT,Int.reduceBNe,Int.reduceBEq,Int.reduceNeg,Int.reduceEq,Int.reduceAdd,Int.reduceGT,Int.reduceGE,reduceCtorEq]
      exact hK _ ((gg7.trans gg9).push' _)
  · have d : decide ((j : Int) < M.length) = false := decide_eq_false (by omega)
    obtain rfl : j = M.length := by omega
    rw [List.drop_length] at hq
    simp only [List.any_nil] at hq
    rw [if_neg (by rw [hq]; decide)] at hK
    simp only [f0, f7, f10, a7, al7, d, ↓zP,zV,Nat.reduceAdd,Nat.reduceMul,Nat.reduceLT,Nat.reduceEqDiff,Nat.reduceLeDiff,Int.reduceLE,Int.reduceLT,Int.reduceBNe,Int.reduceBEq,Int.reduceNeg,Int.reduceEq,Int.reduceAdd,Int.reduceGT,Int.reduceGE,reduceCtorEq]
    exact hK _ gg7
end
end o
namespace o
theorem flat_takeC (L : List C3) (k : Nat) : (L.flatMap C3.v).take (k * 3) = (L.take k).flatMap C3.v := by
  induction L generalizing k with
  | nil => simp
  | cons u L ih =>
    cases k with
    | zero => simp
    | succ k =>
      have := ih k
      simp only [List.flatMap_cons, List.take_succ_cons, C3.v, cl, List.cons_append, List.nil_append, Nat.succ_mul, this]
theorem closed_cs : ∀ L : List C3, closedL (L.flatMap C3.v) = true
  | [] => rfl
  | u :: L => by
    have := closed_cs L
    simp only [List.flatMap_cons, C3.v, cl, List.cons_append, List.nil_append, closedL, closed, Bool.true_and]
    exact this
section
variable {n m : Nat} {st s : List Ob} {K : V → List Ob → Prop} {iy z : Nat} {us gs cls : List (Int × V)} {os cc : List ((Int × Int) × V)} {L M : List U} {x y id : Int} {sv cv : V}
set_option maxHeartbeats 4000000 in
theorem r_DoClaim (hy : Ri st iy sv L) (rel : Rel us os L) (hT : Rt st z iy cv (M.map cOf)) (hC : Cr L M gs cls cc) (hm : 300 < m) (hl : L.length ≤ 256) (hMl : M.length ≤ 256)
    (hK1 : mayC L M id x y ≠ 0 → ∀ s, Grw st s → K (.sc (.int .i64 (mayC L M id x y))) s)
    (hK0 : mayC L M id x y = 0 → ∀ cv' s, (∀ u : U, u.id = id → u.x = x → u.y = y → Rt s z iy cv' ((insU u M).map cOf)) → (∀ j o, j ≠ z → st[j]? = some o → s[j]? = some o) → K (.sc (.int .i64 0)) s) :
    acallF Tryz.prog pl (n + 8) m 8 [.ref z 0, .sc (.int .i64 id), .agg (cl x y)] st K := by
  refine acallF_inF Tryz.func8 rfl rfl Tryz.ntmps8 (by simp) ?_
  have g0 := Grw.push st [.cells (cl x y)]
  have c0 : (st ++ [Ob.cells (cl x y)])[st.length]? = some (.cells (cl x y)) := get_new _ _ 0
  simp only [cl] at g0 c0
  simp only [cl, c0, ↓zP,zV,Nat.reduceAdd,Nat.reduceMul,Nat.reduceLT,Nat.reduceEqDiff,Nat.reduceLeDiff,Int.reduceLE,Int.reduceLT,Int.reduceBNe,Int.reduceBEq,Int.reduceNeg,Int.reduceEq,Int.reduceAdd,Int.reduceGT,Int.reduceGE,reduceCtorEq]
  refine r_MayClaim (n := n) (hy.grw g0) rel (hT.grw g0) hC hm hl hMl fun s1 j1 => ?_
  have c1 := j1 _ _ c0
  have g1 := g0.trans j1
  cases e1 : mayC L M id x y != 0
  case true =>
    have e1' : mayC L M id x y ≠ 0 := by simpa using e1
    simp only [e1, ↓zP,zV,Nat.reduceAdd,Nat.reduceMul,Nat.reduceLT,Nat.reduceEqDiff,Nat.reduceLeDiff,Int.reduceLE,Int.reduceLT,Int.reduceBNe,Int.reduceBEq,Int.reduceNeg,Int.reduceEq,Int.reduceAdd,Int.reduceGT,Int.reduceGE,reduceCtorEq]
    exact hK1 e1' _ g1
  have e1' : mayC L M id x y = 0 := by simpa using e1
  have hK0 := hK0 e1'
  simp only [c1, e1, ↓zP,zV,Nat.reduceAdd,Nat.reduceMul,Nat.reduceLT,Nat.reduceEqDiff,Nat.reduceLeDiff,Int.reduceLE,Int.reduceLT,Int.reduceBNe,Int.reduceBEq,Int.reduceNeg,Int.reduceEq,Int.reduceAdd,Int.reduceGT,Int.reduceGE,reduceCtorEq]
  have eM : (M.map cOf).length = M.length := List.length_map _
  refine aloop_forF (fun k f s => s = s1 ∧ ∃ i : Nat, k + i = m ∧ i ≤ atI' id M ∧ (∀ j (h : j < M.length), j < i → M[j].id < id) ∧ f 0 = .ref z 0 ∧ f 1 = .sc (.int .i64 id) ∧ f 5 = .ref st.length 0 ∧ f 8 = .sc (.int .i64 i)) ⟨rfl, 0, by omega, by omega, fun j _ h => by omega, by simp only [zF,Nat.reduceEqDiff,Nat.reduceLT], by simp only [zF,Nat.reduceEqDiff,Nat.reduceLT], by simp only [zF,Nat.reduceEqDiff,Nat.reduceLT], by simp only [zF,Nat.reduceEqDiff,Nat.reduceLT]; rfl⟩ ?_
  rintro I' hI' k f s ⟨rfl, i, hk, hi, hp, f0, f1, f5, f7⟩
  have hle := atI'_le id M
  refine ⟨k - 1, by omega, ?_⟩
  have hT2 := hT.grw g1
  have y2 := hT2.at_
  have hv := hT2.rd.1
  have hal2 := alen_rd hv Tryz.underlying65
  rw [eM] at hal2
  have e9 : IntKind.i64.wrap ((i : Int) + 1) = ((i + 1 : Nat) : Int) := by rw [IntWalk.i64_in _ (by omega)]; rfl
  have next : ∀ hil : i < M.length, M[i].id < id → i < atI' id M := fun hil h => (atI'_lt id M i hil fun j hj => hp j (by omega) hj).1 h
  have stop : (i = M.length ∨ ∃ hil : i < M.length, ¬ M[i].id < id) → i = atI' id M := by
    rintro (h | ⟨hil, h⟩)
    · omega
    · have := (atI'_lt id M i hil fun j hj => hp j (by omega) hj)
      omega
  have y3 : ∀ X, (s ++ X)[z]? = some (.cells [.ref iy 0, cv]) := fun X => Grw.push s X _ _ y2
  have c3 := fun X => Grw.push s X _ _ c1
  have hle' : atI' id M ≤ (M.map cOf).length := by rw [eM]; exact hle
  obtain ⟨va, ka, na⟩ := slice_start hT2.rd Tryz.underlying65 sz69 hle'
  obtain ⟨vb, kb, nb⟩ := slice_end hT2.rd Tryz.underlying65 sz69 hle'
  have ka' := fun X => aslice_grw (Grw.push s X) ka
  have kb' := fun X => aslice_grw (Grw.push s X) kb
  have a1 := own_app (A := []) (a := 0) (o := Ob.gone) Tryz.underlying65 sz69 by69 ze69 (by omega) rfl (na.1.grw (.push s _)).1 (by rw [flat_takeC]; exact closed_cs _) (na.1.2.2 _ sz69) (by omega) (by omega)
  have a2 := own_app (s := s) (P := Tryz.prog) (A := [] ++ ((M.map cOf).flatMap C3.v).take (atI' id M * 3)) (a := 0 + atI' id M) (o := Ob.row 69 (C3.v ⟨id, x, y⟩) 1 0 false) (zs := C3.v ⟨id, x, y⟩) (k := 1) (x := .sl (s.length + 1) 0 1 false 1) Tryz.underlying65 sz69 by69 ze69 (by omega) rfl (by simp only [elems, get_new, sz69]; rfl) rfl rfl (by omega) (by omega)
  have a3 := own_app (s := s) (P := Tryz.prog) (A := ((M.map cOf).flatMap C3.v).take (atI' id M * 3) ++ C3.v ⟨id, x, y⟩) (a := atI' id M + 1) (o := Ob.row 69 (C3.v ⟨id, x, y⟩) 1 0 false) Tryz.underlying65 sz69 by69 ze69 (by omega) rfl (nb.1.grw (.push s _)).1 (by rw [flatMap_drop (f := C3.v) (s := 3) fun _ => rfl]; exact closed_cs _) (nb.1.2.2 _ sz69) (by omega) (by omega)
  rw [eM] at a3
  simp only [Nat.zero_add, List.nil_append, C3.v, cl] at a1 a2 a3
  have hiy : z < s.length := (List.getElem?_eq_some_iff.1 y2).1
  have so : ∀ X o, (s ++ X).set z o = s.set z o ++ X := fun X o => Go.M.set_old hiy X o
  have q1 : ∀ o X, (s.set z o ++ X)[s.length]? = X[0]? := fun o X => by have := get_new0 (s.set z o) X; rwa [List.length_set] at this
  have q2 : ∀ o X, (s.set z o ++ X)[s.length + 1]? = X[1]? := fun o X => by have := get_new (s.set z o) X 1; rwa [List.length_set] at this
  have last : i = atI' id M → ∀ S, S = s.set z (Ob.cells [.ref iy 0, V.sl s.length 0 (atI' id M + 1 + (M.length - atI' id M)) false (atI' id M + 1 + (M.length - atI' id M))]) ++ [Ob.row 69 (((M.map cOf).flatMap C3.v).take (atI' id M * 3) ++ V.sc (.int .i64 id) :: V.sc (.int .i64 x) :: V.sc (.int .i64 y) :: ((M.map cOf).flatMap C3.v).drop (atI' id M * 3)) (atI' id M + 1 + (M.length - atI' id M)) 0 false, Ob.row 69 [V.sc (.int .i64 id), V.sc (.int .i64 x), V.sc (.int .i64 y)] 1 0 false] → K (.sc (.int .i64 0)) S := by
    rintro rfl S rfl
    refine hK0 (.sl s.length 0 (atI' id M + 1 + (M.length - atI' id M)) false (atI' id M + 1 + (M.length - atI' id M))) _ (fun u hu1 hu2 hu3 => ?_) ?_
    · have hlen : ((insU u M).map cOf).length = atI' id M + 1 + (M.length - atI' id M) := by rw [List.length_map, insU_eq, insAt_len]; omega
      have hfl : ((insU u M).map cOf).flatMap C3.v = ((M.map cOf).flatMap C3.v).take (atI' id M * 3) ++ V.sc (.int .i64 id) :: V.sc (.int .i64 x) :: V.sc (.int .i64 y) :: ((M.map cOf).flatMap C3.v).drop (atI' id M * 3) := by
        rw [show ((M.map cOf).flatMap C3.v).drop (atI' id M * 3) = ((M.map cOf).drop (atI' id M)).flatMap C3.v from flatMap_drop (f := C3.v) (s := 3) (fun _ => rfl) _ _, flat_takeC, insU_eq]
        simp only [insAt, List.map_append, List.map_cons, List.map_take, List.map_drop, List.flatMap_append, List.flatMap_cons, cOf, C3.v, cl, hu1, hu2, hu3, List.cons_append, List.nil_append]
      refine ⟨?_, ?_⟩
      · rw [List.getElem?_append_left (by rw [List.length_set]; exact hiy), List.getElem?_set_self hiy]
      · rw [hlen, hfl]
        refine ⟨⟨?_, ⟨fun b hb => (by cases hb), fun hh => by cases hh⟩, fun s' hs' => ?_⟩, .inr ⟨_, _, _, _, rfl⟩, fun hh => by cases hh⟩
        · simp only [elems, q1, sz69, List.getElem?_cons_zero]
          rw [if_pos ⟨trivial, Nat.zero_le _, by omega⟩, Nat.zero_mul, List.drop_zero, ← hfl, ← hlen, ← flatMap_len (f := C3.v) (s := 3) (fun _ => rfl), List.take_length]
        · rw [sz69] at hs'
          cases hs'
          rw [← hfl, ← hlen, flatMap_len (f := C3.v) (s := 3) (fun _ => rfl)]
    · intro j o hj ho
      have := (g1 _ _ ho)
      have lj : j < s.length := (List.getElem?_eq_some_iff.1 this).1
      rw [List.getElem?_append_left (by rw [List.length_set]; exact lj), List.getElem?_set_ne (Ne.symm hj)]
      exact this
  by_cases hil : i < M.length
  · have d : decide ((i : Int) < M.length) = true := decide_eq_true (by omega)
    have hil' : i < (M.map cOf).length := by rw [eM]; exact hil
    obtain ⟨p1, p2⟩ := ix_flat (f := C3.v) (fun a => rfl) hv Tryz.underlying65 sz69 ag69 (by omega) hil'
    obtain ⟨p3, p4⟩ := c_id hv hil'
    have ec : (M.map cOf)[i].id = M[i].id := by rw [List.getElem_map]; rfl
    rw [ec] at p4
    cases q : decide (M[i].id < id)
    · obtain rfl := stop (.inr ⟨hil, of_decide_eq_false q⟩)
      simp only [f0, f1, f5, f7, y2, hal2, d, p1, p3, p4, q, y3, c3, ka', kb', a1, a2, a3, so, q1, q2, ↓zP,zV,Nat.reduceAdd,Nat.reduceMul,Nat.reduceLT,Nat.reduceEqDiff,Nat.reduceLeDiff,Int.reduceLE,Int.reduceLT,Int.reduceBNe,Int.reduceBEq,Int.reduceNeg,Int.reduceEq,Int.reduceAdd,Int.reduceGT,Int.reduceGE,reduceCtorEq]
      exact last rfl _ rfl
    · simp only [f0, f1, f5, f7, y2, hal2, d, p1, p3, p4, q, e9, ↓zP,zV,Nat.reduceAdd,Nat.reduceMul,Nat.reduceLT,Nat.reduceEqDiff,Nat.reduceLeDiff,Int.reduceLE,Int.reduceLT,Int.reduceBNe,Int.reduceBEq,Int.reduceNeg,Int.reduceEq,Int.reduceAdd,Int.reduceGT,Int.reduceGE,reduceCtorEq]
      have hn := next hil (of_decide_eq_true q)
      refine hI' _ _ _ ⟨rfl, i + 1, by omega, by omega, fun j h hj => ?_, by simp only [f0, zF,Nat.reduceEqDiff,Nat.reduceLT], by simp only [f1, zF,Nat.reduceEqDiff,Nat.reduceLT], by simp only [f5, zF,Nat.reduceEqDiff,Nat.reduceLT], by simp only [zF,Nat.reduceEqDiff,Nat.reduceLT]⟩
      by_cases hji : j = i
      · subst hji; exact of_decide_eq_true q
      · exact hp j h (by omega)
  · have d : decide ((i : Int) < M.length) = false := decide_eq_false (by omega)
    obtain rfl := stop (.inl (by omega))
    simp only [f0, f1, f5, f7, y2, hal2, d, y3, c3, ka', kb', a1, a2, a3, so, q1, q2, ↓zP,zV,Nat.reduceAdd,Nat.reduceMul,Nat.reduceLT,Nat.reduceEqDiff,Nat.reduceLeDiff,Int.reduceLE,Int.reduceLT,Int.reduceBNe,Int.reduceBEq,Int.reduceNeg,Int.reduceEq,Int.reduceAdd,Int.reduceGT,Int.reduceGE,reduceCtorEq]
    exact last rfl _ rfl
end
end o
namespace o
theorem cmp_claimN (p q : Operand) (i x y i' x' y' : Int) : pureRun Tryz.prog (do eqGuard .neq 69 p q (.agg #[.int .i64 i, .int .i64 x, .int .i64 y]) (.agg #[.int .i64 i', .int .i64 x', .int .i64 y']); binOp .neq 69 (.agg #[.int .i64 i, .int .i64 x, .int .i64 y]) (.agg #[.int .i64 i', .int .i64 x', .int .i64 y'])) = some (.bool (!(i == i' && (x == x' && y == y')))) := by
  refine pr_neqStruct p q (by kernel_rfl) ?_
  rw [pr_eqStruct _ _ Tryz.underlying69 (by kernel_rfl)]
  rw [pr_eqCons (d := 9998) (a := i) (b := i') (k := .i64) (by decide) Tryz.underlying3 (by rfl) (by rfl), pr_eqConsS (d := 9999) (r := (x == x' && y == y')) (by decide) Tryz.underlying31 sz31 (eq_cell 9997 x y x' y')]
  cases (x == x' && y == y') <;> cases (i == i') <;> simp [Op.eqFields, pureRun_pure]

end o
end Go.Proofs.YtpdhoicpaonggaaGreat
