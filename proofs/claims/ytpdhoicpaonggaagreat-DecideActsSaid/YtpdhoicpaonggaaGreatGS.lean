/- What the functions told in one step owe: slices.Sorted of a map's keys, by the kit's contracts laid at this program. -/
import Derived.Shelf.SlIterI.Nil
import Derived.Shelf.SortM.Plain
import Derived.Shelf.SortM.SortNone
import Derived.Test.YtpdhoicpaonggaaGreatM13
import Derived.Test.YtpdhoicpaonggaaGreatPlans
import Derived.Test.YtpdhoicpaonggaaGreatFacts
set_option linter.unusedVariables false
set_option maxRecDepth 10000
namespace Go.Proofs.YtpdhoicpaonggaaGreat
open Go Go.M Go.Proofs Go.RowKit Go.Maps Go.Sort Go.Shelf
def primK78_ren : Go.Shelf.Ren := ⟨fun | 10 => 78 | n => n, fun | 33 => 130 | 23 => 89 | 0 => 0 | 4 => 4 | 26 => 3 | 3 => 31 | n => n, fun n => n⟩
theorem primK78 : SlLaysZI.n10 Tryz.prog primK78_ren where
  mixed := by kernel_rfl
  f10 := ⟨ "maps.Keys[map[int]phalanx/api.Cell,int,phalanx/api.Cell]$1", by decide, Tryz.func78.trans (congrArg some (by kernel_rfl))⟩
  t0 := Tryz.underlying0
  a0 := Tryz.isAgg0
  z0 := Tryz.sizeOf0
  v0 := Tryz.zeroValue0
  t4 := Tryz.underlying4
  a4 := Tryz.isAgg4
  z4 := Tryz.sizeOf4
  v4 := Tryz.zeroValue4
  t23 := Tryz.underlying89
  a23 := Tryz.isAgg89
  z23 := Tryz.sizeOf89
  v23 := Tryz.zeroValue89
  t26 := Tryz.underlying3
  a26 := Tryz.isAgg3
  z26 := Tryz.sizeOf3
  v26 := Tryz.zeroValue3
  t33 := Tryz.underlying130
  a33 := Tryz.isAgg130
  z33 := Tryz.sizeOf130
  v33 := Tryz.zeroValue130
def primSd_ren : Go.Shelf.Ren := ⟨fun | 6 => 38 | 8 => 76 | 9 => 77 | 11 => 107 | 13 => 109 | 12 => 108 | 23 => 134 | 24 => 135 | 14 => 125 | 15 => 126 | 16 => 127 | 17 => 128 | 18 => 129 | 19 => 130 | 20 => 131 | 21 => 132 | 22 => 133 | 25 => 136 | 26 => 137 | 27 => 138 | 28 => 139 | 29 => 140 | 30 => 141 | 31 => 142 | n => n, fun | 26 => 3 | 28 => 107 | 24 => 104 | 0 => 0 | 3 => 3 | 37 => 166 | 48 => 181 | 50 => 183 | 4 => 4 | 40 => 175 | 39 => 174 | 45 => 136 | 5 => 5 | 9 => 9 | 51 => 185 | 55 => 189 | 57 => 191 | 58 => 192 | 33 => 130 | n => n, fun n => n⟩
theorem primSd : SlLaysZI.n6 Tryz.prog primSd_ren where
  mixed := by kernel_rfl
  f6 := ⟨ "slices.Sorted[int]", by decide, Tryz.func38.trans (congrArg some (by kernel_rfl))⟩
  f8 := ⟨ "slices.Collect[int]", by decide, Tryz.func76.trans (congrArg some (by kernel_rfl))⟩
  f11 := ⟨ "slices.AppendSeq[[]int,int]", by decide, Tryz.func107.trans (congrArg some (by kernel_rfl))⟩
  t0 := Tryz.underlying0
  a0 := Tryz.isAgg0
  z0 := Tryz.sizeOf0
  v0 := Tryz.zeroValue0
  t24 := Tryz.underlying104
  a24 := Tryz.isAgg104
  z24 := Tryz.sizeOf104
  v24 := Tryz.zeroValue104
  t26 := Tryz.underlying3
  a26 := Tryz.isAgg3
  z26 := Tryz.sizeOf3
  v26 := Tryz.zeroValue3
  t28 := Tryz.underlying107
  a28 := Tryz.isAgg107
  z28 := Tryz.sizeOf107
  v28 := Tryz.zeroValue107
  i26 := by kernel_rfl
def primSt_ren : Go.Shelf.Ren := ⟨fun | 5 => 77 | 8 => 109 | 7 => 108 | 19 => 134 | 20 => 135 | 10 => 125 | 11 => 126 | 12 => 127 | 13 => 128 | 14 => 129 | 15 => 130 | 16 => 131 | 17 => 132 | 18 => 133 | 30 => 136 | 31 => 137 | 32 => 138 | 33 => 139 | 34 => 140 | 35 => 141 | 40 => 142 | n => n, fun | 23 => 104 | 25 => 3 | 3 => 3 | 32 => 166 | 22 => 104 | 0 => 0 | 44 => 181 | 46 => 183 | 4 => 4 | 36 => 175 | 35 => 174 | 41 => 136 | 5 => 5 | 9 => 9 | 53 => 185 | 57 => 189 | 63 => 191 | 64 => 192 | n => n, fun n => n⟩
theorem primSt : SlLaysM.n5 Tryz.prog primSt_ren where
  mixed := by kernel_rfl
  f5 := ⟨ "slices.Sort[[]int,int]", by decide, Tryz.func77.trans (congrArg some (by kernel_rfl))⟩
  f7 := ⟨ "slices.pdqsortOrdered[int]", by decide, Tryz.func108.trans (congrArg some (by kernel_rfl))⟩
  f8 := Tryz.func109.trans (congrArg some (by kernel_rfl))
  f10 := ⟨ "slices.insertionSortOrdered[int]", by decide, Tryz.func125.trans (congrArg some (by kernel_rfl))⟩
  f11 := ⟨ "slices.heapSortOrdered[int]", by decide, Tryz.func126.trans (congrArg some (by kernel_rfl))⟩
  f12 := ⟨ "slices.breakPatternsOrdered[int]", by decide, Tryz.func127.trans (congrArg some (by kernel_rfl))⟩
  f13 := ⟨ "slices.choosePivotOrdered[int]", by decide, Tryz.func128.trans (congrArg some (by kernel_rfl))⟩
  f14 := ⟨ "slices.reverseRangeOrdered[int]", by decide, Tryz.func129.trans (congrArg some (by kernel_rfl))⟩
  f15 := ⟨ "slices.partialInsertionSortOrdered[int]", by decide, Tryz.func130.trans (congrArg some (by kernel_rfl))⟩
  f16 := ⟨ "cmp.Less[int]", by decide, Tryz.func131.trans (congrArg some (by kernel_rfl))⟩
  f17 := ⟨ "slices.partitionEqualOrdered[int]", by decide, Tryz.func132.trans (congrArg some (by kernel_rfl))⟩
  f18 := ⟨ "slices.partitionOrdered[int]", by decide, Tryz.func133.trans (congrArg some (by kernel_rfl))⟩
  f19 := Tryz.func134.trans (congrArg some (by kernel_rfl))
  f20 := Tryz.func135.trans (congrArg some (by kernel_rfl))
  f30 := ⟨ "slices.siftDownOrdered[int]", by decide, Tryz.func136.trans (congrArg some (by kernel_rfl))⟩
  f31 := Tryz.func137.trans (congrArg some (by kernel_rfl))
  f32 := Tryz.func138.trans (congrArg some (by kernel_rfl))
  f33 := ⟨ "slices.medianAdjacentOrdered[int]", by decide, Tryz.func139.trans (congrArg some (by kernel_rfl))⟩
  f34 := ⟨ "slices.medianOrdered[int]", by decide, Tryz.func140.trans (congrArg some (by kernel_rfl))⟩
  f35 := ⟨ "cmp.isNaN[int]", by decide, Tryz.func141.trans (congrArg some (by kernel_rfl))⟩
  f40 := ⟨ "slices.order2Ordered[int]", by decide, Tryz.func142.trans (congrArg some (by kernel_rfl))⟩
  t0 := Tryz.underlying0
  a0 := Tryz.isAgg0
  z0 := Tryz.sizeOf0
  v0 := Tryz.zeroValue0
  t3 := Tryz.underlying3
  a3 := Tryz.isAgg3
  z3 := Tryz.sizeOf3
  v3 := Tryz.zeroValue3
  t4 := Tryz.underlying4
  a4 := Tryz.isAgg4
  z4 := Tryz.sizeOf4
  v4 := Tryz.zeroValue4
  t5 := Tryz.underlying5
  a5 := Tryz.isAgg5
  z5 := Tryz.sizeOf5
  v5 := Tryz.zeroValue5
  t9 := Tryz.underlying9
  a9 := Tryz.isAgg9
  z9 := Tryz.sizeOf9
  v9 := Tryz.zeroValue9
  t22 := Tryz.underlying104
  a22 := Tryz.isAgg104
  z22 := Tryz.sizeOf104
  v22 := Tryz.zeroValue104
  t23 := Tryz.underlying104
  a23 := Tryz.isAgg104
  z23 := Tryz.sizeOf104
  v23 := Tryz.zeroValue104
  t25 := Tryz.underlying3
  a25 := Tryz.isAgg3
  z25 := Tryz.sizeOf3
  v25 := Tryz.zeroValue3
  t32 := Tryz.underlying166
  a32 := Tryz.isAgg166
  z32 := Tryz.sizeOf166
  v32 := Tryz.zeroValue166
  t35 := Tryz.underlying174
  a35 := Tryz.isAgg174
  z35 := Tryz.sizeOf174
  v35 := Tryz.zeroValue174
  t36 := Tryz.underlying175
  a36 := Tryz.isAgg175
  z36 := Tryz.sizeOf175
  v36 := Tryz.zeroValue175
  t41 := Tryz.underlying136
  a41 := Tryz.isAgg136
  z41 := Tryz.sizeOf136
  v41 := Tryz.zeroValue136
  t44 := Tryz.underlying181
  a44 := Tryz.isAgg181
  z44 := Tryz.sizeOf181
  v44 := Tryz.zeroValue181
  t46 := Tryz.underlying183
  a46 := Tryz.isAgg183
  z46 := Tryz.sizeOf183
  v46 := Tryz.zeroValue183
  t53 := Tryz.underlying185
  a53 := Tryz.isAgg185
  z53 := Tryz.sizeOf185
  v53 := Tryz.zeroValue185
  t57 := Tryz.underlying189
  a57 := Tryz.isAgg189
  z57 := Tryz.sizeOf189
  v57 := Tryz.zeroValue189
  t63 := Tryz.underlying191
  a63 := Tryz.isAgg191
  z63 := Tryz.sizeOf191
  v63 := Tryz.zeroValue191
  t64 := Tryz.underlying192
  a64 := Tryz.isAgg192
  z64 := Tryz.sizeOf192
  v64 := Tryz.zeroValue192
theorem primSorts (m : Nat) : AnyZI.SortsIn Tryz.prog primSd_ren Fence.wide m :=
  ⟨fun blk off cap ss W hH hblk hsz => callsIn_wide.2 (AnyM.slices_Sort_int primSt blk off cap ss W hH hblk hsz),
   fun p cap W => callsIn_wide.2 (AnyM.slices_Sort_int_none primSt p cap W)⟩
abbrev primR : Value → Option (DataW Unit × List MemPlace) := fun _ => some (.nil, [])
theorem primRead {x : MapEntry} {k : Int} (hx : x.key = .int .i64 k) (hk : -9223372036854775808 ≤ k ∧ k < 9223372036854775808) : WideElems.rd Tryz.prog 3 primR x = some (.int .i64 k, .nil) := by
  unfold WideElems.rd
  rw [hx]
  have : keyOf Tryz.prog 3 (.int .i64 k) = some (.int .i64 k) := keyOf_int_mk Tryz.underlying3 (by
    simp [Lit.wf, IntKind.max, IntKind.min, IntKind.signed, IntKind.bits]; omega)
  rw [this]
  rfl
theorem keys_of {ens : List MapEntry} : ∀ {ks : List Int}, ens.map (·.key) = ks.map (Value.int .i64) → (∀ k ∈ ks, -9223372036854775808 ≤ k ∧ k < 9223372036854775808) → (ens.map (WideElems.rg Tryz.prog 3 primR)).map (fun p => _root_.Go.intOf p.1) = ks ∧ ∀ x ∈ ens, ∃ y, WideElems.rd Tryz.prog 3 primR x = some y := by
  induction ens with
  | nil => intro ks h _; cases ks with
    | nil => simp
    | cons k ks => simp at h
  | cons e ens ih =>
    intro ks h hr
    cases ks with
    | nil => simp at h
    | cons k ks =>
      simp only [List.map_cons, List.cons.injEq] at h
      obtain ⟨h1, h2⟩ := ih h.2 fun k' hk' => hr k' (List.mem_cons_of_mem _ hk')
      have hrd := primRead h.1 (hr k (by simp))
      refine ⟨?_, fun x hx => ?_⟩
      · rw [List.map_cons, List.map_cons, h1]
        simp only [WideElems.rg, hrd, Option.getD_some, _root_.Go.intOf]
      · rcases List.mem_cons.1 hx with rfl | hx
        · exact ⟨_, hrd⟩
        · exact h2 x hx
theorem primSorted (f : Nat) (gs : List Nat) (hf : f = 38) (hgs : gs = [78]) : ∀ g ∈ gs, ∀ (w : World) (Bm b : Nat) (ens : Array MapEntry) (clock : Nat) (ks : List Int), Bm < w.heap.size → w.cell? ⟨Bm, 0, none⟩ = some (.map (some b)) → w.heap[b]? = some (.map ens clock) → ens.toList.map (·.key) = ks.map (Value.int .i64) → ks.Nodup → ks.length ≤ 1000000 → (∀ k ∈ ks, -9223372036854775808 ≤ k ∧ k < 9223372036854775808) → StB ens.toList clock →
    Calls Tryz.prog f #[.func (.func g) #[] #[.pointer (some ⟨Bm, 0, none⟩)]] w fun r w' => ∃ v, r = .returned v ∧ Below w.heap.size w w' ∧ w'.ownsRow w.heap.size 3 1 v ks.length ((ks.mergeSort fun x y => decide (x ≤ y)).map (Value.int .i64)) ∧ (v = .slice none 0 0 ↔ ks = []) := by
  subst hf; subst hgs
  intro g hg w Bm b ens clock ks hBm hcell hmap hkeys hnd hlen hrange hsb
  obtain ⟨k1, k2⟩ := keys_of hkeys hrange
  have hsz : ens.size = ks.length := by
    have := congrArg List.length hkeys
    simpa using this
  have hst : MapKept.Stamped ens clock := by
    refine ⟨hsb.1, hsb.2, ?_⟩
    rw [hkeys]
    exact List.pairwise_map.2 (hnd.imp fun {a b} hne he => hne (by simpa using he))
  have hown : w.ownsMap Tryz.prog 3 primR b ens.size (.map ((ens.toList.map (WideElems.rg Tryz.prog 3 primR)).foldr DataW.insert [])) := ⟨ens, clock, hmap, ⟨by rw [hsz]; simp only [maxLen]; omega, hst, k2⟩, Nat.le_refl _, rfl⟩
  have hperm : (intKeys (.map ((ens.toList.map (WideElems.rg Tryz.prog 3 primR)).foldr DataW.insert []))).Perm ks := by
    have := (WideShapes.sorted_perm (ens.toList.map (WideElems.rg Tryz.prog 3 primR))).map (fun p => _root_.Go.intOf p.1)
    rw [k1] at this
    exact this
  have hsize : Maps.size (.map ((ens.toList.map (WideElems.rg Tryz.prog 3 primR)).foldr DataW.insert [])) = ks.length := by
    simp only [Maps.size, length_sorted, List.length_map, Array.length_toList, hsz]
  obtain rfl : g = 78 := by simpa using hg
  have hseq : SeqGives Fence.wide 2 Tryz.prog 78 #[.pointer (some ⟨Bm, 0, none⟩)] encZ (fun ss => ss.Perm (intKeys (.map ((ens.toList.map (WideElems.rg Tryz.prog 3 primR)).foldr DataW.insert [])))) (Maps.size (.map ((ens.toList.map (WideElems.rg Tryz.prog 3 primR)).foldr DataW.insert []))) w :=
    AnyZI.keys_gives (ρ := primK78_ren) primK78 Fence.wide _ trivial rfl (by omega) Bm b ens.size _ w hBm hcell hown
  have cS := AnyZI.sorted_in primSd Fence.wide 5 trivial trivial trivial trivial rfl (by omega) (primSorts _) (enters_of Tryz.func77 (by kernel_rfl) rfl) 78 #[.pointer (some ⟨Bm, 0, none⟩)] trivial (enters_of Tryz.func78 (by kernel_rfl) rfl) _ _ (by rw [hsize]; simp only [maxLen]; omega) (by rw [hsize]; omega) w hseq
  refine (callsIn_wide.1 cS).mono ?_
  rintro r w' ⟨v, ss, rfl, hS, hrow, hnil, hb⟩
  have hp := hS.trans hperm
  have hm : (ss.mergeSort fun x y => decide (x ≤ y)) = ks.mergeSort fun x y => decide (x ≤ y) := mergeSort_of_perm_i hp
  rw [hm, hp.length_eq] at hrow
  exact ⟨v, rfl, hb, hrow, hnil.trans ⟨fun h => by subst h; exact List.nil_perm.1 hp, fun h => by subst h; exact List.perm_nil.1 hp⟩⟩
theorem primsOK : PrimOK Tryz.prog pl := by
  intro f gs e h
  rcases primS f gs e h with ⟨rfl, rfl, rfl⟩
  · exact ⟨sz3, ⟨_, Tryz.func38, rfl⟩, (fun hh => by cases hh), primSorted _ _ rfl rfl⟩
end Go.Proofs.YtpdhoicpaonggaaGreat

