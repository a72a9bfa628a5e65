/- What the functions told in one step owe: slices.Sorted of a map's keys, by the kit's contracts laid at this program. -/
import Derived.Shelf.SlIterI.Nil
import Derived.Shelf.SortM.Plain
import Derived.Shelf.SortM.SortNone
import Derived.Test.YtgmccnnjpejigaaM13
import Derived.Test.YtgmccnnjpejigaaPlans
import Derived.Test.YtgmccnnjpejigaaFacts
set_option linter.unusedVariables false
set_option maxRecDepth 10000
namespace Go.Proofs.Ytgmccnnjpejigaa
open Go Go.M Go.Proofs Go.RowKit Go.Maps Go.Sort Go.Shelf
def primK93_ren : Go.Shelf.Ren := ⟨fun | 10 => 93 | n => n, fun | 33 => 108 | 23 => 59 | 0 => 0 | 4 => 4 | 26 => 3 | 3 => 34 | n => n, fun n => n⟩
theorem primK93 : SlLaysZI.n10 Try.prog primK93_ren where
  mixed := by kernel_rfl
  f10 := ⟨ "maps.Keys[map[int]phalanx/api.Rect,int,phalanx/api.Rect]$1", by decide, Try.func93.trans (congrArg some (by kernel_rfl))⟩
  t0 := Try.underlying0
  a0 := Try.isAgg0
  z0 := Try.sizeOf0
  v0 := Try.zeroValue0
  t4 := Try.underlying4
  a4 := Try.isAgg4
  z4 := Try.sizeOf4
  v4 := Try.zeroValue4
  t23 := Try.underlying59
  a23 := Try.isAgg59
  z23 := Try.sizeOf59
  v23 := Try.zeroValue59
  t26 := Try.underlying3
  a26 := Try.isAgg3
  z26 := Try.sizeOf3
  v26 := Try.zeroValue3
  t33 := Try.underlying108
  a33 := Try.isAgg108
  z33 := Try.sizeOf108
  v33 := Try.zeroValue108
def primK107_ren : Go.Shelf.Ren := ⟨fun | 10 => 107 | n => n, fun | 33 => 108 | 23 => 89 | 0 => 0 | 4 => 4 | 26 => 3 | 3 => 32 | n => n, fun n => n⟩
theorem primK107 : SlLaysZI.n10 Try.prog primK107_ren where
  mixed := by kernel_rfl
  f10 := ⟨ "maps.Keys[map[int]phalanx/api.Cell,int,phalanx/api.Cell]$1", by decide, Try.func107.trans (congrArg some (by kernel_rfl))⟩
  t0 := Try.underlying0
  a0 := Try.isAgg0
  z0 := Try.sizeOf0
  v0 := Try.zeroValue0
  t4 := Try.underlying4
  a4 := Try.isAgg4
  z4 := Try.sizeOf4
  v4 := Try.zeroValue4
  t23 := Try.underlying89
  a23 := Try.isAgg89
  z23 := Try.sizeOf89
  v23 := Try.zeroValue89
  t26 := Try.underlying3
  a26 := Try.isAgg3
  z26 := Try.sizeOf3
  v26 := Try.zeroValue3
  t33 := Try.underlying108
  a33 := Try.isAgg108
  z33 := Try.sizeOf108
  v33 := Try.zeroValue108
def primSd_ren : Go.Shelf.Ren := ⟨fun | 6 => 64 | 8 => 91 | 9 => 92 | 11 => 109 | 13 => 101 | 12 => 110 | 23 => 125 | 24 => 126 | 14 => 129 | 15 => 130 | 16 => 131 | 17 => 132 | 18 => 133 | 19 => 134 | 20 => 135 | 21 => 136 | 22 => 137 | 25 => 143 | 26 => 139 | 27 => 140 | 28 => 144 | 29 => 145 | 30 => 127 | 31 => 147 | n => n, fun | 26 => 3 | 28 => 112 | 24 => 55 | 0 => 0 | 3 => 3 | 37 => 146 | 48 => 169 | 50 => 155 | 4 => 4 | 40 => 163 | 39 => 162 | 45 => 49 | 5 => 5 | 9 => 9 | 51 => 179 | 55 => 183 | 57 => 187 | 58 => 188 | 33 => 108 | n => n, fun n => n⟩
theorem primSd : SlLaysZI.n6 Try.prog primSd_ren where
  mixed := by kernel_rfl
  f6 := ⟨ "slices.Sorted[int]", by decide, Try.func64.trans (congrArg some (by kernel_rfl))⟩
  f8 := ⟨ "slices.Collect[int]", by decide, Try.func91.trans (congrArg some (by kernel_rfl))⟩
  f11 := ⟨ "slices.AppendSeq[[]int,int]", by decide, Try.func109.trans (congrArg some (by kernel_rfl))⟩
  t0 := Try.underlying0
  a0 := Try.isAgg0
  z0 := Try.sizeOf0
  v0 := Try.zeroValue0
  t24 := Try.underlying55
  a24 := Try.isAgg55
  z24 := Try.sizeOf55
  v24 := Try.zeroValue55
  t26 := Try.underlying3
  a26 := Try.isAgg3
  z26 := Try.sizeOf3
  v26 := Try.zeroValue3
  t28 := Try.underlying112
  a28 := Try.isAgg112
  z28 := Try.sizeOf112
  v28 := Try.zeroValue112
  i26 := by kernel_rfl
def primSt_ren : Go.Shelf.Ren := ⟨fun | 5 => 92 | 8 => 101 | 7 => 110 | 19 => 125 | 20 => 126 | 10 => 129 | 11 => 130 | 12 => 131 | 13 => 132 | 14 => 133 | 15 => 134 | 16 => 135 | 17 => 136 | 18 => 137 | 30 => 143 | 31 => 139 | 32 => 140 | 33 => 144 | 34 => 145 | 35 => 127 | 40 => 147 | n => n, fun | 23 => 55 | 25 => 3 | 3 => 3 | 32 => 146 | 22 => 55 | 0 => 0 | 44 => 169 | 46 => 155 | 4 => 4 | 36 => 163 | 35 => 162 | 41 => 49 | 5 => 5 | 9 => 9 | 53 => 179 | 57 => 183 | 63 => 187 | 64 => 188 | n => n, fun n => n⟩
theorem primSt : SlLaysM.n5 Try.prog primSt_ren where
  mixed := by kernel_rfl
  f5 := ⟨ "slices.Sort[[]int,int]", by decide, Try.func92.trans (congrArg some (by kernel_rfl))⟩
  f7 := ⟨ "slices.pdqsortOrdered[int]", by decide, Try.func110.trans (congrArg some (by kernel_rfl))⟩
  f8 := Try.func101.trans (congrArg some (by kernel_rfl))
  f10 := ⟨ "slices.insertionSortOrdered[int]", by decide, Try.func129.trans (congrArg some (by kernel_rfl))⟩
  f11 := ⟨ "slices.heapSortOrdered[int]", by decide, Try.func130.trans (congrArg some (by kernel_rfl))⟩
  f12 := ⟨ "slices.breakPatternsOrdered[int]", by decide, Try.func131.trans (congrArg some (by kernel_rfl))⟩
  f13 := ⟨ "slices.choosePivotOrdered[int]", by decide, Try.func132.trans (congrArg some (by kernel_rfl))⟩
  f14 := ⟨ "slices.reverseRangeOrdered[int]", by decide, Try.func133.trans (congrArg some (by kernel_rfl))⟩
  f15 := ⟨ "slices.partialInsertionSortOrdered[int]", by decide, Try.func134.trans (congrArg some (by kernel_rfl))⟩
  f16 := ⟨ "cmp.Less[int]", by decide, Try.func135.trans (congrArg some (by kernel_rfl))⟩
  f17 := ⟨ "slices.partitionEqualOrdered[int]", by decide, Try.func136.trans (congrArg some (by kernel_rfl))⟩
  f18 := ⟨ "slices.partitionOrdered[int]", by decide, Try.func137.trans (congrArg some (by kernel_rfl))⟩
  f19 := Try.func125.trans (congrArg some (by kernel_rfl))
  f20 := Try.func126.trans (congrArg some (by kernel_rfl))
  f30 := ⟨ "slices.siftDownOrdered[int]", by decide, Try.func143.trans (congrArg some (by kernel_rfl))⟩
  f31 := Try.func139.trans (congrArg some (by kernel_rfl))
  f32 := Try.func140.trans (congrArg some (by kernel_rfl))
  f33 := ⟨ "slices.medianAdjacentOrdered[int]", by decide, Try.func144.trans (congrArg some (by kernel_rfl))⟩
  f34 := ⟨ "slices.medianOrdered[int]", by decide, Try.func145.trans (congrArg some (by kernel_rfl))⟩
  f35 := ⟨ "cmp.isNaN[int]", by decide, Try.func127.trans (congrArg some (by kernel_rfl))⟩
  f40 := ⟨ "slices.order2Ordered[int]", by decide, Try.func147.trans (congrArg some (by kernel_rfl))⟩
  t0 := Try.underlying0
  a0 := Try.isAgg0
  z0 := Try.sizeOf0
  v0 := Try.zeroValue0
  t3 := Try.underlying3
  a3 := Try.isAgg3
  z3 := Try.sizeOf3
  v3 := Try.zeroValue3
  t4 := Try.underlying4
  a4 := Try.isAgg4
  z4 := Try.sizeOf4
  v4 := Try.zeroValue4
  t5 := Try.underlying5
  a5 := Try.isAgg5
  z5 := Try.sizeOf5
  v5 := Try.zeroValue5
  t9 := Try.underlying9
  a9 := Try.isAgg9
  z9 := Try.sizeOf9
  v9 := Try.zeroValue9
  t22 := Try.underlying55
  a22 := Try.isAgg55
  z22 := Try.sizeOf55
  v22 := Try.zeroValue55
  t23 := Try.underlying55
  a23 := Try.isAgg55
  z23 := Try.sizeOf55
  v23 := Try.zeroValue55
  t25 := Try.underlying3
  a25 := Try.isAgg3
  z25 := Try.sizeOf3
  v25 := Try.zeroValue3
  t32 := Try.underlying146
  a32 := Try.isAgg146
  z32 := Try.sizeOf146
  v32 := Try.zeroValue146
  t35 := Try.underlying162
  a35 := Try.isAgg162
  z35 := Try.sizeOf162
  v35 := Try.zeroValue162
  t36 := Try.underlying163
  a36 := Try.isAgg163
  z36 := Try.sizeOf163
  v36 := Try.zeroValue163
  t41 := Try.underlying49
  a41 := Try.isAgg49
  z41 := Try.sizeOf49
  v41 := Try.zeroValue49
  t44 := Try.underlying169
  a44 := Try.isAgg169
  z44 := Try.sizeOf169
  v44 := Try.zeroValue169
  t46 := Try.underlying155
  a46 := Try.isAgg155
  z46 := Try.sizeOf155
  v46 := Try.zeroValue155
  t53 := Try.underlying179
  a53 := Try.isAgg179
  z53 := Try.sizeOf179
  v53 := Try.zeroValue179
  t57 := Try.underlying183
  a57 := Try.isAgg183
  z57 := Try.sizeOf183
  v57 := Try.zeroValue183
  t63 := Try.underlying187
  a63 := Try.isAgg187
  z63 := Try.sizeOf187
  v63 := Try.zeroValue187
  t64 := Try.underlying188
  a64 := Try.isAgg188
  z64 := Try.sizeOf188
  v64 := Try.zeroValue188
theorem primSorts (m : Nat) : AnyZI.SortsIn Try.prog primSd_ren Fence.wide m :=
  ⟨fun blk off cap ss W hH hblk hsz => callsIn_wide.2 (AnyM.slices_Sort_int primSt blk off cap ss W hH hblk hsz),
   fun p cap W => callsIn_wide.2 (AnyM.slices_Sort_int_none primSt p cap W)⟩
abbrev primR : Value → Option (DataW Unit × List MemPlace) := fun _ => some (.nil, [])
theorem primRead {x : MapEntry} {k : Int} (hx : x.key = .int .i64 k) (hk : -9223372036854775808 ≤ k ∧ k < 9223372036854775808) : WideElems.rd Try.prog 3 primR x = some (.int .i64 k, .nil) := by
  unfold WideElems.rd
  rw [hx]
  have : keyOf Try.prog 3 (.int .i64 k) = some (.int .i64 k) := keyOf_int_mk Try.underlying3 (by
    simp [Lit.wf, IntKind.max, IntKind.min, IntKind.signed, IntKind.bits]; omega)
  rw [this]
  rfl
theorem keys_of {ens : List MapEntry} : ∀ {ks : List Int}, ens.map (·.key) = ks.map (Value.int .i64) → (∀ k ∈ ks, -9223372036854775808 ≤ k ∧ k < 9223372036854775808) → (ens.map (WideElems.rg Try.prog 3 primR)).map (fun p => _root_.Go.intOf p.1) = ks ∧ ∀ x ∈ ens, ∃ y, WideElems.rd Try.prog 3 primR x = some y := by
  induction ens with
  | nil => intro ks h _; cases ks with
    | nil => simp
    | cons k ks => simp at h
  | cons e ens ih =>
    intro ks h hr
    cases ks with
    | nil => simp at h
    | cons k ks =>
      simp only [List.map_cons, List.cons.injEq] at h
      obtain ⟨h1, h2⟩ := ih h.2 fun k' hk' => hr k' (List.mem_cons_of_mem _ hk')
      have hrd := primRead h.1 (hr k (by simp))
      refine ⟨?_, fun x hx => ?_⟩
      · rw [List.map_cons, List.map_cons, h1]
        simp only [WideElems.rg, hrd, Option.getD_some, _root_.Go.intOf]
      · rcases List.mem_cons.1 hx with rfl | hx
        · exact ⟨_, hrd⟩
        · exact h2 x hx
theorem primSorted (f : Nat) (gs : List Nat) (hf : f = 64) (hgs : gs = [93, 107]) : ∀ g ∈ gs, ∀ (w : World) (Bm b : Nat) (ens : Array MapEntry) (clock : Nat) (ks : List Int), Bm < w.heap.size → w.cell? ⟨Bm, 0, none⟩ = some (.map (some b)) → w.heap[b]? = some (.map ens clock) → ens.toList.map (·.key) = ks.map (Value.int .i64) → ks.Nodup → ks.length ≤ 1000000 → (∀ k ∈ ks, -9223372036854775808 ≤ k ∧ k < 9223372036854775808) → StB ens.toList clock →
    Calls Try.prog f #[.func (.func g) #[] #[.pointer (some ⟨Bm, 0, none⟩)]] w fun r w' => ∃ v, r = .returned v ∧ Below w.heap.size w w' ∧ w'.ownsRow w.heap.size 3 1 v ks.length ((ks.mergeSort fun x y => decide (x ≤ y)).map (Value.int .i64)) ∧ (v = .slice none 0 0 ↔ ks = []) := by
  subst hf; subst hgs
  intro g hg w Bm b ens clock ks hBm hcell hmap hkeys hnd hlen hrange hsb
  obtain ⟨k1, k2⟩ := keys_of hkeys hrange
  have hsz : ens.size = ks.length := by
    have := congrArg List.length hkeys
    simpa using this
  have hst : MapKept.Stamped ens clock := by
    refine ⟨hsb.1, hsb.2, ?_⟩
    rw [hkeys]
    exact List.pairwise_map.2 (hnd.imp fun {a b} hne he => hne (by simpa using he))
  have hown : w.ownsMap Try.prog 3 primR b ens.size (.map ((ens.toList.map (WideElems.rg Try.prog 3 primR)).foldr DataW.insert [])) := ⟨ens, clock, hmap, ⟨by rw [hsz]; simp only [maxLen]; omega, hst, k2⟩, Nat.le_refl _, rfl⟩
  have hperm : (intKeys (.map ((ens.toList.map (WideElems.rg Try.prog 3 primR)).foldr DataW.insert []))).Perm ks := by
    have := (WideShapes.sorted_perm (ens.toList.map (WideElems.rg Try.prog 3 primR))).map (fun p => _root_.Go.intOf p.1)
    rw [k1] at this
    exact this
  have hsize : Maps.size (.map ((ens.toList.map (WideElems.rg Try.prog 3 primR)).foldr DataW.insert [])) = ks.length := by
    simp only [Maps.size, length_sorted, List.length_map, Array.length_toList, hsz]
  simp only [List.mem_cons, List.not_mem_nil, or_false] at hg
  rcases hg with rfl | rfl
  · have hseq : SeqGives Fence.wide 2 Try.prog 93 #[.pointer (some ⟨Bm, 0, none⟩)] encZ (fun ss => ss.Perm (intKeys (.map ((ens.toList.map (WideElems.rg Try.prog 3 primR)).foldr DataW.insert [])))) (Maps.size (.map ((ens.toList.map (WideElems.rg Try.prog 3 primR)).foldr DataW.insert []))) w :=
      AnyZI.keys_gives (ρ := primK93_ren) primK93 Fence.wide _ trivial rfl (by omega) Bm b ens.size _ w hBm hcell hown
    have cS := AnyZI.sorted_in primSd Fence.wide 5 trivial trivial trivial trivial rfl (by omega) (primSorts _) (enters_of Try.func92 (by kernel_rfl) rfl) 93 #[.pointer (some ⟨Bm, 0, none⟩)] trivial (enters_of Try.func93 (by kernel_rfl) rfl) _ _ (by rw [hsize]; simp only [maxLen]; omega) (by rw [hsize]; omega) w hseq
    refine (callsIn_wide.1 cS).mono ?_
    rintro r w' ⟨v, ss, rfl, hS, hrow, hnil, hb⟩
    have hp := hS.trans hperm
    have hm : (ss.mergeSort fun x y => decide (x ≤ y)) = ks.mergeSort fun x y => decide (x ≤ y) := mergeSort_of_perm_i hp
    rw [hm, hp.length_eq] at hrow
    exact ⟨v, rfl, hb, hrow, hnil.trans ⟨fun h => by subst h; exact List.nil_perm.1 hp, fun h => by subst h; exact List.perm_nil.1 hp⟩⟩
  · have hseq : SeqGives Fence.wide 2 Try.prog 107 #[.pointer (some ⟨Bm, 0, none⟩)] encZ (fun ss => ss.Perm (intKeys (.map ((ens.toList.map (WideElems.rg Try.prog 3 primR)).foldr DataW.insert [])))) (Maps.size (.map ((ens.toList.map (WideElems.rg Try.prog 3 primR)).foldr DataW.insert []))) w :=
      AnyZI.keys_gives (ρ := primK107_ren) primK107 Fence.wide _ trivial rfl (by omega) Bm b ens.size _ w hBm hcell hown
    have cS := AnyZI.sorted_in primSd Fence.wide 5 trivial trivial trivial trivial rfl (by omega) (primSorts _) (enters_of Try.func92 (by kernel_rfl) rfl) 107 #[.pointer (some ⟨Bm, 0, none⟩)] trivial (enters_of Try.func107 (by kernel_rfl) rfl) _ _ (by rw [hsize]; simp only [maxLen]; omega) (by rw [hsize]; omega) w hseq
    refine (callsIn_wide.1 cS).mono ?_
    rintro r w' ⟨v, ss, rfl, hS, hrow, hnil, hb⟩
    have hp := hS.trans hperm
    have hm : (ss.mergeSort fun x y => decide (x ≤ y)) = ks.mergeSort fun x y => decide (x ≤ y) := mergeSort_of_perm_i hp
    rw [hm, hp.length_eq] at hrow
    exact ⟨v, rfl, hb, hrow, hnil.trans ⟨fun h => by subst h; exact List.nil_perm.1 hp, fun h => by subst h; exact List.perm_nil.1 hp⟩⟩
theorem primsOK : PrimOK Try.prog pl := by
  intro f gs e h
  rcases primS f gs e h with ⟨rfl, rfl, rfl⟩
  · exact ⟨sz3, ⟨_, Try.func64, rfl⟩, (fun hh => by cases hh), primSorted _ _ rfl rfl⟩
end Go.Proofs.Ytgmccnnjpejigaa

