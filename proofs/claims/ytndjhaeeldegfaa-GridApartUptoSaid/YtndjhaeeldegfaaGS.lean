/- What the functions told in one step owe: slices.Sorted of a map's keys, by the kit's contracts laid at this program. -/
import Derived.Shelf.SlIterI.Nil
import Derived.Shelf.SortM.Plain
import Derived.Shelf.SortM.SortNone
import Derived.Shelf.SlMaps.Clone
import Derived.Test.YtndjhaeeldegfaaM13
import Derived.Test.YtndjhaeeldegfaaPlans
import Derived.Test.YtndjhaeeldegfaaFacts
set_option linter.unusedVariables false
set_option maxRecDepth 10000
namespace Go.Proofs.Ytndjhaeeldegfaa
open Go Go.M Go.Proofs Go.RowKit Go.Maps Go.Sort Go.Shelf
def primK101_ren : Go.Shelf.Ren := ⟨fun | 10 => 101 | n => n, fun | 33 => 161 | 23 => 104 | 0 => 0 | 4 => 4 | 26 => 3 | 3 => 78 | n => n, fun n => n⟩
theorem primK101 : SlLaysZI.n10 Try.prog primK101_ren where
  mixed := by kernel_rfl
  f10 := ⟨ "maps.Keys[map[int]phalanx/api.Rect,int,phalanx/api.Rect]$1", by decide, Try.func101.trans (congrArg some (by kernel_rfl))⟩
  t0 := Try.underlying0
  a0 := Try.isAgg0
  z0 := Try.sizeOf0
  v0 := Try.zeroValue0
  t4 := Try.underlying4
  a4 := Try.isAgg4
  z4 := Try.sizeOf4
  v4 := Try.zeroValue4
  t23 := Try.underlying104
  a23 := Try.isAgg104
  z23 := Try.sizeOf104
  v23 := Try.zeroValue104
  t26 := Try.underlying3
  a26 := Try.isAgg3
  z26 := Try.sizeOf3
  v26 := Try.zeroValue3
  t33 := Try.underlying161
  a33 := Try.isAgg161
  z33 := Try.sizeOf161
  v33 := Try.zeroValue161
def primSd_ren : Go.Shelf.Ren := ⟨fun | 6 => 79 | 8 => 99 | 9 => 100 | 11 => 110 | 13 => 103 | 12 => 111 | 23 => 120 | 24 => 121 | 14 => 125 | 15 => 126 | 16 => 127 | 17 => 128 | 18 => 129 | 19 => 130 | 20 => 131 | 21 => 132 | 22 => 133 | 25 => 139 | 26 => 135 | 27 => 136 | 28 => 140 | 29 => 141 | 30 => 122 | 31 => 143 | n => n, fun | 26 => 3 | 28 => 147 | 24 => 22 | 0 => 0 | 3 => 3 | 37 => 164 | 48 => 177 | 50 => 179 | 4 => 4 | 40 => 171 | 39 => 170 | 45 => 74 | 5 => 5 | 9 => 9 | 51 => 186 | 55 => 190 | 57 => 194 | 58 => 195 | 33 => 161 | n => n, fun n => n⟩
theorem primSd : SlLaysZI.n6 Try.prog primSd_ren where
  mixed := by kernel_rfl
  f6 := ⟨ "slices.Sorted[int]", by decide, Try.func79.trans (congrArg some (by kernel_rfl))⟩
  f8 := ⟨ "slices.Collect[int]", by decide, Try.func99.trans (congrArg some (by kernel_rfl))⟩
  f11 := ⟨ "slices.AppendSeq[[]int,int]", by decide, Try.func110.trans (congrArg some (by kernel_rfl))⟩
  t0 := Try.underlying0
  a0 := Try.isAgg0
  z0 := Try.sizeOf0
  v0 := Try.zeroValue0
  t24 := Try.underlying22
  a24 := Try.isAgg22
  z24 := Try.sizeOf22
  v24 := Try.zeroValue22
  t26 := Try.underlying3
  a26 := Try.isAgg3
  z26 := Try.sizeOf3
  v26 := Try.zeroValue3
  t28 := Try.underlying147
  a28 := Try.isAgg147
  z28 := Try.sizeOf147
  v28 := Try.zeroValue147
  i26 := by kernel_rfl
def primSt_ren : Go.Shelf.Ren := ⟨fun | 5 => 100 | 8 => 103 | 7 => 111 | 19 => 120 | 20 => 121 | 10 => 125 | 11 => 126 | 12 => 127 | 13 => 128 | 14 => 129 | 15 => 130 | 16 => 131 | 17 => 132 | 18 => 133 | 30 => 139 | 31 => 135 | 32 => 136 | 33 => 140 | 34 => 141 | 35 => 122 | 40 => 143 | n => n, fun | 23 => 22 | 25 => 3 | 3 => 3 | 32 => 164 | 22 => 22 | 0 => 0 | 44 => 177 | 46 => 179 | 4 => 4 | 36 => 171 | 35 => 170 | 41 => 74 | 5 => 5 | 9 => 9 | 53 => 186 | 57 => 190 | 63 => 194 | 64 => 195 | n => n, fun n => n⟩
theorem primSt : SlLaysM.n5 Try.prog primSt_ren where
  mixed := by kernel_rfl
  f5 := ⟨ "slices.Sort[[]int,int]", by decide, Try.func100.trans (congrArg some (by kernel_rfl))⟩
  f7 := ⟨ "slices.pdqsortOrdered[int]", by decide, Try.func111.trans (congrArg some (by kernel_rfl))⟩
  f8 := Try.func103.trans (congrArg some (by kernel_rfl))
  f10 := ⟨ "slices.insertionSortOrdered[int]", by decide, Try.func125.trans (congrArg some (by kernel_rfl))⟩
  f11 := ⟨ "slices.heapSortOrdered[int]", by decide, Try.func126.trans (congrArg some (by kernel_rfl))⟩
  f12 := ⟨ "slices.breakPatternsOrdered[int]", by decide, Try.func127.trans (congrArg some (by kernel_rfl))⟩
  f13 := ⟨ "slices.choosePivotOrdered[int]", by decide, Try.func128.trans (congrArg some (by kernel_rfl))⟩
  f14 := ⟨ "slices.reverseRangeOrdered[int]", by decide, Try.func129.trans (congrArg some (by kernel_rfl))⟩
  f15 := ⟨ "slices.partialInsertionSortOrdered[int]", by decide, Try.func130.trans (congrArg some (by kernel_rfl))⟩
  f16 := ⟨ "cmp.Less[int]", by decide, Try.func131.trans (congrArg some (by kernel_rfl))⟩
  f17 := ⟨ "slices.partitionEqualOrdered[int]", by decide, Try.func132.trans (congrArg some (by kernel_rfl))⟩
  f18 := ⟨ "slices.partitionOrdered[int]", by decide, Try.func133.trans (congrArg some (by kernel_rfl))⟩
  f19 := Try.func120.trans (congrArg some (by kernel_rfl))
  f20 := Try.func121.trans (congrArg some (by kernel_rfl))
  f30 := ⟨ "slices.siftDownOrdered[int]", by decide, Try.func139.trans (congrArg some (by kernel_rfl))⟩
  f31 := Try.func135.trans (congrArg some (by kernel_rfl))
  f32 := Try.func136.trans (congrArg some (by kernel_rfl))
  f33 := ⟨ "slices.medianAdjacentOrdered[int]", by decide, Try.func140.trans (congrArg some (by kernel_rfl))⟩
  f34 := ⟨ "slices.medianOrdered[int]", by decide, Try.func141.trans (congrArg some (by kernel_rfl))⟩
  f35 := ⟨ "cmp.isNaN[int]", by decide, Try.func122.trans (congrArg some (by kernel_rfl))⟩
  f40 := ⟨ "slices.order2Ordered[int]", by decide, Try.func143.trans (congrArg some (by kernel_rfl))⟩
  t0 := Try.underlying0
  a0 := Try.isAgg0
  z0 := Try.sizeOf0
  v0 := Try.zeroValue0
  t3 := Try.underlying3
  a3 := Try.isAgg3
  z3 := Try.sizeOf3
  v3 := Try.zeroValue3
  t4 := Try.underlying4
  a4 := Try.isAgg4
  z4 := Try.sizeOf4
  v4 := Try.zeroValue4
  t5 := Try.underlying5
  a5 := Try.isAgg5
  z5 := Try.sizeOf5
  v5 := Try.zeroValue5
  t9 := Try.underlying9
  a9 := Try.isAgg9
  z9 := Try.sizeOf9
  v9 := Try.zeroValue9
  t22 := Try.underlying22
  a22 := Try.isAgg22
  z22 := Try.sizeOf22
  v22 := Try.zeroValue22
  t23 := Try.underlying22
  a23 := Try.isAgg22
  z23 := Try.sizeOf22
  v23 := Try.zeroValue22
  t25 := Try.underlying3
  a25 := Try.isAgg3
  z25 := Try.sizeOf3
  v25 := Try.zeroValue3
  t32 := Try.underlying164
  a32 := Try.isAgg164
  z32 := Try.sizeOf164
  v32 := Try.zeroValue164
  t35 := Try.underlying170
  a35 := Try.isAgg170
  z35 := Try.sizeOf170
  v35 := Try.zeroValue170
  t36 := Try.underlying171
  a36 := Try.isAgg171
  z36 := Try.sizeOf171
  v36 := Try.zeroValue171
  t41 := Try.underlying74
  a41 := Try.isAgg74
  z41 := Try.sizeOf74
  v41 := Try.zeroValue74
  t44 := Try.underlying177
  a44 := Try.isAgg177
  z44 := Try.sizeOf177
  v44 := Try.zeroValue177
  t46 := Try.underlying179
  a46 := Try.isAgg179
  z46 := Try.sizeOf179
  v46 := Try.zeroValue179
  t53 := Try.underlying186
  a53 := Try.isAgg186
  z53 := Try.sizeOf186
  v53 := Try.zeroValue186
  t57 := Try.underlying190
  a57 := Try.isAgg190
  z57 := Try.sizeOf190
  v57 := Try.zeroValue190
  t63 := Try.underlying194
  a63 := Try.isAgg194
  z63 := Try.sizeOf194
  v63 := Try.zeroValue194
  t64 := Try.underlying195
  a64 := Try.isAgg195
  z64 := Try.sizeOf195
  v64 := Try.zeroValue195
def primC72_ren : Go.Shelf.Ren := ⟨fun | 5 => 72 | 7 => 95 | n => n, fun | 23 => 104 | 25 => 3 | 3 => 78 | 4 => 4 | 20 => 20 | n => n, fun n => n⟩
theorem primC72 : SlLaysW.n5 Try.prog primC72_ren where
  mixed := by kernel_rfl
  f5 := ⟨ "maps.Clone[map[int]phalanx/api.Rect,int,phalanx/api.Rect]", by decide, Try.func72.trans (congrArg some (by kernel_rfl))⟩
  f7 := Try.func95.trans (congrArg some (by kernel_rfl))
  t4 := Try.underlying4
  a4 := Try.isAgg4
  z4 := Try.sizeOf4
  v4 := Try.zeroValue4
  t20 := Try.underlying20
  a20 := Try.isAgg20
  z20 := Try.sizeOf20
  v20 := Try.zeroValue20
  t23 := Try.underlying104
  a23 := Try.isAgg104
  z23 := Try.sizeOf104
  v23 := Try.zeroValue104
def primC73_ren : Go.Shelf.Ren := ⟨fun | 5 => 73 | 7 => 95 | n => n, fun | 23 => 105 | 25 => 24 | 3 => 3 | 4 => 4 | 20 => 20 | n => n, fun n => n⟩
theorem primC73 : SlLaysW.n5 Try.prog primC73_ren where
  mixed := by kernel_rfl
  f5 := ⟨ "maps.Clone[map[phalanx/api.Cell]int,phalanx/api.Cell,int]", by decide, Try.func73.trans (congrArg some (by kernel_rfl))⟩
  f7 := Try.func95.trans (congrArg some (by kernel_rfl))
  t4 := Try.underlying4
  a4 := Try.isAgg4
  z4 := Try.sizeOf4
  v4 := Try.zeroValue4
  t20 := Try.underlying20
  a20 := Try.isAgg20
  z20 := Try.sizeOf20
  v20 := Try.zeroValue20
  t23 := Try.underlying105
  a23 := Try.isAgg105
  z23 := Try.sizeOf105
  v23 := Try.zeroValue105
theorem primSorts (m : Nat) : AnyZI.SortsIn Try.prog primSd_ren Fence.wide m :=
  ⟨fun blk off cap ss W hH hblk hsz => callsIn_wide.2 (AnyM.slices_Sort_int primSt blk off cap ss W hH hblk hsz),
   fun p cap W => callsIn_wide.2 (AnyM.slices_Sort_int_none primSt p cap W)⟩
abbrev primR : Value → Option (DataW Unit × List MemPlace) := fun _ => some (.nil, [])
theorem primRead {x : MapEntry} {k : Int} (hx : x.key = .int .i64 k) (hk : -9223372036854775808 ≤ k ∧ k < 9223372036854775808) : WideElems.rd Try.prog 3 primR x = some (.int .i64 k, .nil) := by
  unfold WideElems.rd
  rw [hx]
  have : keyOf Try.prog 3 (.int .i64 k) = some (.int .i64 k) := keyOf_int_mk Try.underlying3 (by
    simp [Lit.wf, IntKind.max, IntKind.min, IntKind.signed, IntKind.bits]; omega)
  rw [this]
  rfl
theorem keys_of {ens : List MapEntry} : ∀ {ks : List Int}, ens.map (·.key) = ks.map (Value.int .i64) → (∀ k ∈ ks, -9223372036854775808 ≤ k ∧ k < 9223372036854775808) → (ens.map (WideElems.rg Try.prog 3 primR)).map (fun p => _root_.Go.intOf p.1) = ks ∧ ∀ x ∈ ens, ∃ y, WideElems.rd Try.prog 3 primR x = some y := by
  induction ens with
  | nil => intro ks h _; cases ks with
    | nil => simp
    | cons k ks => simp at h
  | cons e ens ih =>
    intro ks h hr
    cases ks with
    | nil => simp at h
    | cons k ks =>
      simp only [List.map_cons, List.cons.injEq] at h
      obtain ⟨h1, h2⟩ := ih h.2 fun k' hk' => hr k' (List.mem_cons_of_mem _ hk')
      have hrd := primRead h.1 (hr k (by simp))
      refine ⟨?_, fun x hx => ?_⟩
      · rw [List.map_cons, List.map_cons, h1]
        simp only [WideElems.rg, hrd, Option.getD_some, _root_.Go.intOf]
      · rcases List.mem_cons.1 hx with rfl | hx
        · exact ⟨_, hrd⟩
        · exact h2 x hx
theorem primSorted (f : Nat) (gs : List Nat) (hf : f = 79) (hgs : gs = [101]) : ∀ g ∈ gs, ∀ (w : World) (Bm b : Nat) (ens : Array MapEntry) (clock : Nat) (ks : List Int), Bm < w.heap.size → w.cell? ⟨Bm, 0, none⟩ = some (.map (some b)) → w.heap[b]? = some (.map ens clock) → ens.toList.map (·.key) = ks.map (Value.int .i64) → ks.Nodup → ks.length ≤ 1000000 → (∀ k ∈ ks, -9223372036854775808 ≤ k ∧ k < 9223372036854775808) → StB ens.toList clock →
    Calls Try.prog f #[.func (.func g) #[] #[.pointer (some ⟨Bm, 0, none⟩)]] w fun r w' => ∃ v, r = .returned v ∧ Below w.heap.size w w' ∧ w'.ownsRow w.heap.size 3 1 v ks.length ((ks.mergeSort fun x y => decide (x ≤ y)).map (Value.int .i64)) ∧ (v = .slice none 0 0 ↔ ks = []) := by
  subst hf; subst hgs
  intro g hg w Bm b ens clock ks hBm hcell hmap hkeys hnd hlen hrange hsb
  obtain ⟨k1, k2⟩ := keys_of hkeys hrange
  have hsz : ens.size = ks.length := by
    have := congrArg List.length hkeys
    simpa using this
  have hst : MapKept.Stamped ens clock := by
    refine ⟨hsb.1, hsb.2, ?_⟩
    rw [hkeys]
    exact List.pairwise_map.2 (hnd.imp fun {a b} hne he => hne (by simpa using he))
  have hown : w.ownsMap Try.prog 3 primR b ens.size (.map ((ens.toList.map (WideElems.rg Try.prog 3 primR)).foldr DataW.insert [])) := ⟨ens, clock, hmap, ⟨by rw [hsz]; simp only [maxLen]; omega, hst, k2⟩, Nat.le_refl _, rfl⟩
  have hperm : (intKeys (.map ((ens.toList.map (WideElems.rg Try.prog 3 primR)).foldr DataW.insert []))).Perm ks := by
    have := (WideShapes.sorted_perm (ens.toList.map (WideElems.rg Try.prog 3 primR))).map (fun p => _root_.Go.intOf p.1)
    rw [k1] at this
    exact this
  have hsize : Maps.size (.map ((ens.toList.map (WideElems.rg Try.prog 3 primR)).foldr DataW.insert [])) = ks.length := by
    simp only [Maps.size, length_sorted, List.length_map, Array.length_toList, hsz]
  obtain rfl : g = 101 := by simpa using hg
  have hseq : SeqGives Fence.wide 2 Try.prog 101 #[.pointer (some ⟨Bm, 0, none⟩)] encZ (fun ss => ss.Perm (intKeys (.map ((ens.toList.map (WideElems.rg Try.prog 3 primR)).foldr DataW.insert [])))) (Maps.size (.map ((ens.toList.map (WideElems.rg Try.prog 3 primR)).foldr DataW.insert []))) w :=
    AnyZI.keys_gives (ρ := primK101_ren) primK101 Fence.wide _ trivial rfl (by omega) Bm b ens.size _ w hBm hcell hown
  have cS := AnyZI.sorted_in primSd Fence.wide 5 trivial trivial trivial trivial rfl (by omega) (primSorts _) (enters_of Try.func100 (by kernel_rfl) rfl) 101 #[.pointer (some ⟨Bm, 0, none⟩)] trivial (enters_of Try.func101 (by kernel_rfl) rfl) _ _ (by rw [hsize]; simp only [maxLen]; omega) (by rw [hsize]; omega) w hseq
  refine (callsIn_wide.1 cS).mono ?_
  rintro r w' ⟨v, ss, rfl, hS, hrow, hnil, hb⟩
  have hp := hS.trans hperm
  have hm : (ss.mergeSort fun x y => decide (x ≤ y)) = ks.mergeSort fun x y => decide (x ≤ y) := mergeSort_of_perm_i hp
  rw [hm, hp.length_eq] at hrow
  exact ⟨v, rfl, hb, hrow, hnil.trans ⟨fun h => by subst h; exact List.nil_perm.1 hp, fun h => by subst h; exact List.perm_nil.1 hp⟩⟩
theorem primsOK : PrimOK Try.prog pl := by
  intro f gs e h
  rcases primS f gs e h with ⟨rfl, rfl, rfl⟩ | ⟨rfl, rfl, rfl⟩ | ⟨rfl, rfl, rfl⟩
  · exact ⟨sz3, ⟨_, Try.func79, rfl⟩, (fun hh => by cases hh), primSorted _ _ rfl rfl⟩
  · exact ⟨sz3, ⟨_, Try.func72, rfl⟩, (fun _ w b ens clock hb => AnyW.maps_Clone primC72 b ens clock w hb), (fun g hg => by simp at hg)⟩
  · exact ⟨sz3, ⟨_, Try.func73, rfl⟩, (fun _ w b ens clock hb => AnyW.maps_Clone primC73 b ens clock w hb), (fun g hg => by simp at hg)⟩
end Go.Proofs.Ytndjhaeeldegfaa

