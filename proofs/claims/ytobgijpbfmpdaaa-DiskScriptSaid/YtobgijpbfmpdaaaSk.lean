/- slices.Sorted(maps.Keys(m)): a map's keys, rising. (The layings were written by a tool of the kit, lay-plain, for this seat's numbers.) -/
import Derived.Shelf.SlIter.Nil
import Derived.Shelf.SortM.Plain
import Derived.Shelf.SortM.SortNone
import Derived.Ground.GgzProg
import Derived.Ground.SlgmProg
import Derived.Test.YtobgijpbfmpdaaaKs
set_option linter.unusedVariables false
namespace Go.Proofs.Ytobgijpbfmpdaaa.Sk
open Go.Proofs Go.RowKit Go.Maps Go.Sort Go.Shelf
open Go.Proofs.Ytobgijpbfmpdaaa.Mp Go.Proofs.Ytobgijpbfmpdaaa.Fm
def keys_ren : Go.Shelf.Ren := ⟨fun | 7 => 124 | 10 => 172 | n => n, fun | 23 => 108 | 26 => 9 | 3 => 175 | 28 => 178 | 0 => 0 | 27 => 177 | 33 => 63 | 4 => 4 | n => n, fun | n => n⟩
theorem keysL : Go.Proofs.SlLaysZ.n7 Try.prog keys_ren := {
  mixed := by kernel_rfl
  f7 := ⟨Try.f124.name, by decide, Try.func124.trans (congrArg some (by kernel_rfl))⟩
  f10 := ⟨Try.f172.name, by decide, Try.func172.trans (congrArg some (by kernel_rfl))⟩
  t0 := Try.underlying0
  a0 := Try.isAgg0
  z0 := Try.sizeOf0
  v0 := Try.zeroValue0
  t4 := Try.underlying4
  a4 := Try.isAgg4
  z4 := Try.sizeOf4
  v4 := Try.zeroValue4
  t23 := Try.underlying108
  a23 := Try.isAgg108
  z23 := Try.sizeOf108
  v23 := Try.zeroValue108
  t26 := Try.underlying9
  a26 := Try.isAgg9
  z26 := Try.sizeOf9
  v26 := Try.zeroValue9
  t27 := Try.underlying177
  a27 := Try.isAgg177
  z27 := Try.sizeOf177
  v27 := Try.zeroValue177
  t28 := Try.underlying178
  a28 := Try.isAgg178
  z28 := Try.sizeOf178
  v28 := Try.zeroValue178
  t33 := Try.underlying63
  a33 := Try.isAgg63
  z33 := Try.sizeOf63
  v33 := Try.zeroValue63 }
def sorted_ren : Go.Shelf.Ren := ⟨fun | 6 => 123 | 8 => 170 | 9 => 171 | 11 => 212 | 13 => 214 | 12 => 213 | 23 => 238 | 24 => 239 | 14 => 229 | 15 => 230 | 16 => 231 | 17 => 232 | 18 => 233 | 19 => 234 | 20 => 235 | 21 => 236 | 22 => 237 | 25 => 245 | 26 => 246 | 27 => 247 | 28 => 248 | 29 => 249 | 30 => 250 | 31 => 252 | n => n, fun | 26 => 9 | 28 => 178 | 24 => 58 | 0 => 0 | 3 => 3 | 37 => 31 | 48 => 29 | 50 => 146 | 4 => 4 | 40 => 269 | 39 => 268 | 45 => 129 | 5 => 5 | 9 => 9 | 51 => 280 | 55 => 125 | 57 => 284 | 58 => 285 | 33 => 63 | n => n, fun | n => n⟩
theorem sortedL : Go.Proofs.SlLaysZ.n6 Try.prog sorted_ren := {
  mixed := by kernel_rfl
  f6 := ⟨Try.f123.name, by decide, Try.func123.trans (congrArg some (by kernel_rfl))⟩
  f8 := ⟨Try.f170.name, by decide, Try.func170.trans (congrArg some (by kernel_rfl))⟩
  f11 := ⟨Try.f212.name, by decide, Try.func212.trans (congrArg some (by kernel_rfl))⟩
  t0 := Try.underlying0
  a0 := Try.isAgg0
  z0 := Try.sizeOf0
  v0 := Try.zeroValue0
  t24 := Try.underlying58
  a24 := Try.isAgg58
  z24 := Try.sizeOf58
  v24 := Try.zeroValue58
  t26 := Try.underlying9
  a26 := Try.isAgg9
  z26 := Try.sizeOf9
  v26 := Try.zeroValue9
  t28 := Try.underlying178
  a28 := Try.isAgg178
  z28 := Try.sizeOf178
  v28 := Try.zeroValue178
  i26 := by kernel_rfl }
def sort_ren : Go.Shelf.Ren := ⟨fun | 6 => 171 | 8 => 214 | 9 => 213 | 19 => 238 | 20 => 239 | 21 => 229 | 22 => 230 | 23 => 231 | 24 => 232 | 25 => 233 | 26 => 234 | 27 => 235 | 28 => 236 | 29 => 237 | 36 => 245 | 31 => 246 | 32 => 247 | 37 => 248 | 38 => 249 | 39 => 250 | 41 => 252 | n => n, fun | 27 => 58 | 29 => 9 | 3 => 3 | 32 => 31 | 26 => 58 | 0 => 0 | 44 => 29 | 46 => 146 | 4 => 4 | 36 => 269 | 35 => 268 | 41 => 129 | 5 => 5 | 9 => 9 | 53 => 280 | 57 => 125 | 63 => 284 | 64 => 285 | n => n, fun | n => n⟩
theorem sortL : Go.Proofs.SlLaysM.n6 Try.prog sort_ren := {
  mixed := by kernel_rfl
  f6 := ⟨Try.f171.name, by decide, Try.func171.trans (congrArg some (by kernel_rfl))⟩
  f8 := Try.func214.trans (congrArg some (by kernel_rfl))
  f9 := ⟨Try.f213.name, by decide, Try.func213.trans (congrArg some (by kernel_rfl))⟩
  f19 := Try.func238.trans (congrArg some (by kernel_rfl))
  f20 := Try.func239.trans (congrArg some (by kernel_rfl))
  f21 := ⟨Try.f229.name, by decide, Try.func229.trans (congrArg some (by kernel_rfl))⟩
  f22 := ⟨Try.f230.name, by decide, Try.func230.trans (congrArg some (by kernel_rfl))⟩
  f23 := ⟨Try.f231.name, by decide, Try.func231.trans (congrArg some (by kernel_rfl))⟩
  f24 := ⟨Try.f232.name, by decide, Try.func232.trans (congrArg some (by kernel_rfl))⟩
  f25 := ⟨Try.f233.name, by decide, Try.func233.trans (congrArg some (by kernel_rfl))⟩
  f26 := ⟨Try.f234.name, by decide, Try.func234.trans (congrArg some (by kernel_rfl))⟩
  f27 := ⟨Try.f235.name, by decide, Try.func235.trans (congrArg some (by kernel_rfl))⟩
  f28 := ⟨Try.f236.name, by decide, Try.func236.trans (congrArg some (by kernel_rfl))⟩
  f29 := ⟨Try.f237.name, by decide, Try.func237.trans (congrArg some (by kernel_rfl))⟩
  f31 := Try.func246.trans (congrArg some (by kernel_rfl))
  f32 := Try.func247.trans (congrArg some (by kernel_rfl))
  f36 := ⟨Try.f245.name, by decide, Try.func245.trans (congrArg some (by kernel_rfl))⟩
  f37 := ⟨Try.f248.name, by decide, Try.func248.trans (congrArg some (by kernel_rfl))⟩
  f38 := ⟨Try.f249.name, by decide, Try.func249.trans (congrArg some (by kernel_rfl))⟩
  f39 := ⟨Try.f250.name, by decide, Try.func250.trans (congrArg some (by kernel_rfl))⟩
  f41 := ⟨Try.f252.name, by decide, Try.func252.trans (congrArg some (by kernel_rfl))⟩
  t0 := Try.underlying0
  a0 := Try.isAgg0
  z0 := Try.sizeOf0
  v0 := Try.zeroValue0
  t3 := Try.underlying3
  a3 := Try.isAgg3
  z3 := Try.sizeOf3
  v3 := Try.zeroValue3
  t4 := Try.underlying4
  a4 := Try.isAgg4
  z4 := Try.sizeOf4
  v4 := Try.zeroValue4
  t5 := Try.underlying5
  a5 := Try.isAgg5
  z5 := Try.sizeOf5
  v5 := Try.zeroValue5
  t9 := Try.underlying9
  a9 := Try.isAgg9
  z9 := Try.sizeOf9
  v9 := Try.zeroValue9
  t26 := Try.underlying58
  a26 := Try.isAgg58
  z26 := Try.sizeOf58
  v26 := Try.zeroValue58
  t27 := Try.underlying58
  a27 := Try.isAgg58
  z27 := Try.sizeOf58
  v27 := Try.zeroValue58
  t29 := Try.underlying9
  a29 := Try.isAgg9
  z29 := Try.sizeOf9
  v29 := Try.zeroValue9
  t32 := Try.underlying31
  a32 := Try.isAgg31
  z32 := Try.sizeOf31
  v32 := Try.zeroValue31
  t35 := Try.underlying268
  a35 := Try.isAgg268
  z35 := Try.sizeOf268
  v35 := Try.zeroValue268
  t36 := Try.underlying269
  a36 := Try.isAgg269
  z36 := Try.sizeOf269
  v36 := Try.zeroValue269
  t41 := Try.underlying129
  a41 := Try.isAgg129
  z41 := Try.sizeOf129
  v41 := Try.zeroValue129
  t44 := Try.underlying29
  a44 := Try.isAgg29
  z44 := Try.sizeOf29
  v44 := Try.zeroValue29
  t46 := Try.underlying146
  a46 := Try.isAgg146
  z46 := Try.sizeOf146
  v46 := Try.zeroValue146
  t53 := Try.underlying280
  a53 := Try.isAgg280
  z53 := Try.sizeOf280
  v53 := Try.zeroValue280
  t57 := Try.underlying125
  a57 := Try.isAgg125
  z57 := Try.sizeOf125
  v57 := Try.zeroValue125
  t63 := Try.underlying284
  a63 := Try.isAgg284
  z63 := Try.sizeOf284
  v63 := Try.zeroValue284
  t64 := Try.underlying285
  a64 := Try.isAgg285
  z64 := Try.sizeOf285
  v64 := Try.zeroValue285 }

theorem sorts (m : Nat) : AnyZ.SortsIn Try.prog sorted_ren Fence.wide m :=
  ⟨fun blk off cap ss W hH hblk hsz => callsIn_wide.2 (AnyM.slices_Sort_string sortL blk off cap ss W hH hblk hsz),
   fun p cap W => callsIn_wide.2 (AnyM.slices_Sort_string_none sortL p cap W)⟩
theorem keys (mb : Option Nat) (W : World) : Calls Try.prog 124 #[.map mb] W fun e w' => e = .returned (.func (.func 172) #[] #[.pointer (some ⟨W.heap.size, 0, none⟩)]) ∧ w' = W.alloc (.cells #[.map mb] 108) :=
  (callsIn_wide (n := 5)).1 (AnyZ.keys_in keysL Fence.wide 5 trivial rfl mb W)
theorem strKeys_toD (m : List (Ky × Value)) : strKeys (toD m) = m.map (·.1) := by
  unfold strKeys toD
  simp [strOf]
set_option maxHeartbeats 1000000 in
theorem sorted (b n : Nat) (m : List (Ky × Value)) (w : World) (hown : Own w b n m) (hr : Ris m) (hl : m.length ≤ 1000000) :
    Calls Try.prog 123 #[.func (.func 172) #[] #[.pointer (some ⟨w.heap.size, 0, none⟩)]] (w.alloc (.cells #[.map (some b)] 108)) fun e w' => ∃ v : Value, e = .returned v ∧
      w'.ownsRow (w.heap.size + 1) 9 1 v (m.map (·.1)).length ((m.map (·.1)).map encStr) ∧ (v = .slice none 0 0 ↔ m = []) ∧ Below w.heap.size w w' := by
  have hbl := World.ownsMap.lt hown
  have hsz : Maps.size (toD m) = m.length := by unfold toD; rw [Maps.size_eq, List.length_map]
  have hseq : SeqGives Fence.wide 2 Try.prog 172 #[.pointer (some ⟨w.heap.size, 0, none⟩)] encStr (fun ss => ss.Perm (strKeys (toD m))) (Maps.size (toD m)) (w.alloc (.cells #[.map (some b)] 108)) :=
    AnyZ.keys_gives (ρ := keys_ren) { keysL with } Fence.wide _ trivial rfl (by omega) w.heap.size b n (toD m) _ (by simp) (by simp) (by
      obtain ⟨es, clock, hb, Ft, hs, hD⟩ := hown
      exact ⟨es, clock, (Below.heap_alloc _ _ b hbl).trans hb, Ft, hs, hD⟩)
  have h := AnyZ.sorted_in sortedL Fence.wide 5 trivial trivial trivial trivial rfl (by omega) (sorts _) (enters_of Try.func171 (by kernel_rfl) rfl) 172 #[.pointer (some ⟨w.heap.size, 0, none⟩)] trivial (enters_of Try.func172 (by kernel_rfl) rfl) _ _ (by rw [hsz]; unfold maxLen; omega) (by rw [hsz]; omega) _ hseq
  refine ((callsIn_wide (n := 5)).1 h).mono ?_
  rintro e w' ⟨v, ss, rfl, hS, hrow, hnil, hb⟩
  rw [strKeys_toD] at hS
  have hk := sorted_keys hr hS
  have hlen : ss.length = (m.map (·.1)).length := hS.length_eq
  rw [hk, hlen, World.size_alloc] at hrow
  refine ⟨v, rfl, hrow, ?_, ((Below.refl _ _).alloc (Nat.le_refl _) _).trans (hb.mono (by simp))⟩
  rw [hnil]
  constructor
  · rintro rfl; exact List.map_eq_nil_iff.1 (List.nil_perm.1 hS)
  · rintro rfl; exact List.perm_nil.1 hS
end Go.Proofs.Ytobgijpbfmpdaaa.Sk
