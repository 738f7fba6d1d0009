/- The walks of frame.row (the table of the sum) and frame.Sum. -/
import Derived.Test.YtobgijpbfmpdaaaProg
import Derived.WalkKit
import Derived.Deep.LoopGhost
import Derived.Deep.QuietTactic
import Derived.BigQuiet
import Derived.KernelRfl
import Derived.RowKit
import Derived.Laws.BitsAllLaws
import Derived.Test.YtobgijpbfmpdaaaWWords
import Derived.Test.YtobgijpbfmpdaaaCr
set_option linter.unusedVariables false
set_option linter.unusedSimpArgs false
namespace Go.Proofs.Ytobgijpbfmpdaaa.Mine
open Go.RowKit Go.Proofs.YtobgijpbfmpdaaaW.PrintWords
theorem below_setRow {B : Nat} {a w : World} (h : Below B a w) {g : Nat} (hg : B ≤ g) (cs : Array Value) : Below B a (w.setRow g cs) :=
  h.trans ⟨rfl, rfl, rfl, by simp [World.setRow], fun k hk => setRow_other w g k cs (by omega)⟩
def stepc (c : Int) : Int := Go.bits .xor .u32 (c / 2) (3988292384 * Go.bits .and .u32 c 1 % 4294967296)
def itc : Nat → Int → Int
  | 0, c => c
  | n + 1, c => itc n (stepc c)
theorem itc_succ (n : Nat) (c : Int) : itc (n + 1) c = stepc (itc n c) := by
  induction n generalizing c with
  | zero => rfl
  | succ n ih => rw [itc, ih]; rfl
def tab (i : Nat) : Int := itc 4 i
def rowUpto (k : Nat) : Array Value := ((List.range 16).map fun i => if i < k then Value.int .u32 (tab i) else .int .u32 0).toArray
theorem rowUpto_set (k : Nat) : (rowUpto k).setIfInBounds k (.int .u32 (tab k)) = rowUpto (k + 1) := by
  apply Array.ext
  · simp [rowUpto]
  · intro i h1 h2
    simp only [rowUpto, List.getElem_toArray, List.getElem_map, List.getElem_range]
    by_cases h : k = i
    · subst h; simp
    · simp [h]
      by_cases h3 : i < k
      · simp [h3]; omega
      · simp [h3]; omega
theorem rowUpto_zero : rowUpto 0 = (List.replicate 16 (Value.int .u32 0)).toArray := by rfl
theorem rowUpto_get (k i : Nat) (h : i < 16) : ∃ x : Int, (rowUpto k)[i]? = some (.int .u32 x) := by
  by_cases h2 : i < k
  · exact ⟨tab i, by simp [rowUpto, h, h2]⟩
  · exact ⟨0, by simp [rowUpto, h, h2]⟩
set_option maxRecDepth 100000 in
theorem row_calls (w : World) : Calls Try.prog 83 #[] w fun e w' => e = .returned (.agg (rowUpto 16)) ∧ Below w.heap.size w w' := by
  go_enter Try.func83, Try.ntmps83
  go_wp2
  go_loopg [4] 16 (fun kk v4 wr => ∃ k : Nat, v4 = .int .i64 k ∧ Aside0 (k ≤ 16 ∧ kk = 16 - k) ∧ Aside0 (wr.heap[w.heap.size]? = some (.cells (rowUpto 0) 119 (0, 0)) ∧ wr.heap[w.heap.size + 1]? = some (.cells (rowUpto k) 119 (0, 0)) ∧ Below w.heap.size w wr))
  case atStart => exact ⟨0, rfl, ⟨by omega, rfl⟩, ⟨by rw [rowUpto_zero]; exact blk_alloc (blk_new w _) _, by rw [rowUpto_zero]; exact heap_alloc2_new _ _ _, below_alloc (below_alloc (Below.refl _ _) _) _⟩⟩
  case round =>
    obtain ⟨k, rfl, hk, hw⟩ := hrel
    by_cases hlt : k < 16
    · go_wp2
      go_loopg [3, 9] 4 (fun jj v3 v9 w2 => ∃ j : Nat, v9 = .int .i64 j ∧ v3 = .int .u32 (itc j k) ∧ Aside0 (j ≤ 4 ∧ jj = 4 - j) ∧ w2 = wr)
      case atStart => exact ⟨0, rfl, rfl, ⟨by omega, rfl⟩, rfl⟩
      case round =>
        obtain ⟨j, rfl, rfl, hj, rfl⟩ := hrel
        by_cases hlt4 : j < 4
        · go_wp2
          go_roundg (4 - (j + 1))
          case measure => have := hj.out; omega
          case rel => exact ⟨j + 1, by go_num, by rw [itc_succ]; rfl, ⟨by omega, rfl⟩, rfl⟩
        · obtain rfl : j = 4 := by have := hj.out; omega
          obtain ⟨h0, h1, hB⟩ := hw.out
          have hc : wr.cell? ⟨w.heap.size + 1, k, none⟩ = some (.int .u32 (Classical.choose (rowUpto_get k k hlt))) := by rw [blk_cell h1]; exact Classical.choose_spec (rowUpto_get k k hlt)
          have hf := blk_frozen h1 k
          have hT := Aside0.mk (rowUpto_set k)
          have H1 := Aside0.mk h1
          have H0 := Aside0.mk h0
          have HB := Aside0.mk hB
          clear h0 h1 hB hw
          go_wp2
          go_roundg (16 - (k + 1))
          case measure => have := hk.out; omega
          case rel =>
            refine ⟨k + 1, by go_num, ⟨by omega, rfl⟩, ⟨?_, ?_, ?_⟩⟩
            · exact blk_far H0.out (by simp) _
            · rw [blk_set H1.out]; rw [← hT.out]; rfl
            · exact HB.out.setCell (by simp) _
    · obtain rfl : k = 16 := by have := hk.out; omega
      obtain ⟨h0, h1, hB⟩ := hw.out
      clear hw
      have hs1 : (rowUpto 16).size = 16 := by simp [rowUpto]
      have hH := Aside0.mk h0
      have hBB := Aside0.mk hB
      clear h0 hB
      go_wp2_with (first | (refine wpList_load_row rfl 119 (.tmp 1) rfl (w.heap.size + 1) rfl 119 (rowUpto 16) (0, 0) _ h1 Try.underlying119 rfl (by kernel_rfl) ?_) | (refine wpList_store_row rfl 119 (.tmp 0) (.tmp 22) rfl w.heap.size (rowUpto 16) rfl rfl 119 (rowUpto 0) hH.out (by kernel_rfl) (by kernel_rfl) (by kernel_rfl) ?_))
      refine bodyPost_ret (v := .agg (rowUpto 16)) (results_cell_row rfl _ _ w.heap.size 119 (rowUpto 16) (0, 0) _ rfl ?_ Try.underlying119 rfl (by kernel_rfl)) rfl ⟨rfl, ?_⟩
      · exact setRow_heap _ _ _ _ _ _ hH.out
      · exact below_setRow hBB.out (Nat.le_refl _) _
theorem and15 (c : Int) : 0 ≤ Go.bits .and .u32 c 15 ∧ Go.bits .and .u32 c 15 < 16 := Crc.and15 c
/-- One byte's turn of the sum, as the program has it. -/
def byteStep (c x : Int) : Int :=
  let c1 := Go.bits .xor .u32 c (x % 4294967296)
  let c2 := Go.bits .xor .u32 (c1 / 16) (tab (Go.bits .and .u32 c1 15).toNat)
  Go.bits .xor .u32 (c2 / 16) (tab (Go.bits .and .u32 c2 15).toNat)
def sumc (l : List Int) : Int := l.foldl byteStep 4294967295
theorem sumc_snoc (l : List Int) (i : Nat) (h : i < l.length) : sumc (l.take (i + 1)) = byteStep (sumc (l.take i)) (rd l i) := by
  unfold sumc rd
  rw [List.take_succ_eq_append_getElem h, List.foldl_append]
  simp [List.getD_eq_getElem?_getD, List.getElem?_eq_getElem h]
theorem rowUpto_full (i : Nat) (h : i < 16) : (rowUpto 16)[i]? = some (.int .u32 (tab i)) := by simp [rowUpto, h]
def notc (c : Int) : Int := Go.bits .xor .u32 IntKind.u32.max c
set_option maxRecDepth 100000 in
theorem sum_calls (A0 : Option Addr) (c0 : Nat) (l0 : List Int) (w : World) (hr0 : Kd.C (Kd.int .u8) w A0 l0.length l0) (hc0 : l0.length ≤ c0) :
    Calls Try.prog 25 #[.slice A0 l0.length c0] w fun e w' => e = .returned (.int .u32 (notc (sumc l0))) ∧ Below w.heap.size w w' := by
  have HR := Aside0.mk hr0
  have hmax : l0.length ≤ 9223372036854775807 := hr0.2.1
  clear hr0
  go_enter Try.func25, Try.ntmps25
  go_wp2_with (first | (go_at_call 83; refine (row_calls _).mono ?_; rintro e w1 ⟨rfl, hB1⟩; have HB1 := Aside0.mk hB1; clear hB1; have hs1 : (rowUpto 16).size = 16 := by simp [rowUpto]) | (refine wpList_store_row rfl 119 (.tmp 3) (.tmp 7) rfl w1.heap.size (rowUpto 16) rfl rfl 119 _ (blk_new _ _) (by kernel_rfl) (by kernel_rfl) (by kernel_rfl) ?_))
  obtain ⟨wq, hwq⟩ : ∃ wq, wq = ((w1.alloc (Obj.cells (List.replicate 16 (Value.int .u32 0)).toArray 119)).setRow w1.heap.size (rowUpto 16)) := ⟨_, rfl⟩
  have HT := Aside0.mk (show wq.heap[w1.heap.size]? = some (.cells (rowUpto 16) 119 (0, 0)) by rw [hwq]; exact setRow_heap _ _ _ _ _ _ (blk_new _ _))
  have HBq := Aside0.mk (show Below w.heap.size w wq by rw [hwq]; exact below_setRow (below_alloc HB1.out _) HB1.out.size _)
  change Code.wp _ _ _ _ ((w1.alloc (Obj.cells (List.replicate 16 (Value.int .u32 0)).toArray 119)).setRow w1.heap.size (rowUpto 16))
  rw [← hwq]
  clear hwq
  go_loopg [4, 10] l0.length (fun kk v4 v10 wr => ∃ k : Nat, v10 = .int .i64 k ∧ v4 = .int .u32 (sumc (l0.take k)) ∧ Aside0 (k ≤ l0.length ∧ kk = l0.length - k) ∧ wr = wq)
  case atStart => exact ⟨0, rfl, rfl, ⟨Nat.zero_le _, rfl⟩, rfl⟩
  case round =>
    obtain ⟨k, rfl, rfl, hk, rfl⟩ := hrel
    by_cases hlt : k < l0.length
    · obtain ⟨ad, rfl, hcell⟩ := Kd.at_int (Kd.C_below HR.out HBq.out) k (by omega) (by omega)
      rw [Int.toNat_natCast] at hcell
      have hlo := fun c => (and15 c).1
      have hhi := fun c => (and15 c).2
      have hT : ∀ c, wr.cell? ⟨w1.heap.size, (Go.bits .and .u32 c 15).toNat, none⟩ = some (.int .u32 (tab (Go.bits .and .u32 c 15).toNat)) := by
        intro c
        rw [blk_cell HT.out]
        exact rowUpto_full _ (by have := and15 c; omega)
      go_wp2
      go_roundg (l0.length - (k + 1))
      case measure => have := hk.out; omega
      case rel => exact ⟨k + 1, by go_num, by rw [sumc_snoc _ _ hlt]; rfl, ⟨by omega, rfl⟩, rfl⟩
    · obtain rfl : k = l0.length := by have := hk.out; omega
      have hsg : IntKind.u32.signed = false := rfl
      go_wp2
      go_ret
      refine ⟨?_, HBq.out⟩
      simp only [List.take_length]
      rfl
end Go.Proofs.Ytobgijpbfmpdaaa.Mine
