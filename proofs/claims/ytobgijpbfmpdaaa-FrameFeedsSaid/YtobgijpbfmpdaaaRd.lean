/- Walks of a frame.Reader's methods at no reader and at one that nobody made. -/
import Derived.Test.YtobgijpbfmpdaaaMb
import Derived.Lib.SlBytesConst
set_option linter.unusedVariables false
set_option linter.unusedSimpArgs false
namespace Go.Proofs.Ytobgijpbfmpdaaa.Mine
open Go.RowKit Go.Proofs.YtobgijpbfmpdaaaW.PrintWords
set_option maxHeartbeats 4000000
theorem feed_none (v : Value) (w : World) : Calls Try.prog 32 #[.pointer none, v] w fun e w' => e = .returned (.tuple #[.slice none 0 0, .int .i64 1]) ∧ w' = w := by
  go_enter Try.func32, Try.ntmps32
  go_wp2
  go_ret2
  exact ⟨rfl, rfl⟩
theorem left_none (w : World) : Calls Try.prog 33 #[.pointer none] w fun e w' => e = .returned (.int .i64 0) ∧ w' = w := by
  go_enter Try.func33, Try.ntmps33
  go_wp2
  go_ret
  exact ⟨rfl, rfl⟩
theorem taken_none (w : World) : Calls Try.prog 34 #[.pointer none] w fun e w' => e = .returned (.int .i64 0) ∧ w' = w := by
  go_enter Try.func34, Try.ntmps34
  go_wp2
  go_ret
  exact ⟨rfl, rfl⟩
theorem feed_zero (v : Value) (w : World) (b : Nat) (h : w.cell? ⟨b, 0, none⟩ = some (.bool false)) : Calls Try.prog 32 #[.pointer (some ⟨b, 0, none⟩), v] w fun e w' => e = .returned (.tuple #[.slice none 0 0, .int .i64 1]) ∧ w' = w := by
  go_enter Try.func32, Try.ntmps32
  go_wp2
  go_ret2
  exact ⟨rfl, rfl⟩
theorem left_zero (w : World) (b : Nat) (n c : Nat) (a : Option Addr) (h : w.cell? ⟨b, 1, none⟩ = some (.slice a n c)) : Calls Try.prog 33 #[.pointer (some ⟨b, 0, none⟩)] w fun e w' => e = .returned (.int .i64 n) ∧ w' = w := by
  go_enter Try.func33, Try.ntmps33
  go_wp2
  go_ret
  exact ⟨rfl, rfl⟩
theorem taken_zero (w : World) (b : Nat) (n : Int) (h : w.cell? ⟨b, 2, none⟩ = some (.int .i64 n)) : Calls Try.prog 34 #[.pointer (some ⟨b, 0, none⟩)] w fun e w' => e = .returned (.int .i64 n) ∧ w' = w := by
  go_enter Try.func34, Try.ntmps34
  go_wp2
  go_ret
  exact ⟨rfl, rfl⟩
theorem zero_cell (W : World) (cs : Array Value) (t i : Nat) (v : Value) (h : cs[i]? = some v) : (W.alloc (.cells cs t)).cell? ⟨W.heap.size, i, none⟩ = some v := by
  have h2 : (W.alloc (.cells cs t)).heap[W.heap.size]? = some (.cells cs t) := by
    show (W.heap.push _)[W.heap.size]? = _
    simp
  unfold World.cell?
  simp only [h2]
  simpa using h
/-- The bytes of a constant string, as a row with the run-time's mark. -/
theorem C_const (W : World) (xs : List Int) (f : Nat × Nat) (cs : Array Value) (hn : xs.length ≤ 9223372036854775807) (hcs : cs = (xs.map (Value.int .u8)).toArray) :
    Kd.C (Kd.int .u8) (W.alloc (.cells cs 5 f)) (some ⟨W.heap.size, 0, none⟩) xs.length xs := by
  subst hcs
  refine Kd.C_of_reads (d := (0 : Int)) (h1 := fun _ => rfl) ⟨rfl, hn, fun _ => ⟨_, rfl, fun j hj => ?_⟩⟩
  have h1 : (⟨W.heap.size, 0, none⟩ : Addr).add j = ⟨W.heap.size, j, none⟩ := by unfold Addr.add; split <;> simp_all
  rw [h1]
  have h2 : (W.alloc (.cells (xs.map (Value.int .u8)).toArray 5 f)).heap[W.heap.size]? = some (.cells (xs.map (Value.int .u8)).toArray 5 f) := by
    show (W.heap.push _)[W.heap.size]? = _
    simp
  unfold World.cell?
  simp only [h2]
  simp [List.getD_eq_getElem?_getD, List.getElem?_eq_getElem hj]
end Go.Proofs.Ytobgijpbfmpdaaa.Mine
