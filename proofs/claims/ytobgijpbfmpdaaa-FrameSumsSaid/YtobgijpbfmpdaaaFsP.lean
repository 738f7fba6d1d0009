/- FrameSums: the reference's functions in plain words, and the walk of the law for every list of bytes. -/
import Derived.Test.YtobgijpbfmpdaaaFsW
import Derived.Test.YtobgijpbfmpdaaaFrP
import Derived.Test.YtobgijpbfmpdaaaFbP
set_option linter.unusedVariables false
set_option linter.unusedSimpArgs false
namespace Go.Proofs.Ytobgijpbfmpdaaa.FsP
open Go.RowKit Go.Proofs.Ytobgijpbfmpdaaa.PFr Go.Proofs.YtobgijpbfmpdaaaW.PrintWords
open Go.Proofs.Ytobgijpbfmpdaaa.Crc (crc crc_lo crc_hi le4 frameF)
theorem up {α : Type} {f : Nat → Option α} (hm : ∀ k, LeO (f k) (f (k + 1))) {k m : Nat} (h : k ≤ m) {r : α} (hr : f k = some r) : f m = some r := by
  induction m with
  | zero => obtain rfl : k = 0 := by omega
            exact hr
  | succ m ih =>
    rcases Nat.lt_or_ge k (m + 1) with h1 | h1
    · exact hm m r (ih (by omega))
    · obtain rfl : k = m + 1 := by omega
      exact hr
theorem sum_up (l : List Int) (hl : l.length ≤ 140737488355328) {k : Nat} (hk : 10 * l.length + 1 ≤ k) : prompterref06_Sum.f k l = some (crc l) :=
  up (f := fun k => prompterref06_Sum.f k l) (fun k => prompterref06_Sum.mono l k) hk (sum_crc l hl)
theorem four_le4 (n : Int) (h0 : 0 ≤ n) (h1 : n < 4294967296) : prompterref06_four.f 5 n = some (le4 n) := by
  have e : ∀ x : Int, 0 ≤ x → Int.tdiv x 256 = x / 256 := fun x hx => Int.tdiv_eq_ediv_of_nonneg hx
  have m : ∀ x : Int, 0 ≤ x → Int.tmod x 256 = x % 256 := fun x hx => Int.tmod_eq_emod_of_nonneg hx
  unfold prompterref06_four.f
  have w1 : wrap64 ((0 : Int) + 1) = 1 := by decide +kernel
  have w2 : wrap64 ((1 : Int) + 1) = 2 := by decide +kernel
  have w3 : wrap64 ((2 : Int) + 1) = 3 := by decide +kernel
  have w4 : wrap64 ((3 : Int) + 1) = 4 := by decide +kernel
  have d1 : (n / 256) % 4294967296 = n / 256 := by omega
  have d2 : (n / 256 / 256) % 4294967296 = n / 256 / 256 := by omega
  have d3 : (n / 256 / 256 / 256) % 4294967296 = n / 256 / 256 / 256 := by omega
  rw [prompterref06_four.l0, if_pos (by omega), if_pos (by simp), e n h0, d1, w1, prompterref06_four.l0, if_pos (by omega), if_pos (by simp), e _ (by omega), d2, w2,
    prompterref06_four.l0, if_pos (by omega), if_pos (by simp), e _ (by omega), d3, w3, prompterref06_four.l0, if_pos (by omega), if_pos (by simp), w4, prompterref06_four.l0, if_neg (by omega),
    m _ h0, m _ (by omega), m _ (by omega), m _ (by omega)]
  have q1 : n % 256 % 256 = n % 256 := by omega
  have q2 : n / 256 % 256 % 256 = n / 256 % 256 := by omega
  have q3 : n / 256 / 256 % 256 % 256 = n / 65536 % 256 := by omega
  have q4 : n / 256 / 256 / 256 % 256 % 256 = n / 16777216 % 256 := by omega
  rw [q1, q2, q3, q4]
  rfl
theorem four_up (n : Int) (h0 : 0 ≤ n) (h1 : n < 4294967296) {k : Nat} (hk : 5 ≤ k) : prompterref06_four.f k n = some (le4 n) :=
  up (f := fun k => prompterref06_four.f k n) (fun k => prompterref06_four.mono n k) hk (four_le4 n h0 h1)
theorem ref_frame (l : List Int) (hl : l.length ≤ 65536) {k : Nat} (hk : 10 * l.length + 41 ≤ k) : prompterref06_Frame.f k l = some (frameF l) := by
  have h4 : ∀ n : Int, (le4 n).length = 4 := fun n => rfl
  unfold prompterref06_Frame.f
  rw [Int.emod_eq_of_lt (by omega) (by omega), four_up _ (by omega) (by omega) (by omega), Option.bind_some, sum_up _ (by rw [h4]; omega) (by rw [h4]; omega), Option.bind_some,
    four_up _ (crc_lo _) (crc_hi _) (by omega), Option.bind_some, if_pos (by rw [h4, h4]; omega), Option.bind_some, if_pos (by rw [List.length_append, h4, h4]; omega), Option.bind_some,
    sum_up _ (by omega) (by omega), Option.bind_some, four_up _ (crc_lo _) (crc_hi _) (by omega), Option.bind_some, if_pos (by rw [List.length_append, List.length_append, h4, h4, h4]; omega)]
  rfl
theorem walk (a0 : Option Addr) (len0 cap0 : Nat) (z0 : List Int) (w : World) (w0 : (a0 = none ∧ len0 = 0 ∧ cap0 = 0 ∧ z0 = []) ∨ ∃ x, a0 = some x ∧ len0 ≤ cap0 ∧ cap0 ≤ maxLen ∧ z0.length = cap0 ∧ (∀ i, i < z0.length → w.cell? (x.add i) = some (.int .u8 (z0.getD i 0))) ∧ ∀ n ∈ z0, (Lit.int .u8 n).wf = true) (y0 : len0 * 1 ≤ 140737488351232) :
    Calls Try.prog 3 #[.slice a0 len0 cap0] w fun e w' => e = .returned (.bool true) ∧ Below w.heap.size w w' := by
  obtain ⟨l0, rfl, hr0, hm0, hw0, hc0⟩ := ReadsInt.ofRowC w0
  have hC := Kd.C_of_reads (d := (0 : Int)) (h1 := fun _ => rfl) hr0
  by_cases hl : prompterlaw06_long.f l0 = some true
  · exact prompterlaw06_FrameSums.long 0 _ _ l0 w hC hc0 FbP.awake_f hl
  · have hl2 : prompterlaw06_long.f l0 = some false := by
      revert hl
      unfold prompterlaw06_long.f
      repeat' split
      all_goals simp
    by_cases hb : (l0.length : Int) > 65536
    · exact prompterlaw06_FrameSums.big 0 _ _ l0 w hC hc0 FbP.awake_f hl2 [] 2 (FrP.frame_long l0 hb) hb rfl rfl
    · exact prompterlaw06_FrameSums.ok (10 * l0.length + 41) _ _ l0 w hC hc0 FbP.awake_f hl2 (frameF l0) 0 (FrP.frame_f l0 (by omega)) hb rfl (frameF l0) (ref_frame l0 (by omega) (by omega)) rfl (crc l0) (crc l0) (FrP.sum_f l0) (sum_up l0 (by omega) (by omega)) rfl
end Go.Proofs.Ytobgijpbfmpdaaa.FsP
