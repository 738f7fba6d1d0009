/- The reference's Split in plain words, and its Same on equal lists. -/
import Derived.Test.YtobgijpbfmpdaaaSp
set_option linter.unusedVariables false
set_option linter.unusedSimpArgs false
namespace Go.Proofs.Ytobgijpbfmpdaaa.Sp
open Go.RowKit Go.Proofs.Ytobgijpbfmpdaaa.PFr Go.Proofs.YtobgijpbfmpdaaaW.PrintWords Go.Proofs.YtobgijpbfmpdaaaW.PrintLast Go.Proofs.YtobgijpbfmpdaaaW.PrintMore
open Go.Proofs.Ytobgijpbfmpdaaa.Crc (readP bytesOk)
theorem ref_l0 (b : List Int) (hb : bytesOk b = true) (hm : b.length ≤ 1000000) : ∀ (k : Nat) (l : List (List Int)) (n : Int), 0 ≤ n → n ≤ b.length → (l.length : Int) ≤ n → b.length - n.toNat ≤ k →
    prompterref06_Split.l0 (k + 1) b l n = some (splitL b k l n) := by
  intro k
  induction k with
  | zero =>
    intro l n h0 h1 hl h2
    rw [prompterref06_Split.l0, if_neg (by omega), splitL]
  | succ k ih =>
    intro l n h0 h1 hl h2
    by_cases hn : n < (b.length : Int)
    · rw [prompterref06_Split.l0, if_pos hn, if_pos h0, if_pos h1, splitL, if_pos hn]
      have hR : prompterref06_Read.f (b.drop n.toNat) = some (readP (b.drop n.toNat)) := by
        unfold prompterref06_Read.f
        rw [if_pos ⟨Crc.bytesOk_drop hb _, by rw [List.length_drop]; omega⟩]
      rw [hR, Option.bind_some]
      by_cases hz : (readP (b.drop n.toNat)).2.2 = 0
      · have h3 := read_ok hz (Crc.bytesOk_drop hb _)
        rw [List.length_drop] at h3
        rw [if_pos hz, if_pos hz, if_pos (by omega)]
        rw [show wrap64 (n + (readP (b.drop n.toNat)).2.1) = n + (readP (b.drop n.toNat)).2.1 from Mine.wrap64_in (by omega) (by omega)]
        exact ih _ _ (by omega) (by omega) (by rw [List.length_append, List.length_cons, List.length_nil]; omega) (by omega)
      · rw [if_neg hz, if_neg hz]
    · rw [prompterref06_Split.l0, if_neg hn, splitL, if_neg hn]
theorem ref_split (b : List Int) (hb : bytesOk b = true) (hm : b.length ≤ 1000000) : prompterref06_Split.f (b.length + 1) b = some (splitL b b.length [] 0) :=
  ref_l0 b hb hm _ _ _ (Int.le_refl _) (by omega) (Int.le_refl _) (by omega)
set_option maxHeartbeats 8000000 in
set_option maxRecDepth 100000 in
/-- Two lists that hold the same. -/
theorem same (A B : Option Addr) (ca cb : Nat) (xs : List (List Int)) (w : World) (hA : Kd.C (Kd.slice 5 (Kd.int .u8)) w A xs.length xs) (hB : Kd.C (Kd.slice 5 (Kd.int .u8)) w B xs.length xs) (hca : xs.length ≤ ca) (hcb : xs.length ≤ cb) :
    Calls Try.prog 31 #[.slice A xs.length ca, .slice B xs.length cb] w fun e w' => e = .returned (.bool true) ∧ ∃ m, w' = w.drewN m := by
  have HA := Aside0.mk hA
  have HB := Aside0.mk hB
  have hmx : xs.length ≤ 9223372036854775807 := hA.2.1
  clear hA hB
  go_enter Try.func31, Try.ntmps31
  go_wp2
  go_loopg [5] xs.length (fun kk v5 wr => ∃ k : Nat, v5 = .int .i64 k ∧ Aside0 (k ≤ xs.length ∧ kk = xs.length - k) ∧ Aside0 (∃ m, wr = w.drewN m))
  case atStart => exact ⟨0, rfl, ⟨Nat.zero_le _, rfl⟩, ⟨0, rfl⟩⟩
  case round =>
    obtain ⟨k, rfl, hk, hw⟩ := hrel
    by_cases hlt : k < xs.length
    · obtain ⟨adA, csA, eA, _, hKA, hcA⟩ := Kd.C_get HA.out [] (k : Int) (by omega) (by omega)
      obtain ⟨adB, csB, eB, _, hKB, hcB⟩ := Kd.C_get HB.out [] (k : Int) (by omega) (by omega)
      rw [Int.toNat_natCast] at hKA hcA hKB hcB
      obtain ⟨x, hx⟩ : ∃ x, x = xs.getD k [] := ⟨_, rfl⟩
      rw [← hx] at hKA hKB
      obtain ⟨A1, c1, e1, hl1, hC1⟩ := hKA
      obtain ⟨A2, c2, e2, hl2, hC2⟩ := hKB
      subst e1 e2 eA eB
      have cA := hcA 0 _ rfl
      have cB := hcB 0 _ rfl
      have hsz : (Kd.slice 5 (Kd.int .u8)).sz = 1 := rfl
      rw [hsz, Nat.mul_one, Nat.add_zero] at cA cB
      have vA := fun j => Kd.C_string (P := Try.prog) Try.underlying22 Try.underlying5 Try.underlying9 (c := c1) (Kd.C_drewN hC1 j)
      have vB := fun j => Kd.C_string (P := Try.prog) Try.underlying22 Try.underlying5 Try.underlying9 (c := c2) (Kd.C_drewN hC2 j)
      clear hcA hcB hC1 hC2 hx hsz
      obtain ⟨m, rfl⟩ := hw.out
      have hltb : decide ((k : Int) < (xs.length : Int)) = true := decide_eq_true (by omega)
      go_wp2_with (first | (go_quiet (fail)))
      go_roundg (xs.length - (k + 1))
      case measure => have := hk.out; omega
      case rel => exact ⟨k + 1, by go_num, ⟨by omega, rfl⟩, ⟨_, rfl⟩⟩
    · obtain rfl : k = xs.length := by have := hk.out; omega
      go_wp2
      go_ret
      exact ⟨rfl, hw.out⟩
end Go.Proofs.Ytobgijpbfmpdaaa.Sp
