/- DiskLasts: what is computed. -/
import Derived.Test.YtobgijpbfmpdaaaNb
import Derived.Test.YtobgijpbfmpdaaaPDpx1
set_option linter.unusedVariables false
set_option maxRecDepth 100000
namespace Go.Proofs.Ytobgijpbfmpdaaa.Ls
open Go.RowKit Go.Proofs.YtobgijpbfmpdaaaW.PrintWords Go.Proofs.YtobgijpbfmpdaaaW.PrintLast Go.Proofs.YtobgijpbfmpdaaaW.PrintMore
open Go.Proofs.Ytobgijpbfmpdaaa.Fm Go.Proofs.Ytobgijpbfmpdaaa.Mp Go.Proofs.Ytobgijpbfmpdaaa.Dk Go.Proofs.Ytobgijpbfmpdaaa.PDp
/-- How many bytes the steps append. -/
def tot : List S93 → Nat
  | [] => 0
  | x :: r => x.f3.length + tot r
theorem tot_app (a b : List S93) : tot (a ++ b) = tot a + tot b := by
  induction a with
  | nil => simp [tot]
  | cons x r ih => simp only [List.cons_append, tot, ih]; omega
theorem rd_at (xs : List S93) (i : Nat) (h : i < xs.length) : rd_T93 xs (i : Int) = xs[i] := by
  unfold rd_T93
  rw [Int.toNat_natCast, List.getD_eq_getElem?_getD, List.getElem?_eq_getElem h]; rfl
theorem long_some : ∀ (n : Nat) (xs : List S93) (i : Nat) (m : Int), 80 - i ≤ n → ∃ r, prompterlaw25_long.l0 (2 * n + 2) xs m i = some r := by
  intro n
  induction n with
  | zero =>
    intro xs i m h
    rw [show 2 * 0 + 2 = 1 + 1 from rfl]
    have h8 : ¬ (i : Int) < 80 := by omega
    simp only [prompterlaw25_long.l0, prompterlaw25_long.j1, h8, decide_false, Bool.false_eq_true, if_false]
    split <;> exact ⟨_, rfl⟩
  | succ n ih =>
    intro xs i m h
    obtain ⟨K, hK⟩ : ∃ K, K = 2 * n + 2 := ⟨_, rfl⟩
    rw [show 2 * (n + 1) + 2 = (K + 1) + 1 from by omega]
    simp only [prompterlaw25_long.l0, prompterlaw25_long.j1]
    by_cases h1 : (i : Int) < xs.length
    · rw [if_pos h1]
      by_cases h2 : (i : Int) < 80
      · rw [decide_eq_true h2, if_pos rfl, if_pos (by omega), if_pos h1]
        split
        · exact ⟨_, rfl⟩
        split
        · exact ⟨_, rfl⟩
        split
        · exact ⟨_, rfl⟩
        rw [show wrap64 ((i : Int) + 1) = ((i + 1 : Nat) : Int) from by rw [Mine.wrap64_in (by omega) (by omega)]; omega]
        rw [hK]
        exact ih xs (i + 1) _ (by omega)
      · rw [decide_eq_false h2]; exact ⟨_, rfl⟩
    · rw [if_neg h1]; exact ⟨_, rfl⟩
theorem long_tot : ∀ (k : Nat) (xs : List S93) (i : Nat) (m : Int), m ≤ 5000 → prompterlaw25_long.l0 k xs m i = some false → xs.length ≤ 80 ∧ (i ≤ xs.length → 0 ≤ m → (tot (xs.drop i) : Int) ≤ m) := by
  intro k
  induction k using Nat.strongRecOn with
  | _ k ih =>
    intro xs i m hm h
    match k, ih, h with
    | 0, _, h => simp [prompterlaw25_long.l0] at h
    | 1, _, h => simp [prompterlaw25_long.l0, prompterlaw25_long.j1] at h
    | k + 2, ih, h =>
      simp only [prompterlaw25_long.l0, prompterlaw25_long.j1] at h
      by_cases h1 : (i : Int) < xs.length
      · rw [if_pos h1] at h
        by_cases h2 : (i : Int) < 80
        · rw [decide_eq_true h2, if_pos rfl, if_pos (by omega), if_pos h1] at h
          have hil : i < xs.length := by omega
          rw [rd_at xs i hil] at h
          split at h
          · cases h
          rename_i h3
          split at h
          · cases h
          split at h
          · cases h
          rw [show wrap64 ((i : Int) + 1) = ((i + 1 : Nat) : Int) from by rw [Mine.wrap64_in (by omega) (by omega)]; omega] at h
          by_cases hm0 : 0 ≤ m
          · rw [Mine.wrap64_in (by omega) (by omega)] at h
            have h4 := ih k (by omega) xs (i + 1) _ (by omega) h
            refine ⟨h4.1, fun _ hm0 => ?_⟩
            have h5 := h4.2 (by omega) (by omega)
            rw [List.drop_eq_getElem_cons hil]
            simp only [tot]
            omega
          · exfalso; omega
        · rw [decide_eq_false h2] at h
          simp at h
          exfalso; omega
      · rw [if_neg h1] at h
        simp at h
        refine ⟨by omega, fun hi hm0 => ?_⟩
        rw [List.drop_eq_nil_of_le (by omega)]
        exact hm0
theorem long_f (xs : List S93) : ∃ r, prompterlaw25_long.f 162 xs = some r ∧ (r = false → tot xs ≤ 5000) := by
  obtain ⟨r, h⟩ := long_some 80 xs 0 5000 (by omega)
  refine ⟨r, h, fun hr => ?_⟩
  subst hr
  have := (long_tot _ xs 0 5000 (by omega) h).2 (by omega) (by omega)
  rw [List.drop_zero] at this
  omega
/-- One step: the file's bytes, and how many of them last. -/
def lastN (s : Cont) (x : S93) : Nat := s.2 + keptN x.f5 0 (s.1 ++ x.f3, s.2)
def stp (s : Cont) (x : S93) : Cont :=
  if x.f0 % 3 = 1 then (s.1 ++ x.f3, (s.1 ++ x.f3).length) else if x.f0 % 3 = 2 then ((s.1 ++ x.f3).take (lastN s x), lastN s x) else (s.1 ++ x.f3, s.2)
def run (xs : List S93) : Cont := xs.foldl stp ([], 0)
theorem keptN_le (keep : List Int) (i : Nat) (c : Cont) : keptN keep i c ≤ c.1.length - c.2 := by
  unfold keptN
  split
  · omega
  · omega
theorem lastN_le (s : Cont) (x : S93) (h : s.2 ≤ s.1.length) : lastN s x ≤ (s.1 ++ x.f3).length := by
  have h1 := keptN_le x.f5 0 (s.1 ++ x.f3, s.2)
  unfold lastN
  simp only [List.length_append] at h1 ⊢
  omega
theorem stp_le (s : Cont) (x : S93) (h : s.2 ≤ s.1.length) : (stp s x).2 ≤ (stp s x).1.length ∧ (stp s x).1.length ≤ s.1.length + x.f3.length := by
  unfold stp
  have h2 := lastN_le s x h
  split
  · simp
  split
  · simp only [List.length_take, List.length_append] at h2 ⊢; omega
  · simp only [List.length_append]; omega
theorem run_snoc (xs : List S93) (x : S93) : run (xs ++ [x]) = stp (run xs) x := by unfold run; rw [List.foldl_append]; rfl
theorem run_le : ∀ xs : List S93, (run xs).2 ≤ (run xs).1.length ∧ (run xs).1.length ≤ tot xs := by
  have h : ∀ (xs : List S93) (s : Cont), s.2 ≤ s.1.length → (xs.foldl stp s).2 ≤ (xs.foldl stp s).1.length ∧ (xs.foldl stp s).1.length ≤ s.1.length + tot xs := by
    intro xs
    induction xs with
    | nil => intro s h; exact ⟨h, Nat.le_refl _⟩
    | cons x r ih =>
      intro s h
      rw [List.foldl_cons]
      have h1 := stp_le s x h
      have h2 := ih _ h1.1
      refine ⟨h2.1, ?_⟩
      simp only [tot]
      omega
  intro xs
  have := h xs ([], 0) (Nat.le_refl _)
  unfold run
  simpa using this
theorem run_take (xs : List S93) (i : Nat) (h : i < xs.length) : run (xs.take (i + 1)) = stp (run (xs.take i)) xs[i] := by
  rw [List.take_succ_eq_append_getElem h, run_snoc]
theorem tot_take (xs : List S93) (i : Nat) : tot (xs.take i) ≤ tot xs := by
  have := tot_app (xs.take i) (xs.drop i)
  rw [List.take_append_drop] at this
  omega
theorem tot_step (xs : List S93) (i : Nat) (h : i < xs.length) : tot (xs.take i) + xs[i].f3.length ≤ tot xs := by
  have h1 := tot_take xs (i + 1)
  rw [List.take_succ_eq_append_getElem h, tot_app] at h1
  simpa [tot] using h1
/-! ### One file on a disk -/
theorem app_one (c : Cont) (x : List Int) : appR false (-1) [([102], c)] [102] x = (false, -1, [([102], (c.1 ++ x, c.2))], 0) := rfl
theorem app_none : appR false (-1) [] [102] [] = (false, -1, [([102], ([], 0))], 0) := rfl
theorem cur_one (c : Cont) : cur [([102], c)] [102] = c := rfl
theorem sync_one (c : Cont) : askR false (-1) [([102], c)] (put [([102], c)] [102] (c.1, c.1.length)) [102] = (false, -1, [([102], (c.1, c.1.length))], 0) := rfl
theorem read_one (c : Cont) : readR false [([102], c)] [102] = (c.1, 0) := rfl
theorem crash_one (keep : List Int) (c : Cont) (h : c.2 ≤ c.1.length) : crashF keep [([102], c)] = [([102], (c.1.take (c.2 + keptN keep 0 c), c.2 + keptN keep 0 c))] := by
  obtain ⟨al, k⟩ := c
  dsimp only at h
  show (crStep keep ([], 0) ([102], (al, k))).1 = _
  unfold crStep
  by_cases hk : k = al.length
  · subst hk
    have h0 := keptN_le keep 0 (al, al.length)
    rw [if_pos rfl]
    have h1 : keptN keep 0 (al, al.length) = 0 := by simp only [Nat.sub_self] at h0; omega
    rw [h1]
    simp
  · rw [if_neg hk]; rfl
/-- What is read begins with what lasts. -/
theorem begins (A : Option Addr) (c : Nat) (al : List Int) (B : Option Addr) (d : Nat) (m : List Int) (k : Nat) (hm : m = al.take k) (W : World) (hA : Kd.C (Kd.int .u8) W A al.length al) (hc : al.length ≤ c) (hB : Kd.C (Kd.int .u8) W B m.length m) :
    Calls Try.prog 66 #[.slice A al.length c, .slice B m.length d] W fun e W' => e = .returned (.bool true) ∧ Drawn0 W W' := by
  have hl : m.length ≤ al.length := by rw [hm, List.length_take]; omega
  have c3b0 : decide ((m.length : Int) ≤ (al.length : Int)) = true := decide_eq_true (by omega)
  have c3b1 : decide (m.length ≤ al.length) = true := decide_eq_true hl
  have c4b0 : (0 : Int) ≤ (m.length : Int) := by omega
  have c4b1 : (m.length : Int) ≤ (al.length : Int) := by omega
  obtain ⟨m', hm', hcut, hCm, hmc, hml⟩ := Mine.cut_take A c al (m.length : Int) (by omega) (by omega) hc
  have hme : m' = m := by rw [hm', Int.toNat_natCast, hm, List.length_take, List.take_eq_take_iff]; omega
  have hCm' := hCm W hA
  rw [hme] at hcut hCm'
  have hcv8 := fun n : Nat => Kd.C_string (w := W.drewN n) (P := Try.prog) (A := A) (c := c) Try.underlying22 Try.underlying5 Try.underlying9 (Kd.C_drewN hCm' n)
  have hcv9 := fun n : Nat => Kd.C_string (w := W.drewN n) (P := Try.prog) (A := B) (c := d) Try.underlying22 Try.underlying5 Try.underlying9 (Kd.C_drewN hB n)
  clear hm hm' hme hCm hmc hml hCm' hA hB
  go_enter Try.func66, Try.ntmps66
  go_wp2
  repeat (go_quiet (fail); try go_wp2)
  go_ret
  exact ⟨by first | rfl | (simp; done) | (simp [*]; done), by repeat (first | exact Drawn0.refl _ | apply Drawn0.step)⟩
end Go.Proofs.Ytobgijpbfmpdaaa.Ls
