/- The small tree; CheckBound: the walk. -/
import Derived.Test.YtobgijpbfmpdaaaSb
set_option linter.unusedVariables false
set_option linter.unusedSimpArgs false
set_option maxRecDepth 100000
namespace Go.Proofs.Ytobgijpbfmpdaaa.Ck
open Go.RowKit Go.Proofs.YtobgijpbfmpdaaaW.PrintWords Go.Proofs.YtobgijpbfmpdaaaW.PrintLast Go.Proofs.YtobgijpbfmpdaaaW.PrintMore
open Go.Proofs.Ytobgijpbfmpdaaa.Fm Go.Proofs.Ytobgijpbfmpdaaa.Mp Go.Proofs.Ytobgijpbfmpdaaa.PCk Go.Proofs.Ytobgijpbfmpdaaa.Tb
set_option maxHeartbeats 16000000
theorem t0_post {W W' : World} {e : Ending} (h : SlotsPost (flat t0) W e W') : ∃ v, e = .returned (.tuple #[v, .int .i64 0, .int .i64 0]) ∧ (Kd.int .i64).R 3 W' W.heap.size (fun _ => True) v [-1, 0, -1, 1, 0] ∧ Below W.heap.size W W' := by
  obtain ⟨hb, h⟩ := h
  rcases h with ⟨h, _⟩ | ⟨_, Tn, h1, h2, h3, h4⟩
  · exact absurd t0_check h
  · have e1 := one_tree h2 t0_right h1.symm
    subst e1
    rcases h4 with ⟨h, _⟩ | ⟨_, h, _⟩ | ⟨_, _, v, he, hR⟩
    · exact absurd rfl h
    · exact absurd t0_slots.1 h
    · rw [t0_slots.2] at hR
      exact ⟨v, he, hR, hb⟩
theorem ints_t0 : prompterlaw11_ints.f 6 [-1, 0, -1, 1, 0] [-1, 0, -1, 1, 0] = some true := by decide +kernel
theorem wakes_c (W : World) : Calls Try.prog 37 #[] W fun e W' => e = .returned (.bool true) ∧ Below W.heap.size W W' := by
  obtain ⟨l, hl⟩ : ∃ l, l = flat t0 := ⟨_, rfl⟩
  have HF := Aside0.mk (show prompterlaw11_small.f = some l by rw [hl]; exact t0_small)
  have HO := Aside0.mk (show ∀ x ∈ l, TwOk x by rw [hl]; exact t0_ok)
  have HP := Aside0.mk (show ∀ W e W', SlotsPost l W e W' → ∃ v, e = .returned (.tuple #[v, .int .i64 0, .int .i64 0]) ∧ (Kd.int .i64).R 3 W' W.heap.size (fun _ => True) v [-1, 0, -1, 1, 0] ∧ Below W.heap.size W W' by rw [hl]; exact fun _ _ _ h => t0_post h)
  clear hl
  go_enter Try.func37, Try.ntmps37
  go_wp2_with (first
    | ((with_reducible refine gate_callee (f := 87) rfl ?_); refine goesL_ (some 5) rfl rfl Try.func87 (by kernel_rfl) rfl #[] rfl (by (try simp only [List.map_toArray, List.map_cons, List.map_nil]); first | done | rfl) ?_; refine (prompterlaw11_small.calls l _ HF.out).mono ?_; rintro e w1 ⟨v1, he, hR, hb⟩; subst he; refine ⟨_, rfl, ?_⟩; obtain ⟨A1, c1, e1⟩ := Kd.R_slice hR; subst e1; have HC1 := Aside0.mk (Kd.R_reads' hR).2.2; have HB1 := Aside0.mk hb; clear hR hb)
    | ((with_reducible refine gate_callee (f := 38) rfl ?_); refine goesL_ (some 6) rfl rfl Try.func38 (by kernel_rfl) rfl #[.slice A1 l.length c1] rfl (by (try simp only [List.map_toArray, List.map_cons, List.map_nil]); first | done | rfl) ?_; refine (slots_c l A1 c1 _ HC1.out HO.out).mono ?_; rintro e w2 hp; obtain ⟨v2, he, hR2, hb2⟩ := HP.out _ _ _ hp; subst he; refine ⟨_, rfl, ?_⟩; obtain ⟨A2, c2, e2⟩ := Kd.R_slice hR2; have e3 : v2 = .slice A2 5 c2 := e2; clear e2; subst e3; have HC2 := Aside0.mk (Kd.R_reads' hR2); have HB2 := Aside0.mk (below_step HB1.out hb2); clear hR2 hb2 hp)
    | ((with_reducible refine gate_callee (f := 40) rfl ?_); (try (refine gate_guard (by rfl) ?_; dsimp only)); refine goesL_ (some 15) rfl rfl Try.func40 (by kernel_rfl) rfl #[.slice A2 5 c2, .slice (some ⟨w2.heap.size, 0, none⟩) 5 5] rfl (by (try simp only [List.map_toArray, List.map_cons, List.map_nil]); first | done | rfl) ?_; refine (prompterlaw11_ints.calls 6 A2 c2 [-1, 0, -1, 1, 0] (some ⟨w2.heap.size, 0, none⟩) 5 [-1, 0, -1, 1, 0] true _ (Kd.C_below HC2.out.2.2 (below_alloc (Below.refl _ _) _)) HC2.out.2.1 (Kd.R_reads' (Kd.R_of_own (enc := Value.int .i64) (h1 := fun _ => rfl) (base := 0) (ok := fun _ => True) (xs := [-1, 0, -1, 1, 0]) (World.ownsRow_lit (e := 3) (size := 1) w2 #[.int .i64 (-1), .int .i64 0, .int .i64 (-1), .int .i64 1, .int .i64 0] 5 (Nat.zero_le _) (by decide) rfl) (fun _ _ => trivial))).2.2 (Nat.le_refl _) ints_t0).mono ?_; rintro e w3 ⟨he, hd⟩; subst he; refine ⟨_, rfl, ?_⟩; have HB3 := Aside0.mk (below_step (below_step HB2.out (below_alloc (Below.refl _ _) (.cells #[.int .i64 (-1), .int .i64 0, .int .i64 (-1), .int .i64 1, .int .i64 0] 3))) hd.below); clear hd)
    | fail)
  go_ret
  exact ⟨rfl, HB3.out⟩
end Go.Proofs.Ytobgijpbfmpdaaa.Ck
