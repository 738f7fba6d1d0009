/- FrameKnown: the closed statement of layer 6 answers true. -/
import Derived.Test.YtobgijpbfmpdaaaFbP
import Derived.Test.YtobgijpbfmpdaaaRd
set_option linter.unusedVariables false
set_option linter.unusedSimpArgs false
namespace Go.Proofs.Ytobgijpbfmpdaaa.KnW
open Go.RowKit Go.Proofs.Ytobgijpbfmpdaaa.PFr Go.Proofs.YtobgijpbfmpdaaaW.PrintWords Go.Proofs.YtobgijpbfmpdaaaW.PrintLast Go.Proofs.YtobgijpbfmpdaaaW.PrintMore
attribute [local go_sem] max2_int min2_int max_two min_two max_three min_three max_four min_four
theorem strEmpty : (strOfNums (Crc.frameF [])).toList = [0, 0, 0, 0, 28, 223, 68, 33, 0, 0, 0, 0] := by decide +kernel
theorem strA : (strOfNums (Crc.frameF [97])).toList = [1, 0, 0, 0, 121, 184, 248, 153, 97, 67, 190, 183, 232] := by decide +kernel
theorem crc9 : Crc.crc [49, 50, 51, 52, 53, 54, 55, 56, 57] = 3421780262 := by decide +kernel
theorem read12 : frame_Read.f (List.replicate 12 0) = some ([], 4, 8) := by rw [FrP.read_f _ (by decide) (by decide)]; decide +kernel
set_option maxHeartbeats 8000000 in
set_option maxRecDepth 100000 in
theorem walk (w : World) : Calls Try.prog 6 #[] w fun e w' => e = .returned (.bool true) ∧ Below w.heap.size w w' := by
  have HB := Aside0.mk (Below.refl w.heap.size w)
  have hF0 : frame_Frame.f [] = some (Crc.frameF [], 0) := FrP.frame_f [] (by decide)
  have hF1 : frame_Frame.f [97] = some (Crc.frameF [97], 0) := FrP.frame_f [97] (by decide)
  have hE0 := strEmpty
  have hE1 := strA
  obtain ⟨F0, hF0e⟩ : ∃ F0, F0 = Crc.frameF [] := ⟨_, rfl⟩
  obtain ⟨F1, hF1e⟩ : ∃ F1, F1 = Crc.frameF [97] := ⟨_, rfl⟩
  rw [← hF0e] at hF0 hE0
  rw [← hF1e] at hF1 hE1
  have A0 := Aside0.mk hF0
  have A1 := Aside0.mk hF1
  have sE0 : ((strOfNums F0).toList == [0, 0, 0, 0, 28, 223, 68, 33, 0, 0, 0, 0]) = true := beq_iff_eq.mpr hE0
  have sE1 : ((strOfNums F1).toList == [1, 0, 0, 0, 121, 184, 248, 153, 97, 67, 190, 183, 232]) = true := beq_iff_eq.mpr hE1
  clear hF0 hF1 hE0 hE1 hF0e hF1e
  obtain ⟨Z2, hZ2⟩ : ∃ Z2, Z2 = List.replicate (65536 : Int).toNat (0 : Int) := ⟨_, rfl⟩
  have hZ2l : Z2.length = 65536 := by rw [hZ2, List.length_replicate]; rfl
  have hF2 : frame_Frame.f Z2 = some (Crc.frameF Z2, 0) := FrP.frame_f Z2 (by omega)
  have hF2l : (Crc.frameF Z2).length = 65548 := by rw [Crc.frameF_length, hZ2l]
  obtain ⟨F2, hF2e⟩ : ∃ F2, F2 = Crc.frameF Z2 := ⟨_, rfl⟩
  rw [← hF2e] at hF2 hF2l
  have A2 := Aside0.mk hF2
  have N2 := Aside0.mk hZ2
  have N2l := Aside0.mk hF2l
  have sF2 : ((F2.length : Int) == 65548) = true := beq_iff_eq.mpr (by omega)
  clear hF2 hZ2 hF2l hF2e hZ2l
  obtain ⟨Z3, hZ3⟩ : ∃ Z3, Z3 = List.replicate (65537 : Int).toNat (0 : Int) := ⟨_, rfl⟩
  have hZ3l : Z3.length = 65537 := by rw [hZ3, List.length_replicate]; rfl
  have hF3 : frame_Frame.f Z3 = some ([], 2) := FrP.frame_long Z3 (by omega)
  have A3 := Aside0.mk hF3
  have N3 := Aside0.mk hZ3
  clear hF3 hZ3 hZ3l
  obtain ⟨Z4, hZ4⟩ : ∃ Z4, Z4 = List.replicate (12 : Int).toNat (0 : Int) := ⟨_, rfl⟩
  have hF4 : frame_Read.f Z4 = some ([], 4, 8) := by rw [hZ4]; exact read12
  have A4 := Aside0.mk hF4
  have N4 := Aside0.mk hZ4
  clear hF4 hZ4
  have AS : Aside0 (frame_Sum.f [49, 50, 51, 52, 53, 54, 55, 56, 57] = some 3421780262) := ⟨by rw [FrP.sum_f, crc9]⟩
  have kc := fun (W : World) (C : Array Value) (n c : Nat) => Lib.run_convert_bytes_const (P := Try.prog) W 22 5 C n c Try.underlying22 Try.underlying5
  go_enter Try.func6, Try.ntmps6
  go_wp2_with (first
    | ((with_reducible refine gate_callee (f := 23) rfl ?_); refine goesL_ (some 19) rfl rfl Try.func23 (by kernel_rfl) rfl #[.slice none 0 0] rfl (by (try simp only [List.map_toArray, List.map_cons, List.map_nil]); first | done | rfl) ?_; refine (frame_Frame.calls none 0 [] F0 0 _ (Kd.R_reads' (Kd.R_nil (Kd.int .u8) 5 _ 0 (fun _ => True))).2.2 (Nat.le_refl _) A0.out).mono ?_; rintro e w1 ⟨v1, rfl, ho, hb⟩; refine ⟨_, rfl, ?_⟩; have n0_ := Aside0.mk (Kd.R_lower ho (below_size HB.out)); have n1_ := Aside0.mk (below_step HB.out hb); clear HB; have HN := n0_; have HB := n1_; clear n0_ n1_ ho hb)
    | ((with_reducible refine gate_callee (f := 23) rfl ?_); refine goesL_ (some 25) rfl rfl Try.func23 (by kernel_rfl) rfl #[.slice (some ⟨w1.heap.size, 0, none⟩) 1 1] rfl (by (try simp only [List.map_toArray, List.map_cons, List.map_nil]); first | done | rfl) ?_; refine (frame_Frame.calls (some ⟨w1.heap.size, 0, none⟩) 1 [97] F1 0 _ (Mine.C_const w1 [97] _ _ (by decide) rfl) (Nat.le_refl _) A1.out).mono ?_; rintro e w3 ⟨v3, rfl, ho, hb⟩; refine ⟨_, rfl, ?_⟩; have n0_ := Aside0.mk (Kd.R_below (Kd.R_alloc HN.out _) hb); have n1_ := Aside0.mk (Kd.R_lower ho (below_size (below_alloc HB.out _))); have n2_ := Aside0.mk (below_step (below_alloc HB.out _) hb); clear HB HN; have HN := n0_; have HA := n1_; have HB := n2_; clear n0_ n1_ n2_ ho hb)
    | ((with_reducible refine gate_dst (N := 29) rfl ?_); refine Kd.R_make (Kd.int .u8) (w0 := _) _ 5 rfl (N := 29) rfl 22 _ _ rfl 65536 rfl rfl Try.underlying22 (.int .u8 0) 1 Mine.info_u8 rfl (by decide) (by decide) 0 (ok := fun _ => True) (okp := fun _ => True) rfl (fun _ _ => trivial) trivial (by decide) (by decide) (Below.refl _ _) (Nat.le_refl _) ?_; intro v4 w4 ho hb hg_ hnew_; clear hg_ hnew_; rw [← N2.out] at ho; have n0_ := Aside0.mk (Kd.R_below HN.out hb); have n1_ := Aside0.mk (Kd.R_below HA.out hb); have n3_ := Aside0.mk ho; have n2_ := Aside0.mk (below_step HB.out hb); clear HB HN HA; have HN := n0_; have HA := n1_; have HB := n2_; have HL := n3_; clear n0_ n1_ n2_ n3_ ho hb; obtain ⟨Ao4, co4, eo4⟩ := Kd.R_slice HL.out; subst eo4)
    | ((with_reducible refine gate_callee (f := 23) rfl ?_); refine goesL_ (some 30) rfl rfl Try.func23 (by kernel_rfl) rfl #[.slice Ao4 Z2.length co4] rfl (by (try simp only [List.map_toArray, List.map_cons, List.map_nil]); first | done | rfl) ?_; refine (frame_Frame.calls Ao4 co4 Z2 F2 0 _ (Kd.R_reads' HL.out).2.2 (Kd.R_reads' HL.out).2.1 A2.out).mono ?_; rintro e w5 ⟨v5, rfl, ho, hb⟩; refine ⟨_, rfl, ?_⟩; obtain ⟨Ao5, co5, eo5⟩ := Kd.R_slice ho; subst eo5; have n0_ := Aside0.mk (Kd.R_below HN.out hb); have n1_ := Aside0.mk (Kd.R_below HA.out hb); have n2_ := Aside0.mk (below_step HB.out hb); clear HB HN HL HA; have HN := n0_; have HA := n1_; have HB := n2_; clear n0_ n1_ n2_ ho hb)
    | ((with_reducible refine gate_dst (N := 34) rfl ?_); refine Kd.R_make (Kd.int .u8) (w0 := _) _ 5 rfl (N := 34) rfl 22 _ _ rfl 65537 rfl rfl Try.underlying22 (.int .u8 0) 1 Mine.info_u8 rfl (by decide) (by decide) 0 (ok := fun _ => True) (okp := fun _ => True) rfl (fun _ _ => trivial) trivial (by decide) (by decide) (Below.refl _ _) (Nat.le_refl _) ?_; intro v6 w6 ho hb hg_ hnew_; clear hg_ hnew_; rw [← N3.out] at ho; have n0_ := Aside0.mk (Kd.R_below HN.out hb); have n1_ := Aside0.mk (Kd.R_below HA.out hb); have n3_ := Aside0.mk ho; have n2_ := Aside0.mk (below_step HB.out hb); clear HB HN HA; have HN := n0_; have HA := n1_; have HB := n2_; have HL := n3_; clear n0_ n1_ n2_ n3_ ho hb; obtain ⟨Ao6, co6, eo6⟩ := Kd.R_slice HL.out; subst eo6)
    | ((with_reducible refine gate_callee (f := 23) rfl ?_); refine goesL_ (some 35) rfl rfl Try.func23 (by kernel_rfl) rfl #[.slice Ao6 Z3.length co6] rfl (by (try simp only [List.map_toArray, List.map_cons, List.map_nil]); first | done | rfl) ?_; refine (frame_Frame.calls Ao6 co6 Z3 [] 2 _ (Kd.R_reads' HL.out).2.2 (Kd.R_reads' HL.out).2.1 A3.out).mono ?_; rintro e w7 ⟨v7, rfl, ho, hb⟩; refine ⟨_, rfl, ?_⟩; have n0_ := Aside0.mk (Kd.R_below HN.out hb); have n1_ := Aside0.mk (Kd.R_below HA.out hb); have n2_ := Aside0.mk (below_step HB.out hb); clear HB HN HL HA; have HN := n0_; have HA := n1_; have HB := n2_; clear n0_ n1_ n2_ ho hb)
    | ((with_reducible refine gate_dst (N := 39) rfl ?_); refine Kd.R_make (Kd.int .u8) (w0 := _) _ 5 rfl (N := 39) rfl 22 _ _ rfl 12 rfl rfl Try.underlying22 (.int .u8 0) 1 Mine.info_u8 rfl (by decide) (by decide) 0 (ok := fun _ => True) (okp := fun _ => True) rfl (fun _ _ => trivial) trivial (by decide) (by decide) (Below.refl _ _) (Nat.le_refl _) ?_; intro v8 w8 ho hb hg_ hnew_; clear hg_ hnew_; rw [← N4.out] at ho; have n0_ := Aside0.mk (Kd.R_below HN.out hb); have n1_ := Aside0.mk (Kd.R_below HA.out hb); have n3_ := Aside0.mk ho; have n2_ := Aside0.mk (below_step HB.out hb); clear HB HN HA; have HN := n0_; have HA := n1_; have HB := n2_; have HL := n3_; clear n0_ n1_ n2_ n3_ ho hb; obtain ⟨Ao8, co8, eo8⟩ := Kd.R_slice HL.out; subst eo8)
    | ((with_reducible refine gate_callee (f := 27) rfl ?_); refine goesL_ (some 40) rfl rfl Try.func27 (by kernel_rfl) rfl #[.slice Ao8 Z4.length co8] rfl (by (try simp only [List.map_toArray, List.map_cons, List.map_nil]); first | done | rfl) ?_; refine (frame_Read.calls Ao8 co8 Z4 [] 4 8 _ (Kd.R_reads' HL.out).2.2 (Kd.R_reads' HL.out).2.1 A4.out).mono ?_; rintro e w9 ⟨v9, rfl, ho, hb⟩; refine ⟨_, rfl, ?_⟩; have n0_ := Aside0.mk (Kd.R_below HN.out hb); have n1_ := Aside0.mk (Kd.R_below HA.out hb); have n2_ := Aside0.mk (below_step HB.out hb); clear HB HN HL HA; have HN := n0_; have HA := n1_; have HB := n2_; clear n0_ n1_ n2_ ho hb)
    | ((with_reducible refine gate_callee (f := 32) rfl ?_); refine goesL_ (some 47) rfl rfl Try.func32 (by kernel_rfl) rfl #[.pointer none, v3] rfl (by (try simp only [List.map_toArray, List.map_cons, List.map_nil]); first | done | rfl) ?_; refine (Mine.feed_none v3 _).mono ?_; rintro e wa ⟨rfl, hw⟩; subst hw; refine ⟨_, rfl, ?_⟩)
    | ((with_reducible refine gate_callee (f := 32) rfl ?_); refine goesL_ (some 55) rfl rfl Try.func32 (by kernel_rfl) rfl #[.pointer (some ⟨wa.heap.size, 0, none⟩), v3] rfl (by (try simp only [List.map_toArray, List.map_cons, List.map_nil]); first | done | rfl) ?_; refine (Mine.feed_zero v3 _ wa.heap.size (Mine.zero_cell wa _ _ _ _ rfl)).mono ?_; rintro e wz ⟨rfl, hw⟩; subst hw; refine ⟨_, rfl, ?_⟩)
    | ((with_reducible refine gate_callee (f := 33) rfl ?_); (try (refine gate_guard (by rfl) ?_; dsimp only)); refine goesL_ (some 90) rfl rfl Try.func33 (by kernel_rfl) rfl #[.pointer none] rfl (by (try simp only [List.map_toArray, List.map_cons, List.map_nil]); first | done | rfl) ?_; refine (Mine.left_none _).mono ?_; rintro e wz ⟨rfl, hw⟩; subst hw; refine ⟨_, rfl, ?_⟩)
    | ((with_reducible refine gate_callee (f := 34) rfl ?_); (try (refine gate_guard (by rfl) ?_; dsimp only)); refine goesL_ (some 95) rfl rfl Try.func34 (by kernel_rfl) rfl #[.pointer (some ⟨wa.heap.size, 0, none⟩)] rfl (by (try simp only [List.map_toArray, List.map_cons, List.map_nil]); first | done | rfl) ?_; refine (Mine.taken_zero _ wa.heap.size 0 (Mine.zero_cell wa _ _ _ _ rfl)).mono ?_; rintro e wz ⟨rfl, hw⟩; subst hw; refine ⟨_, rfl, ?_⟩)
    | ((with_reducible refine gate_callee (f := 34) rfl ?_); (try (refine gate_guard (by rfl) ?_; dsimp only)); refine goesL_ (some 100) rfl rfl Try.func34 (by kernel_rfl) rfl #[.pointer none] rfl (by (try simp only [List.map_toArray, List.map_cons, List.map_nil]); first | done | rfl) ?_; refine (Mine.taken_none _).mono ?_; rintro e wz ⟨rfl, hw⟩; subst hw; refine ⟨_, rfl, ?_⟩)
    | ((with_reducible refine gate_callee (f := 33) rfl ?_); (try (refine gate_guard (by rfl) ?_; dsimp only)); refine goesL_ (some 105) rfl rfl Try.func33 (by kernel_rfl) rfl #[.pointer (some ⟨wa.heap.size, 0, none⟩)] rfl (by (try simp only [List.map_toArray, List.map_cons, List.map_nil]); first | done | rfl) ?_; refine (Mine.left_zero _ wa.heap.size 0 0 none (Mine.zero_cell wa _ _ _ _ rfl)).mono ?_; rintro e wz ⟨rfl, hw⟩; subst hw; refine ⟨_, rfl, ?_⟩)
    | ((with_reducible refine gate_callee (f := 21) rfl ?_); refine goesL_ (some 108) rfl rfl Try.func21 (by kernel_rfl) rfl #[] rfl (by (try simp only [List.map_toArray, List.map_cons, List.map_nil]); first | done | rfl) ?_; refine (prompterlaw06_awake.calls true _ FbP.awake_f).mono ?_; rintro e wb ⟨rfl, hb⟩; refine ⟨_, rfl, ?_⟩; have n0_ := Aside0.mk (Kd.R_below (Kd.R_alloc HN.out _) hb); have n1_ := Aside0.mk (Kd.R_below (Kd.R_alloc HA.out _) hb); have n2_ := Aside0.mk (below_step (below_alloc HB.out _) hb); clear HB HN HA; have HN := n0_; have HA := n1_; have HB := n2_; clear n0_ n1_ n2_ hb; have hcv1 := own_string (P := Try.prog) Try.underlying22 Try.underlying5 Try.underlying9 (Kd.own_of_R HN.out); have hcv3 := own_string (P := Try.prog) Try.underlying22 Try.underlying5 Try.underlying9 (Kd.own_of_R HA.out))
    | ((with_reducible refine gate_callee (f := 25) rfl ?_); (try (refine gate_guard (by rfl) ?_; dsimp only)); refine goesL_ (some 122) rfl rfl Try.func25 (by kernel_rfl) rfl #[.slice (some ⟨wb.heap.size, 0, none⟩) 9 9] rfl (by (try simp only [List.map_toArray, List.map_cons, List.map_nil]); first | done | rfl) ?_; refine (frame_Sum.calls (some ⟨wb.heap.size, 0, none⟩) 9 [49, 50, 51, 52, 53, 54, 55, 56, 57] 3421780262 _ (Mine.C_const wb [49, 50, 51, 52, 53, 54, 55, 56, 57] _ _ (by decide) rfl) (Nat.le_refl _) AS.out).mono ?_; rintro e wc ⟨rfl, hb⟩; refine ⟨_, rfl, ?_⟩; have n2_ := Aside0.mk (below_step (below_alloc HB.out _) hb); clear HB; have HB := n2_; clear n2_ hb)
    )
  go_ret
  exact ⟨rfl, HB.out⟩
end Go.Proofs.Ytobgijpbfmpdaaa.KnW
