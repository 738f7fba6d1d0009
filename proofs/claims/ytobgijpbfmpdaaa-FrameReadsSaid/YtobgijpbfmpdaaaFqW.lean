/- FrameReads: the walk of the law, at every list of bytes. -/
import Derived.Test.YtobgijpbfmpdaaaSpP
import Derived.Test.YtobgijpbfmpdaaaFbP
set_option linter.unusedVariables false
set_option linter.unusedSimpArgs false
namespace Go.Proofs.Ytobgijpbfmpdaaa.FqW
open Go.RowKit Go.Proofs.Ytobgijpbfmpdaaa.PFr Go.Proofs.YtobgijpbfmpdaaaW.PrintWords Go.Proofs.YtobgijpbfmpdaaaW.PrintLast Go.Proofs.YtobgijpbfmpdaaaW.PrintMore
open Go.Proofs.Ytobgijpbfmpdaaa.Crc (readP bytesOk)
open Go.Proofs.Ytobgijpbfmpdaaa.Sp (splitL)
set_option maxHeartbeats 8000000 in
set_option maxRecDepth 100000 in
theorem long (A0 : Option Addr) (c0 : Nat) (l0 : List Int) (w : World) (hr0 : Kd.C (Kd.int .u8) w A0 l0.length l0) (hc0 : l0.length ≤ c0) (hl : (l0.length : Int) > 3000) :
    Calls Try.prog 5 #[.slice A0 l0.length c0] w fun e w' => e = .returned (.bool true) ∧ Below w.heap.size w w' := by
  have hlb : decide (3000 < (l0.length : Int)) = true := decide_eq_true hl
  have hlb2 : decide (3000 < l0.length) = true := decide_eq_true (by omega)
  clear hl hr0
  go_enter Try.func5, Try.ntmps5
  go_wp2_with (first | ((with_reducible refine gate_callee (f := 21) rfl ?_); refine goesL_ (some 11) rfl rfl Try.func21 (by kernel_rfl) rfl #[] rfl (by (try simp only [List.map_toArray, List.map_cons, List.map_nil]); first | done | rfl) ?_; refine (prompterlaw06_awake.calls true _ FbP.awake_f).mono ?_; rintro e wb ⟨rfl, hb⟩; refine ⟨_, rfl, ?_⟩; have HB := Aside0.mk hb; clear hb))
  go_ret
  exact ⟨rfl, HB.out⟩
set_option maxHeartbeats 8000000 in
set_option maxRecDepth 100000 in
theorem short (A0 : Option Addr) (c0 : Nat) (l0 : List Int) (w : World) (hr0 : Kd.C (Kd.int .u8) w A0 l0.length l0) (hc0 : l0.length ≤ c0) (hl : ¬ (l0.length : Int) > 3000) (hbo : bytesOk l0 = true) :
    Calls Try.prog 5 #[.slice A0 l0.length c0] w fun e w' => e = .returned (.bool true) ∧ Below w.heap.size w w' := by
  have hlb : decide (3000 < (l0.length : Int)) = false := decide_eq_false hl
  have hlb2 : decide (3000 < l0.length) = false := decide_eq_false (by omega)
  obtain ⟨r1, r2, r3, hrP⟩ : ∃ r1 r2 r3, readP l0 = (r1, r2, r3) := ⟨_, _, _, rfl⟩
  have A1 : Aside0 (frame_Read.f l0 = some (r1, r2, r3)) := ⟨by rw [FrP.read_f l0 hbo (by omega), hrP]⟩
  have A2 : Aside0 (prompterref06_Read.f l0 = some (r1, r2, r3)) := ⟨by unfold prompterref06_Read.f; rw [if_pos ⟨hbo, by omega⟩, hrP]⟩
  obtain ⟨s1, s2, s3, hsP⟩ : ∃ s1 s2 s3, splitL l0 l0.length [] 0 = (s1, s2, s3) := ⟨_, _, _, rfl⟩
  have A3 : Aside0 (prompterref06_Split.f (l0.length + 1) l0 = some (s1, s2, s3)) := ⟨by rw [Sp.ref_split l0 hbo (by omega), hsP]⟩
  have HSp : Aside0 (∀ W : World, Kd.C (Kd.int .u8) W A0 l0.length l0 → Calls Try.prog 29 #[.slice A0 l0.length c0] W fun e w' => ∃ v0_ : Value, e = .returned (.tuple #[v0_, .int .i64 s2, .int .i64 s3]) ∧
      Kd.S (Kd.slice 5 (Kd.int .u8)) 22 w' W.heap.size (fun _ => True) v0_ s1 ∧ Below W.heap.size W w') := ⟨fun W hC => by
    have := Sp.calls A0 c0 l0 W hC hc0 hbo (by omega)
    rw [hsP] at this
    exact this⟩
  have HC := Aside0.mk hr0
  clear hl hr0 hrP hsP hbo
  go_enter Try.func5, Try.ntmps5
  go_wp2_with (first
    | ((with_reducible refine gate_callee (f := 21) rfl ?_); refine goesL_ (some 11) rfl rfl Try.func21 (by kernel_rfl) rfl #[] rfl (by (try simp only [List.map_toArray, List.map_cons, List.map_nil]); first | done | rfl) ?_; refine (prompterlaw06_awake.calls true _ FbP.awake_f).mono ?_; rintro e w1 ⟨rfl, hb⟩; refine ⟨_, rfl, ?_⟩; have HB := Aside0.mk hb; clear hb)
    | ((with_reducible refine gate_callee (f := 27) rfl ?_); refine goesL_ (some 18) rfl rfl Try.func27 (by kernel_rfl) rfl #[.slice A0 l0.length c0] rfl (by (try simp only [List.map_toArray, List.map_cons, List.map_nil]); first | done | rfl) ?_; refine (frame_Read.calls A0 c0 l0 r1 r2 r3 _ (Kd.C_below HC.out HB.out) hc0 A1.out).mono ?_; rintro e w2 ⟨v2, rfl, ho, hb⟩; refine ⟨_, rfl, ?_⟩; have n0_ := Aside0.mk ho; have n2_ := Aside0.mk (below_step HB.out hb); clear HB; have HX := n0_; have HB := n2_; clear n0_ n2_ ho hb)
    | ((with_reducible refine gate_callee (f := 28) rfl ?_); refine goesL_ (some 24) rfl rfl Try.func28 (by kernel_rfl) rfl #[.slice A0 l0.length c0] rfl (by (try simp only [List.map_toArray, List.map_cons, List.map_nil]); first | done | rfl) ?_; refine (prompterref06_Read.calls A0 c0 l0 r1 r2 r3 _ (Kd.C_below HC.out HB.out) hc0 A2.out).mono ?_; rintro e w3 ⟨v3, rfl, ho, hb⟩; refine ⟨_, rfl, ?_⟩; have n0_ := Aside0.mk (Kd.R_below HX.out hb); have n1_ := Aside0.mk ho; have n2_ := Aside0.mk (below_step HB.out hb); clear HB HX; have HX := n0_; have HY := n1_; have HB := n2_; clear n0_ n1_ n2_ ho hb; have hcv1 := own_string (P := Try.prog) Try.underlying22 Try.underlying5 Try.underlying9 (Kd.own_of_R HX.out); have hcv2 := own_string (P := Try.prog) Try.underlying22 Try.underlying5 Try.underlying9 (Kd.own_of_R HY.out))
    | ((with_reducible refine gate_callee (f := 29) rfl ?_); refine goesL_ (some 45) rfl rfl Try.func29 (by kernel_rfl) rfl #[.slice A0 l0.length c0] rfl (by (try simp only [List.map_toArray, List.map_cons, List.map_nil]); first | done | rfl) ?_; refine (HSp.out _ (Kd.C_below HC.out HB.out)).mono ?_; rintro e w4 ⟨v4, rfl, ho, hb⟩; refine ⟨_, rfl, ?_⟩; have n0_ := Aside0.mk ho; have n2_ := Aside0.mk (below_step HB.out hb); clear HB HX HY; have HX := n0_; have HB := n2_; clear n0_ n2_ ho hb)
    | ((with_reducible refine gate_callee (f := 30) rfl ?_); refine goesL_ (some 51) rfl rfl Try.func30 (by kernel_rfl) rfl #[.slice A0 l0.length c0] rfl (by (try simp only [List.map_toArray, List.map_cons, List.map_nil]); first | done | rfl) ?_; refine (prompterref06_Split.calls (l0.length + 1) A0 c0 l0 s1 s2 s3 _ (Kd.C_below HC.out HB.out) hc0 A3.out).mono ?_; rintro e w5 ⟨v5, rfl, ho, hb⟩; refine ⟨_, rfl, ?_⟩; have n0_ := Aside0.mk (Kd.S_below HX.out hb); have n1_ := Aside0.mk ho; have n2_ := Aside0.mk (below_step HB.out hb); clear HB HX; have HX := n0_; have HY := n1_; have HB := n2_; clear n0_ n1_ n2_ ho hb; obtain ⟨Ax, cx, hx⟩ := Kd.S_slice HX.out; subst hx; obtain ⟨Ay, cy, hy⟩ := Kd.S_slice HY.out; subst hy)
    | ((with_reducible refine gate_callee (f := 31) rfl ?_); refine goesL_ (some 57) rfl rfl Try.func31 (by kernel_rfl) rfl #[.slice Ax s1.length cx, .slice Ay s1.length cy] rfl (by (try simp only [List.map_toArray, List.map_cons, List.map_nil]); first | done | rfl) ?_; refine (Sp.same Ax Ay cx cy s1 _ (Kd.S_reads' HX.out).2.2 (Kd.S_reads' HY.out).2.2 (Kd.S_reads' HX.out).2.1 (Kd.S_reads' HY.out).2.1).mono ?_; rintro e w6 ⟨rfl, ⟨m, hm⟩⟩; subst hm; refine ⟨_, rfl, ?_⟩))
  go_ret
  exact ⟨rfl, pw_below_drewN HB.out _⟩
theorem walk (a0 : Option Addr) (len0 cap0 : Nat) (z0 : List Int) (w : World) (w0 : (a0 = none ∧ len0 = 0 ∧ cap0 = 0 ∧ z0 = []) ∨ ∃ x, a0 = some x ∧ len0 ≤ cap0 ∧ cap0 ≤ maxLen ∧ z0.length = cap0 ∧ (∀ i, i < z0.length → w.cell? (x.add i) = some (.int .u8 (z0.getD i 0))) ∧ ∀ n ∈ z0, (Lit.int .u8 n).wf = true) (y0 : len0 * 1 ≤ 140737488351232) :
    Calls Try.prog 5 #[.slice a0 len0 cap0] w fun e w' => e = .returned (.bool true) ∧ Below w.heap.size w w' := by
  obtain ⟨l0, rfl, hr0, hm0, hw0, hc0⟩ := ReadsInt.ofRowC w0
  have hC := Kd.C_of_reads (d := (0 : Int)) (h1 := fun _ => rfl) hr0
  have hbo : bytesOk l0 = true := Crc.bytesOk_of fun x hx => by
    have h := hw0 x hx
    simp [Lit.wf, IntKind.min, IntKind.max, IntKind.bits, IntKind.signed] at h
    omega
  by_cases hl : (l0.length : Int) > 3000
  · exact long _ _ l0 w hC hc0 hl
  · exact short _ _ l0 w hC hc0 hl hbo
end Go.Proofs.Ytobgijpbfmpdaaa.FqW
