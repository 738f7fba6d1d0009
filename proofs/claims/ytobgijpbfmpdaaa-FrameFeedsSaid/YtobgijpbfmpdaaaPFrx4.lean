/- Laid by a program of this session (xprint.py, over the words of the print): functions of the program as plain functions, and the walks that show it. -/
import Derived.Test.YtobgijpbfmpdaaaPFrx0
import Derived.Test.YtobgijpbfmpdaaaPFrx1
import Derived.Test.YtobgijpbfmpdaaaPFrx3
namespace Go.Proofs.Ytobgijpbfmpdaaa.PFr
open Go.RowKit Go.Proofs.YtobgijpbfmpdaaaW.PrintWords Go.Proofs.YtobgijpbfmpdaaaW.PrintLast Go.Proofs.YtobgijpbfmpdaaaW.PrintMore
attribute [local go_sem] max2_int min2_int max_two min_two max_three min_three max_four min_four   -- for this text's walks alone
set_option linter.unusedVariables false
set_option linter.unusedSimpArgs false

/-! ### prompterref06_Split: function 30 -/
def prompterref06_Split.l0 : Nat → List Int → List (List Int) → Int → Option ((List (List Int)) × Int × Int)
  | 0, _, _, _ => none
  | k + 1, x0, x5, x6 => if x6 < (x0.length : Int) then (if 0 ≤ x6 then (if x6 ≤ (x0.length : Int) then ((prompterref06_Read.f (x0.drop (x6 : Int).toNat)).bind fun bt182 => (if bt182.2.2 = 0 then (if x5.length < 5864062014805 then (prompterref06_Split.l0 k x0 (x5 ++ [bt182.1]) (wrap64 (x6 + bt182.2.1))) else (none)) else (some (x5, x6, bt182.2.2)))) else (none)) else (none)) else (some (x5, x6, 0))
def prompterref06_Split.f (k : Nat) (l0 : List Int) : Option ((List (List Int)) × Int × Int) := prompterref06_Split.l0 k l0 ([] : List (List Int)) 0
theorem prompterref06_Split.mono_l : ∀ k, (∀ y0 y1 y2, LeO (prompterref06_Split.l0 k y0 y1 y2) (prompterref06_Split.l0 (k + 1) y0 y1 y2))
  | 0 => fun _ _ _ r h => by simp [prompterref06_Split.l0] at h
  | k + 1 => by
    have ih0 := prompterref06_Split.mono_l k
    · intro y0 y1 y2
      unfold prompterref06_Split.l0
      repeat' first
      | (with_reducible exact ih0 _ _ _)
      | (with_reducible exact LeO.refl _)
      | (with_reducible exact LeO.none _)
      | (with_reducible refine LeO.ite ?_ ?_)
      | (with_reducible refine LeO.bind ?_ (fun _ => ?_))
      | exact ih0 _ _ _
      | exact LeO.none _
      | refine LeO.ite ?_ ?_
      | refine LeO.bind ?_ (fun _ => ?_)
theorem prompterref06_Split.mono : ∀ a0 k, LeO (prompterref06_Split.f k a0) (prompterref06_Split.f (k + 1) a0) := by
  intro a0 k
  have ih0 := prompterref06_Split.mono_l k
  unfold prompterref06_Split.f
  repeat' first
      | (with_reducible exact ih0 _ _ _)
      | (with_reducible exact LeO.refl _)
      | (with_reducible exact LeO.none _)
      | (with_reducible refine LeO.ite ?_ ?_)
      | (with_reducible refine LeO.bind ?_ (fun _ => ?_))
      | exact ih0 _ _ _
      | exact LeO.none _
      | refine LeO.ite ?_ ?_
      | refine LeO.bind ?_ (fun _ => ?_)
set_option maxHeartbeats 8000000 in
set_option maxRecDepth 100000 in
theorem prompterref06_Split.calls (k : Nat) (A0 : Option Addr) (c0 : Nat) (l0 : List Int) (r1 : List (List Int)) (r2 : Int) (r3 : Int) (w : World) (hr0 : Kd.C (Kd.int .u8) w A0 l0.length l0) (hc0 : l0.length ≤ c0) (h : prompterref06_Split.f k l0 = some (r1, r2, r3)) :
    Calls Try.prog 30 #[.slice A0 l0.length c0] w fun e w' => ∃ v0_ : Value, e = .returned (.tuple #[v0_, .int .i64 r2, .int .i64 r3]) ∧ Kd.S (Kd.slice 5 (Kd.int .u8)) 22 w' w.heap.size (fun _ => True) v0_ r1 ∧ Below w.heap.size w w' := by
  have HR0 := Aside0.mk hr0
  have HC0 := Aside0.mk hc0
  clear hr0 hc0
  have HB := Aside0.mk (Below.refl w.heap.size w)
  have H : (prompterref06_Split.l0 k l0 ([] : List (List Int)) 0) = some (r1, r2, r3) := h
  clear h
  have H' := Aside0.mk H
  clear H
  go_enter Try.func30, Try.ntmps30
  go_wp2
  go_loopg [5, 6] k (fun kq v5 v6 w' => ∃ (x5_1 : List (List Int)) (x6_1 : Int), v6 = .int .i64 x6_1 ∧ Aside0 (prompterref06_Split.l0 kq l0 x5_1 x6_1 = some (r1, r2, r3)) ∧ Aside0 (kq ≤ k) ∧ Aside0 (Kd.S (Kd.slice 5 (Kd.int .u8)) 22 w' w.heap.size (fun _ => True) v5 x5_1) ∧ Aside0 (Below w.heap.size w w'))
  case atStart => exact ⟨(([] : List (List Int))), (0), (by first | rfl | (simp; done) | (simp [*]; done)), H', ⟨Nat.le_refl _⟩, ⟨by first | exact Kd.S_nil _ _ _ _ _ | exact Kd.N_nil _ _ _ _ _ | exact Kd.V_nil _ _ _ _ _ | exact Kd.Q_nil _ _ _ _ _ | exact Kd.R_nil _ _ _ _ _⟩, ⟨by repeat (first | (with_reducible first | exact HB.out | apply below_alloc | apply pw_below_drewN | apply below_drew1) | exact HB.out | exact Below.refl _ _)⟩⟩
  case round =>
    clear H'
    obtain ⟨x5_1, x6_1, rfl, HA, HK1, HO_5, HB⟩ := hrel
    cases gk with
    | zero => exact absurd HA.out (by simp [prompterref06_Split.l0])
    | succ k1 =>
      have H := HA.out
      clear HA
      simp only [prompterref06_Split.l0] at H
      by_cases c2 : x6_1 < (l0.length : Int)
      · rw [if_pos c2] at H
        have c2b0 : decide (x6_1 < (l0.length : Int)) = true := decide_eq_true c2
        clear c2
        by_cases c3 : 0 ≤ x6_1
        · rw [if_pos c3] at H
          have c3b0 := eq_true c3
          have c3b1 : decide (0 ≤ x6_1) = true := decide_eq_true c3
          clear c3
          by_cases c4 : x6_1 ≤ (l0.length : Int)
          · rw [if_pos c4] at H
            have c4b0 := eq_true c4
            have c4b1 : decide (x6_1 ≤ (l0.length : Int)) = true := decide_eq_true c4
            clear c4
            replace H := Option.bind_eq_some_iff.mp H
            obtain ⟨⟨t182, t183, t184⟩, A50, H⟩ := H
            replace H : (if t184 = 0 then (if x5_1.length < 5864062014805 then (prompterref06_Split.l0 k1 l0 (x5_1 ++ [t182]) (wrap64 (x6_1 + t183))) else (none)) else (some (x5_1, x6_1, t184))) = some (r1, r2, r3) := H
            have A5 := Aside0.mk A50
            clear A50
            by_cases c6 : t184 = 0
            · rw [if_pos c6] at H
              have c6b0 : (t184 == 0) = true := beq_iff_eq.mpr c6
              have c6b1 : (t184 != 0) = false := bne_eq_false_iff_eq.mpr c6
              clear c6
              by_cases c7 : x5_1.length < 5864062014805
              · rw [if_pos c7] at H
                have LMc7 := Aside0.mk c7
                clear c7
                obtain ⟨y187, hy187⟩ : ∃ y_ : List (List Int), y_ = (x5_1 ++ [t182]) := ⟨_, rfl⟩
                replace H : (prompterref06_Split.l0 k1 l0 y187 (wrap64 (x6_1 + t183))) = some (r1, r2, r3) := by first | (rw [hy187]; with_reducible exact H) | (have H2_ := (Option.bind_some _ _).symm.trans H; rw [hy187]; with_reducible exact H2_) | (have H2_ := (Option.bind_some _ _).symm.trans H; with_reducible exact H2_) | with_reducible exact H | (rw [hy187]; exact H) | exact H
                have Ny187 := Aside0.mk hy187
                clear hy187
                have H' := Aside0.mk H
                clear H
                obtain ⟨i08, hi08, _, hsz8, _⟩ := info_parts info5
                obtain ⟨A8, hcut8, hA8, hC8⟩ := print_drop_of (P := Try.prog) (Value.int .u8) 0 22 5 .i64 Try.underlying22 hi08 hsz8 A0 c0 l0 x6_1 (of_decide_eq_true (by first | (with_reducible assumption) | assumption)) (of_decide_eq_true (by first | (with_reducible assumption) | assumption)) HC0.out
                have HR181 := Aside0.mk (Kd.C_of_reads (h1 := fun _ => rfl) (hA8 _ (Kd.reads_of_C HR0.out)))
                have HC181 := Aside0.mk hC8
                clear hA8 hC8 hi08 hsz8
                go_wp2_with (first | ((with_reducible refine gate_callee (f := 28) rfl ?_); refine goesL_ (some 18) rfl rfl Try.func28 (by kernel_rfl) rfl #[.slice A8 (l0.drop (x6_1 : Int).toNat).length (c0 - x6_1.toNat)] rfl (by (try simp only [List.map_toArray, List.map_cons, List.map_nil]); first | done | (rw [show (l0.drop (x6_1 : Int).toNat).length = (l0.length - x6_1.toNat) from List.length_drop] <;> rfl) | rfl | (simp only [List.length_drop, List.length_take]; rfl)) ?_; (with_reducible refine (prompterref06_Read.calls _ _ (l0.drop (x6_1 : Int).toNat) t182 t183 t184 _ ?side1 ?side2 A5.out).mono ?_); (case side1 => repeat (first | exact (Kd.C_below HR181.out HB.out) | exact HR181.out | (with_reducible refine Kd.C_alloc ?_ _) | (with_reducible refine Kd.C_drewN ?_ _) | (with_reducible refine Kd.C_drew ?_))); (case side2 => exact HC181.out); rintro e w9 ⟨v185, rfl, ho0, hb⟩; refine ⟨_, rfl, ?_⟩; have n0_ := Aside0.mk (Kd.S_elder' (by (with_reducible repeat (first | apply Kd.S_alloc | apply Kd.S_drewN | apply Kd.S_drew)); exact HO_5.out) (Kd.R_base ho0) hb); have n1_ := Aside0.mk (Kd.R_lower ho0 (below_size (by repeat (first | (with_reducible first | exact HB.out | apply below_alloc | apply pw_below_drewN | apply below_drew1) | exact HB.out | exact Below.refl _ _)))); have n2_ := Aside0.mk (below_step (by repeat (first | (with_reducible first | exact HB.out | apply below_alloc | apply pw_below_drewN | apply below_drew1) | exact HB.out | exact Below.refl _ _)) hb); clear HO_5; clear HB; have HO_5 := n0_; have HO186 := n1_; have HB := n2_; clear n0_ n1_ n2_; (try clear hb); (try clear hb2); (try clear hk); (try clear hi); (try clear ho0); obtain ⟨Ao11, co11, eo11⟩ := Kd.R_slice HO186.out; subst eo11) | ((with_reducible refine gate_builtin (b := .append) (xs := #[.tmp 27, .tmp 29]) rfl ?_); at_builtin; refine Kd.S_append (Kd.slice 5 (Kd.int .u8)) (w0 := w) w.heap.size rfl (.tmp 27) (.tmp 29) 35 22 (.slice none 0 0) 24 rfl Try.underlying35 info22 rfl (by decide) (by omega) u5 x5_1 t182 [.slice Ao11 t182.length co11] (fun _ => True) (fun k_ => some k_ = (.slice Ao11 t182.length co11 : Value).ownBlock) rfl rfl ?aP (fun k_ hk_ => ((Kd.R_mono (ok' := fun k_ => ((fun _ => True)) k_ ∧ some k_ ≠ (u5 : Value).ownBlock) (Kd.R_apart' (HO186.out) (Kd.S_typed HO_5.out) (by decide)) (fun k_ hk => ⟨trivial, hk.2⟩))).1 k_ hk_.symm) ?aF ?aO ?aB ?aS ?aL ?_; (case aP => exact Kd.M_row (Kd.R_mono (Kd.R_tight rfl (Kd.R_mono (ok' := fun k_ => ((fun _ => True)) k_ ∧ some k_ ≠ (u5 : Value).ownBlock) (Kd.R_apart' (HO186.out) (Kd.S_typed HO_5.out) (by decide)) (fun k_ hk => ⟨trivial, hk.2⟩))) (fun _ h_ => h_))); (case aB => exact (by repeat (first | (with_reducible first | exact HB.out | apply below_alloc | apply pw_below_drewN | apply below_drew1) | exact HB.out | exact Below.refl _ _))); (case aF => exact (fun _ _ => trivial)); (case aO => exact (by (with_reducible repeat (first | apply Kd.S_alloc | apply Kd.S_drewN | apply Kd.S_drew)); exact Kd.S_mono HO_5.out (fun k_ hk => ⟨trivial, fun e_ => hk.2 e_⟩))); (case aS => exact (below_size (by repeat (first | (with_reducible first | exact HB.out | apply below_alloc | apply pw_below_drewN | apply below_drew1) | exact HB.out | exact Below.refl _ _)))); (case aL => have := LMc7.out; omega); intro v188 w10 ho hb hg hat; rw [← Ny187.out] at ho; have n0_ := Aside0.mk (hb); have n1_ := Aside0.mk (ho); clear HB; clear HO_5; clear HO186; have HB := n0_; have HO189 := n1_; clear n0_ n1_; clear ho hb hg hat))
                go_roundg k1
                case measure => have := HK1.out; omega
                case rel => exact ⟨(y187), (wrap64 (x6_1 + t183)), (by first | rfl | (simp; done) | (simp [*]; done)), H', ⟨by have := HK1.out; omega⟩, ⟨by (with_reducible repeat (first | apply Kd.S_alloc | apply Kd.S_drewN | apply Kd.S_drew)); exact HO189.out⟩, ⟨by repeat (first | (with_reducible first | exact HB.out | apply below_alloc | apply pw_below_drewN | apply below_drew1) | exact HB.out | exact Below.refl _ _)⟩⟩
              · rw [if_neg c7] at H
                exact absurd H (by simp)
            · rw [if_neg c6] at H
              have c6b0 : (t184 == 0) = false := beq_eq_false_iff_ne.mpr c6
              have c6b1 : (t184 != 0) = true := bne_iff_ne.mpr c6
              simp only [Option.some.injEq, Prod.mk.injEq] at H
              obtain ⟨rfl, rfl, rfl⟩ := H
              obtain ⟨i012, hi012, _, hsz12, _⟩ := info_parts info5
              obtain ⟨A12, hcut12, hA12, hC12⟩ := print_drop_of (P := Try.prog) (Value.int .u8) 0 22 5 .i64 Try.underlying22 hi012 hsz12 A0 c0 l0 x6_1 (of_decide_eq_true (by first | (with_reducible assumption) | assumption)) (of_decide_eq_true (by first | (with_reducible assumption) | assumption)) HC0.out
              have HR181 := Aside0.mk (Kd.C_of_reads (h1 := fun _ => rfl) (hA12 _ (Kd.reads_of_C HR0.out)))
              have HC181 := Aside0.mk hC12
              clear hA12 hC12 hi012 hsz12
              go_wp2_with (first | ((with_reducible refine gate_callee (f := 28) rfl ?_); refine goesL_ (some 18) rfl rfl Try.func28 (by kernel_rfl) rfl #[.slice A12 (l0.drop (x6_1 : Int).toNat).length (c0 - x6_1.toNat)] rfl (by (try simp only [List.map_toArray, List.map_cons, List.map_nil]); first | done | (rw [show (l0.drop (x6_1 : Int).toNat).length = (l0.length - x6_1.toNat) from List.length_drop] <;> rfl) | rfl | (simp only [List.length_drop, List.length_take]; rfl)) ?_; (with_reducible refine (prompterref06_Read.calls _ _ (l0.drop (x6_1 : Int).toNat) t182 t183 t184 _ ?side1 ?side2 A5.out).mono ?_); (case side1 => repeat (first | exact (Kd.C_below HR181.out HB.out) | exact HR181.out | (with_reducible refine Kd.C_alloc ?_ _) | (with_reducible refine Kd.C_drewN ?_ _) | (with_reducible refine Kd.C_drew ?_))); (case side2 => exact HC181.out); rintro e w13 ⟨v185, rfl, ho0, hb⟩; refine ⟨_, rfl, ?_⟩; have n0_ := Aside0.mk (Kd.S_elder' (by (with_reducible repeat (first | apply Kd.S_alloc | apply Kd.S_drewN | apply Kd.S_drew)); exact HO_5.out) (Kd.R_base ho0) hb); have n1_ := Aside0.mk (Kd.R_lower ho0 (below_size (by repeat (first | (with_reducible first | exact HB.out | apply below_alloc | apply pw_below_drewN | apply below_drew1) | exact HB.out | exact Below.refl _ _)))); have n2_ := Aside0.mk (below_step (by repeat (first | (with_reducible first | exact HB.out | apply below_alloc | apply pw_below_drewN | apply below_drew1) | exact HB.out | exact Below.refl _ _)) hb); clear HO_5; clear HB; have HO_5 := n0_; have HO186 := n1_; have HB := n2_; clear n0_ n1_ n2_; (try clear hb); (try clear hb2); (try clear hk); (try clear hi); (try clear ho0)))
              go_ret3
              exact ⟨_, by first | rfl | (simp [errW_none, errW_some] <;> rfl) | (simp [*, errW_none, errW_some] <;> rfl), by (with_reducible repeat (first | apply Kd.S_alloc | apply Kd.S_drewN | apply Kd.S_drew)); exact Kd.S_mono HO_5.out (fun _ hk => trivial), by repeat (first | (with_reducible first | exact HB.out | apply below_alloc | apply pw_below_drewN | apply below_drew1) | exact HB.out | exact Below.refl _ _)⟩
          · rw [if_neg c4] at H
            exact absurd H (by simp)
        · rw [if_neg c3] at H
          exact absurd H (by simp)
      · rw [if_neg c2] at H
        have c2b0 : decide (x6_1 < (l0.length : Int)) = false := decide_eq_false c2
        clear c2
        simp only [Option.some.injEq, Prod.mk.injEq] at H
        obtain ⟨rfl, rfl, rfl⟩ := H
        go_wp2
        go_ret3
        exact ⟨_, by first | rfl | (simp [errW_none, errW_some] <;> rfl) | (simp [*, errW_none, errW_some] <;> rfl), by (with_reducible repeat (first | apply Kd.S_alloc | apply Kd.S_drewN | apply Kd.S_drew)); exact HO_5.out, by repeat (first | (with_reducible first | exact HB.out | apply below_alloc | apply pw_below_drewN | apply below_drew1) | exact HB.out | exact Below.refl _ _)⟩

/-! ### prompterlaw06_FrameBits: function 4 -/
mutual
def prompterlaw06_FrameBits.j0 : Nat → List Int → Int → Int → List Int → Bool → Option (Bool)
  | 0, _, _, _, _, _ => none
  | k + 1, x0, x2, x3, x9, x91 => if x91 = true then (some false) else (if (IntKind.u64.wrap (wrap64 (8 * (wrap64 ((x0.length : Int) + 4))))) = 0 then (none) else (prompterlaw06_FrameBits.l0 k x0 x3 x9 (wrap64 (8 * (wrap64 ((x0.length : Int) + 4)))) (wrap64 (Int.tmod (IntKind.u64.wrap (x2)) (IntKind.u64.wrap (wrap64 (8 * (wrap64 ((x0.length : Int) + 4))))))) false 0))
def prompterlaw06_FrameBits.l0 : Nat → List Int → Int → List Int → Int → Int → Bool → Int → Option (Bool)
  | 0, _, _, _, _, _, _, _ => none
  | k + 1, x0, x3, x9, x18, x19, x20, x21 => if x21 < 32 then (prompterlaw06_FrameBits.j2 k x0 x3 x9 x18 x19 x20 x21 (decide ((wrap64 (x19 + x21)) < x18))) else (prompterlaw06_FrameBits.j2 k x0 x3 x9 x18 x19 x20 x21 false)
def prompterlaw06_FrameBits.j2 : Nat → List Int → Int → List Int → Int → Int → Bool → Int → Bool → Option (Bool)
  | 0, _, _, _, _, _, _, _, _ => none
  | k + 1, x0, x3, x9, x18, x19, x20, x21, x110 => if x110 = true then (if 0 ≤ (IntKind.u64.wrap (x21)) then (if (Go.bits .and .u32 (shr .u32 x3 (IntKind.u64.wrap (x21))) 1) = 1 then (if 0 ≤ (wrap64 (Int.tdiv (wrap64 ((wrap64 (64 + x19)) + x21)) 8)) then (if (wrap64 (Int.tdiv (wrap64 ((wrap64 (64 + x19)) + x21)) 8)) < (x9.length : Int) then (if 0 ≤ (IntKind.u64.wrap (Int.tmod (wrap64 ((wrap64 (64 + x19)) + x21)) 8)) then (prompterlaw06_FrameBits.l0 k x0 x3 (x9.set ((wrap64 (Int.tdiv (wrap64 ((wrap64 (64 + x19)) + x21)) 8)) : Int).toNat (Go.bits .xor .u8 (rd x9 (wrap64 (Int.tdiv (wrap64 ((wrap64 (64 + x19)) + x21)) 8))) (shl .u8 1 (IntKind.u64.wrap (Int.tmod (wrap64 ((wrap64 (64 + x19)) + x21)) 8))))) x18 x19 true (wrap64 (x21 + 1))) else (none)) else (none)) else (none)) else (prompterlaw06_FrameBits.l0 k x0 x3 x9 x18 x19 x20 (wrap64 (x21 + 1)))) else (none)) else ((frame_Read.f x9).bind fun bt211 => (if x20 = true then (if bt211.2.2 = 8 then (some (bt211.2.1 == (wrap64 (8 + (x0.length : Int))))) else (some false)) else (if bt211.2.2 = 0 then (some (bt211.2.1 == (x9.length : Int))) else (some false))))
end
def prompterlaw06_FrameBits.f (k : Nat) (l0 : List Int) (a1 : Int) (a2 : Int) (a3 : Int) : Option (Bool) := (prompterlaw06_awake.f).bind fun t190 => (if t190 = true then (if (l0.length : Int) > 3000 then (some true) else ((frame_Frame.f l0).bind fun bt191 => (if bt191.2 = 0 then (if (IntKind.u64.wrap (wrap64 (8 * (bt191.1.length : Int)))) = 0 then (none) else (if 0 ≤ (wrap64 (Int.tdiv (wrap64 (Int.tmod (IntKind.u64.wrap (a1)) (IntKind.u64.wrap (wrap64 (8 * (bt191.1.length : Int)))))) 8)) then (if (wrap64 (Int.tdiv (wrap64 (Int.tmod (IntKind.u64.wrap (a1)) (IntKind.u64.wrap (wrap64 (8 * (bt191.1.length : Int)))))) 8)) < (bt191.1.length : Int) then (if 0 ≤ (IntKind.u64.wrap (Int.tmod (wrap64 (Int.tmod (IntKind.u64.wrap (a1)) (IntKind.u64.wrap (wrap64 (8 * (bt191.1.length : Int)))))) 8)) then ((some (bt191.1.set ((wrap64 (Int.tdiv (wrap64 (Int.tmod (IntKind.u64.wrap (a1)) (IntKind.u64.wrap (wrap64 (8 * (bt191.1.length : Int)))))) 8)) : Int).toNat (Go.bits .xor .u8 (rd bt191.1 (wrap64 (Int.tdiv (wrap64 (Int.tmod (IntKind.u64.wrap (a1)) (IntKind.u64.wrap (wrap64 (8 * (bt191.1.length : Int)))))) 8))) (shl .u8 1 (IntKind.u64.wrap (Int.tmod (wrap64 (Int.tmod (IntKind.u64.wrap (a1)) (IntKind.u64.wrap (wrap64 (8 * (bt191.1.length : Int)))))) 8)))) : List Int)).bind fun y196 => ((frame_Read.f y196).bind fun bt197 => ((some (y196.set ((wrap64 (Int.tdiv (wrap64 (Int.tmod (IntKind.u64.wrap (a1)) (IntKind.u64.wrap (wrap64 (8 * (bt191.1.length : Int)))))) 8)) : Int).toNat (Go.bits .xor .u8 (rd y196 (wrap64 (Int.tdiv (wrap64 (Int.tmod (IntKind.u64.wrap (a1)) (IntKind.u64.wrap (wrap64 (8 * (bt191.1.length : Int)))))) 8))) (shl .u8 1 (IntKind.u64.wrap (Int.tmod (wrap64 (Int.tmod (IntKind.u64.wrap (a1)) (IntKind.u64.wrap (wrap64 (8 * (bt191.1.length : Int)))))) 8)))) : List Int)).bind fun y203 => ((frame_Read.f y203).bind fun bt204 => (if bt197.2.2 = 0 then (prompterlaw06_FrameBits.j0 k l0 a2 a3 y203 true) else (prompterlaw06_FrameBits.j0 k l0 a2 a3 y203 (bt204.2.2 != 0))))))) else (none)) else (none)) else (none))) else (some false)))) else (some false))
theorem prompterlaw06_FrameBits.mono_l : ∀ k, (∀ y0 y1 y2 y3 y4, LeO (prompterlaw06_FrameBits.j0 k y0 y1 y2 y3 y4) (prompterlaw06_FrameBits.j0 (k + 1) y0 y1 y2 y3 y4)) ∧ (∀ y0 y1 y2 y3 y4 y5 y6, LeO (prompterlaw06_FrameBits.l0 k y0 y1 y2 y3 y4 y5 y6) (prompterlaw06_FrameBits.l0 (k + 1) y0 y1 y2 y3 y4 y5 y6)) ∧ (∀ y0 y1 y2 y3 y4 y5 y6 y7, LeO (prompterlaw06_FrameBits.j2 k y0 y1 y2 y3 y4 y5 y6 y7) (prompterlaw06_FrameBits.j2 (k + 1) y0 y1 y2 y3 y4 y5 y6 y7))
  | 0 => ⟨fun _ _ _ _ _ r h => by simp [prompterlaw06_FrameBits.j0] at h, fun _ _ _ _ _ _ _ r h => by simp [prompterlaw06_FrameBits.l0] at h, fun _ _ _ _ _ _ _ _ r h => by simp [prompterlaw06_FrameBits.j2] at h⟩
  | k + 1 => by
    obtain ⟨ih0, ih1, ih2⟩ := prompterlaw06_FrameBits.mono_l k
    refine ⟨?_, ?_, ?_⟩
    · intro y0 y1 y2 y3 y4
      unfold prompterlaw06_FrameBits.j0
      repeat' first
      | (with_reducible exact ih0 _ _ _ _ _)
      | (with_reducible exact ih1 _ _ _ _ _ _ _)
      | (with_reducible exact ih2 _ _ _ _ _ _ _ _)
      | (with_reducible exact LeO.refl _)
      | (with_reducible exact LeO.none _)
      | (with_reducible refine LeO.ite ?_ ?_)
      | (with_reducible refine LeO.bind ?_ (fun _ => ?_))
      | exact ih0 _ _ _ _ _
      | exact ih1 _ _ _ _ _ _ _
      | exact ih2 _ _ _ _ _ _ _ _
      | exact LeO.none _
      | refine LeO.ite ?_ ?_
      | refine LeO.bind ?_ (fun _ => ?_)
    · intro y0 y1 y2 y3 y4 y5 y6
      unfold prompterlaw06_FrameBits.l0
      repeat' first
      | (with_reducible exact ih0 _ _ _ _ _)
      | (with_reducible exact ih1 _ _ _ _ _ _ _)
      | (with_reducible exact ih2 _ _ _ _ _ _ _ _)
      | (with_reducible exact LeO.refl _)
      | (with_reducible exact LeO.none _)
      | (with_reducible refine LeO.ite ?_ ?_)
      | (with_reducible refine LeO.bind ?_ (fun _ => ?_))
      | exact ih0 _ _ _ _ _
      | exact ih1 _ _ _ _ _ _ _
      | exact ih2 _ _ _ _ _ _ _ _
      | exact LeO.none _
      | refine LeO.ite ?_ ?_
      | refine LeO.bind ?_ (fun _ => ?_)
    · intro y0 y1 y2 y3 y4 y5 y6 y7
      unfold prompterlaw06_FrameBits.j2
      repeat' first
      | (with_reducible exact ih0 _ _ _ _ _)
      | (with_reducible exact ih1 _ _ _ _ _ _ _)
      | (with_reducible exact ih2 _ _ _ _ _ _ _ _)
      | (with_reducible exact LeO.refl _)
      | (with_reducible exact LeO.none _)
      | (with_reducible refine LeO.ite ?_ ?_)
      | (with_reducible refine LeO.bind ?_ (fun _ => ?_))
      | exact ih0 _ _ _ _ _
      | exact ih1 _ _ _ _ _ _ _
      | exact ih2 _ _ _ _ _ _ _ _
      | exact LeO.none _
      | refine LeO.ite ?_ ?_
      | refine LeO.bind ?_ (fun _ => ?_)
theorem prompterlaw06_FrameBits.mono : ∀ a0 a1 a2 a3 k, LeO (prompterlaw06_FrameBits.f k a0 a1 a2 a3) (prompterlaw06_FrameBits.f (k + 1) a0 a1 a2 a3) := by
  intro a0 a1 a2 a3 k
  obtain ⟨ih0, ih1, ih2⟩ := prompterlaw06_FrameBits.mono_l k
  unfold prompterlaw06_FrameBits.f
  repeat' first
      | (with_reducible exact ih0 _ _ _ _ _)
      | (with_reducible exact ih1 _ _ _ _ _ _ _)
      | (with_reducible exact ih2 _ _ _ _ _ _ _ _)
      | (with_reducible exact LeO.refl _)
      | (with_reducible exact LeO.none _)
      | (with_reducible refine LeO.ite ?_ ?_)
      | (with_reducible refine LeO.bind ?_ (fun _ => ?_))
      | exact ih0 _ _ _ _ _
      | exact ih1 _ _ _ _ _ _ _
      | exact ih2 _ _ _ _ _ _ _ _
      | exact LeO.none _
      | refine LeO.ite ?_ ?_
      | refine LeO.bind ?_ (fun _ => ?_)
set_option maxHeartbeats 8000000 in
set_option maxRecDepth 100000 in
theorem prompterlaw06_FrameBits.calls (k : Nat) (A0 : Option Addr) (c0 : Nat) (l0 : List Int) (a1 : Int) (a2 : Int) (a3 : Int) (r : Bool) (w : World) (hr0 : Kd.C (Kd.int .u8) w A0 l0.length l0) (hc0 : l0.length ≤ c0) (h : prompterlaw06_FrameBits.f k l0 a1 a2 a3 = some r) :
    Calls Try.prog 4 #[.slice A0 l0.length c0, .int .i64 a1, .int .i64 a2, .int .u32 a3] w fun e w' => e = .returned (.bool r) ∧ Below w.heap.size w w' := by
  have HR0 := Aside0.mk hr0
  have HC0 := Aside0.mk hc0
  clear hr0 hc0
  have HB := Aside0.mk (Below.refl w.heap.size w)
  have H : ((prompterlaw06_awake.f).bind fun t190 => (if t190 = true then (if (l0.length : Int) > 3000 then (some true) else ((frame_Frame.f l0).bind fun bt191 => (if bt191.2 = 0 then (if (IntKind.u64.wrap (wrap64 (8 * (bt191.1.length : Int)))) = 0 then (none) else (if 0 ≤ (wrap64 (Int.tdiv (wrap64 (Int.tmod (IntKind.u64.wrap (a1)) (IntKind.u64.wrap (wrap64 (8 * (bt191.1.length : Int)))))) 8)) then (if (wrap64 (Int.tdiv (wrap64 (Int.tmod (IntKind.u64.wrap (a1)) (IntKind.u64.wrap (wrap64 (8 * (bt191.1.length : Int)))))) 8)) < (bt191.1.length : Int) then (if 0 ≤ (IntKind.u64.wrap (Int.tmod (wrap64 (Int.tmod (IntKind.u64.wrap (a1)) (IntKind.u64.wrap (wrap64 (8 * (bt191.1.length : Int)))))) 8)) then ((some (bt191.1.set ((wrap64 (Int.tdiv (wrap64 (Int.tmod (IntKind.u64.wrap (a1)) (IntKind.u64.wrap (wrap64 (8 * (bt191.1.length : Int)))))) 8)) : Int).toNat (Go.bits .xor .u8 (rd bt191.1 (wrap64 (Int.tdiv (wrap64 (Int.tmod (IntKind.u64.wrap (a1)) (IntKind.u64.wrap (wrap64 (8 * (bt191.1.length : Int)))))) 8))) (shl .u8 1 (IntKind.u64.wrap (Int.tmod (wrap64 (Int.tmod (IntKind.u64.wrap (a1)) (IntKind.u64.wrap (wrap64 (8 * (bt191.1.length : Int)))))) 8)))) : List Int)).bind fun y196 => ((frame_Read.f y196).bind fun bt197 => ((some (y196.set ((wrap64 (Int.tdiv (wrap64 (Int.tmod (IntKind.u64.wrap (a1)) (IntKind.u64.wrap (wrap64 (8 * (bt191.1.length : Int)))))) 8)) : Int).toNat (Go.bits .xor .u8 (rd y196 (wrap64 (Int.tdiv (wrap64 (Int.tmod (IntKind.u64.wrap (a1)) (IntKind.u64.wrap (wrap64 (8 * (bt191.1.length : Int)))))) 8))) (shl .u8 1 (IntKind.u64.wrap (Int.tmod (wrap64 (Int.tmod (IntKind.u64.wrap (a1)) (IntKind.u64.wrap (wrap64 (8 * (bt191.1.length : Int)))))) 8)))) : List Int)).bind fun y203 => ((frame_Read.f y203).bind fun bt204 => (if bt197.2.2 = 0 then (prompterlaw06_FrameBits.j0 k l0 a2 a3 y203 true) else (prompterlaw06_FrameBits.j0 k l0 a2 a3 y203 (bt204.2.2 != 0))))))) else (none)) else (none)) else (none))) else (some false)))) else (some false))) = some r := h
  clear h
  replace H := Option.bind_eq_some_iff.mp H
  obtain ⟨t190, A50, H⟩ := H
  replace H : (if t190 = true then (if (l0.length : Int) > 3000 then (some true) else ((frame_Frame.f l0).bind fun bt191 => (if bt191.2 = 0 then (if (IntKind.u64.wrap (wrap64 (8 * (bt191.1.length : Int)))) = 0 then (none) else (if 0 ≤ (wrap64 (Int.tdiv (wrap64 (Int.tmod (IntKind.u64.wrap (a1)) (IntKind.u64.wrap (wrap64 (8 * (bt191.1.length : Int)))))) 8)) then (if (wrap64 (Int.tdiv (wrap64 (Int.tmod (IntKind.u64.wrap (a1)) (IntKind.u64.wrap (wrap64 (8 * (bt191.1.length : Int)))))) 8)) < (bt191.1.length : Int) then (if 0 ≤ (IntKind.u64.wrap (Int.tmod (wrap64 (Int.tmod (IntKind.u64.wrap (a1)) (IntKind.u64.wrap (wrap64 (8 * (bt191.1.length : Int)))))) 8)) then ((some (bt191.1.set ((wrap64 (Int.tdiv (wrap64 (Int.tmod (IntKind.u64.wrap (a1)) (IntKind.u64.wrap (wrap64 (8 * (bt191.1.length : Int)))))) 8)) : Int).toNat (Go.bits .xor .u8 (rd bt191.1 (wrap64 (Int.tdiv (wrap64 (Int.tmod (IntKind.u64.wrap (a1)) (IntKind.u64.wrap (wrap64 (8 * (bt191.1.length : Int)))))) 8))) (shl .u8 1 (IntKind.u64.wrap (Int.tmod (wrap64 (Int.tmod (IntKind.u64.wrap (a1)) (IntKind.u64.wrap (wrap64 (8 * (bt191.1.length : Int)))))) 8)))) : List Int)).bind fun y196 => ((frame_Read.f y196).bind fun bt197 => ((some (y196.set ((wrap64 (Int.tdiv (wrap64 (Int.tmod (IntKind.u64.wrap (a1)) (IntKind.u64.wrap (wrap64 (8 * (bt191.1.length : Int)))))) 8)) : Int).toNat (Go.bits .xor .u8 (rd y196 (wrap64 (Int.tdiv (wrap64 (Int.tmod (IntKind.u64.wrap (a1)) (IntKind.u64.wrap (wrap64 (8 * (bt191.1.length : Int)))))) 8))) (shl .u8 1 (IntKind.u64.wrap (Int.tmod (wrap64 (Int.tmod (IntKind.u64.wrap (a1)) (IntKind.u64.wrap (wrap64 (8 * (bt191.1.length : Int)))))) 8)))) : List Int)).bind fun y203 => ((frame_Read.f y203).bind fun bt204 => (if bt197.2.2 = 0 then (prompterlaw06_FrameBits.j0 k l0 a2 a3 y203 true) else (prompterlaw06_FrameBits.j0 k l0 a2 a3 y203 (bt204.2.2 != 0))))))) else (none)) else (none)) else (none))) else (some false)))) else (some false)) = some r := H
  have A5 := Aside0.mk A50
  clear A50
  by_cases c6 : t190 = true
  · subst c6
    have H1 : (if (l0.length : Int) > 3000 then (some true) else ((frame_Frame.f l0).bind fun bt191 => (if bt191.2 = 0 then (if (IntKind.u64.wrap (wrap64 (8 * (bt191.1.length : Int)))) = 0 then (none) else (if 0 ≤ (wrap64 (Int.tdiv (wrap64 (Int.tmod (IntKind.u64.wrap (a1)) (IntKind.u64.wrap (wrap64 (8 * (bt191.1.length : Int)))))) 8)) then (if (wrap64 (Int.tdiv (wrap64 (Int.tmod (IntKind.u64.wrap (a1)) (IntKind.u64.wrap (wrap64 (8 * (bt191.1.length : Int)))))) 8)) < (bt191.1.length : Int) then (if 0 ≤ (IntKind.u64.wrap (Int.tmod (wrap64 (Int.tmod (IntKind.u64.wrap (a1)) (IntKind.u64.wrap (wrap64 (8 * (bt191.1.length : Int)))))) 8)) then ((some (bt191.1.set ((wrap64 (Int.tdiv (wrap64 (Int.tmod (IntKind.u64.wrap (a1)) (IntKind.u64.wrap (wrap64 (8 * (bt191.1.length : Int)))))) 8)) : Int).toNat (Go.bits .xor .u8 (rd bt191.1 (wrap64 (Int.tdiv (wrap64 (Int.tmod (IntKind.u64.wrap (a1)) (IntKind.u64.wrap (wrap64 (8 * (bt191.1.length : Int)))))) 8))) (shl .u8 1 (IntKind.u64.wrap (Int.tmod (wrap64 (Int.tmod (IntKind.u64.wrap (a1)) (IntKind.u64.wrap (wrap64 (8 * (bt191.1.length : Int)))))) 8)))) : List Int)).bind fun y196 => ((frame_Read.f y196).bind fun bt197 => ((some (y196.set ((wrap64 (Int.tdiv (wrap64 (Int.tmod (IntKind.u64.wrap (a1)) (IntKind.u64.wrap (wrap64 (8 * (bt191.1.length : Int)))))) 8)) : Int).toNat (Go.bits .xor .u8 (rd y196 (wrap64 (Int.tdiv (wrap64 (Int.tmod (IntKind.u64.wrap (a1)) (IntKind.u64.wrap (wrap64 (8 * (bt191.1.length : Int)))))) 8))) (shl .u8 1 (IntKind.u64.wrap (Int.tmod (wrap64 (Int.tmod (IntKind.u64.wrap (a1)) (IntKind.u64.wrap (wrap64 (8 * (bt191.1.length : Int)))))) 8)))) : List Int)).bind fun y203 => ((frame_Read.f y203).bind fun bt204 => (if bt197.2.2 = 0 then (prompterlaw06_FrameBits.j0 k l0 a2 a3 y203 true) else (prompterlaw06_FrameBits.j0 k l0 a2 a3 y203 (bt204.2.2 != 0))))))) else (none)) else (none)) else (none))) else (some false)))) = some r := by rw [if_pos rfl] at H; exact H
    clear H
    have H := H1
    clear H1
    by_cases c7 : (l0.length : Int) > 3000
    · rw [if_pos c7] at H
      have c7b0 : decide (3000 < (l0.length : Int)) = true := decide_eq_true c7
      have c7b1 : decide (3000 < l0.length) = true := decide_eq_true (by omega)
      clear c7
      obtain rfl := Option.some.inj H
      go_enter Try.func4, Try.ntmps4
      go_wp2_with (first | ((with_reducible refine gate_callee (f := 21) rfl ?_); refine goesL_ (some 26) rfl rfl Try.func21 (by kernel_rfl) rfl #[] rfl (by (try simp only [List.map_toArray, List.map_cons, List.map_nil]); first | done | rfl | (simp only [List.length_drop, List.length_take]; rfl)) ?_; (with_reducible refine (prompterlaw06_awake.calls  true _ A5.out).mono ?_); rintro e w8 ⟨rfl, hb⟩; refine ⟨_, rfl, ?_⟩; have n0_ := Aside0.mk (below_step (by repeat (first | (with_reducible first | exact HB.out | apply below_alloc | apply pw_below_drewN | apply below_drew1) | exact HB.out | exact Below.refl _ _)) hb); clear HB; have HB := n0_; clear n0_; (try clear hb); (try clear hb2); (try clear hk); (try clear hi)))
      go_ret
      exact ⟨by first | rfl | (simp [errW_none, errW_some] <;> rfl) | (simp [*, errW_none, errW_some] <;> rfl), by repeat (first | (with_reducible first | exact HB.out | apply below_alloc | apply pw_below_drewN | apply below_drew1) | exact HB.out | exact Below.refl _ _)⟩
    · rw [if_neg c7] at H
      have c7b0 : decide (3000 < (l0.length : Int)) = false := decide_eq_false c7
      have c7b1 : decide (3000 < l0.length) = false := decide_eq_false (by omega)
      clear c7
      replace H := Option.bind_eq_some_iff.mp H
      obtain ⟨⟨t191, t192⟩, A90, H⟩ := H
      replace H : (if t192 = 0 then (if (IntKind.u64.wrap (wrap64 (8 * (t191.length : Int)))) = 0 then (none) else (if 0 ≤ (wrap64 (Int.tdiv (wrap64 (Int.tmod (IntKind.u64.wrap (a1)) (IntKind.u64.wrap (wrap64 (8 * (t191.length : Int)))))) 8)) then (if (wrap64 (Int.tdiv (wrap64 (Int.tmod (IntKind.u64.wrap (a1)) (IntKind.u64.wrap (wrap64 (8 * (t191.length : Int)))))) 8)) < (t191.length : Int) then (if 0 ≤ (IntKind.u64.wrap (Int.tmod (wrap64 (Int.tmod (IntKind.u64.wrap (a1)) (IntKind.u64.wrap (wrap64 (8 * (t191.length : Int)))))) 8)) then ((some (t191.set ((wrap64 (Int.tdiv (wrap64 (Int.tmod (IntKind.u64.wrap (a1)) (IntKind.u64.wrap (wrap64 (8 * (t191.length : Int)))))) 8)) : Int).toNat (Go.bits .xor .u8 (rd t191 (wrap64 (Int.tdiv (wrap64 (Int.tmod (IntKind.u64.wrap (a1)) (IntKind.u64.wrap (wrap64 (8 * (t191.length : Int)))))) 8))) (shl .u8 1 (IntKind.u64.wrap (Int.tmod (wrap64 (Int.tmod (IntKind.u64.wrap (a1)) (IntKind.u64.wrap (wrap64 (8 * (t191.length : Int)))))) 8)))) : List Int)).bind fun y196 => ((frame_Read.f y196).bind fun bt197 => ((some (y196.set ((wrap64 (Int.tdiv (wrap64 (Int.tmod (IntKind.u64.wrap (a1)) (IntKind.u64.wrap (wrap64 (8 * (t191.length : Int)))))) 8)) : Int).toNat (Go.bits .xor .u8 (rd y196 (wrap64 (Int.tdiv (wrap64 (Int.tmod (IntKind.u64.wrap (a1)) (IntKind.u64.wrap (wrap64 (8 * (t191.length : Int)))))) 8))) (shl .u8 1 (IntKind.u64.wrap (Int.tmod (wrap64 (Int.tmod (IntKind.u64.wrap (a1)) (IntKind.u64.wrap (wrap64 (8 * (t191.length : Int)))))) 8)))) : List Int)).bind fun y203 => ((frame_Read.f y203).bind fun bt204 => (if bt197.2.2 = 0 then (prompterlaw06_FrameBits.j0 k l0 a2 a3 y203 true) else (prompterlaw06_FrameBits.j0 k l0 a2 a3 y203 (bt204.2.2 != 0))))))) else (none)) else (none)) else (none))) else (some false)) = some r := H
      have A9 := Aside0.mk A90
      clear A90
      by_cases c10 : t192 = 0
      · rw [if_pos c10] at H
        have c10b0 : (t192 == 0) = true := beq_iff_eq.mpr c10
        have c10b1 : (t192 != 0) = false := bne_eq_false_iff_eq.mpr c10
        clear c10
        by_cases c11 : (IntKind.u64.wrap (wrap64 (8 * (t191.length : Int)))) = 0
        · rw [if_pos c11] at H
          exact absurd H (by simp)
        · rw [if_neg c11] at H
          have c11b0 : ((IntKind.u64.wrap (wrap64 (8 * (t191.length : Int)))) == 0) = false := beq_eq_false_iff_ne.mpr c11
          have c11b1 : ((IntKind.u64.wrap (wrap64 (8 * (t191.length : Int)))) != 0) = true := bne_iff_ne.mpr c11
          obtain ⟨ji12, hji12⟩ : ∃ j_ : Int, (wrap64 (Int.tdiv (wrap64 (Int.tmod (IntKind.u64.wrap (a1)) (IntKind.u64.wrap (wrap64 (8 * (t191.length : Int)))))) 8)) = j_ := ⟨_, rfl⟩
          replace H : (if 0 ≤ (ji12) then (if (ji12) < (t191.length : Int) then (if 0 ≤ (IntKind.u64.wrap (Int.tmod (wrap64 (Int.tmod (IntKind.u64.wrap (a1)) (IntKind.u64.wrap (wrap64 (8 * (t191.length : Int)))))) 8)) then ((some (t191.set ((ji12) : Int).toNat (Go.bits .xor .u8 (rd t191 (ji12)) (shl .u8 1 (IntKind.u64.wrap (Int.tmod (wrap64 (Int.tmod (IntKind.u64.wrap (a1)) (IntKind.u64.wrap (wrap64 (8 * (t191.length : Int)))))) 8)))) : List Int)).bind fun y196 => ((frame_Read.f y196).bind fun bt197 => ((some (y196.set ((ji12) : Int).toNat (Go.bits .xor .u8 (rd y196 (ji12)) (shl .u8 1 (IntKind.u64.wrap (Int.tmod (wrap64 (Int.tmod (IntKind.u64.wrap (a1)) (IntKind.u64.wrap (wrap64 (8 * (t191.length : Int)))))) 8)))) : List Int)).bind fun y203 => ((frame_Read.f y203).bind fun bt204 => (if bt197.2.2 = 0 then (prompterlaw06_FrameBits.j0 k l0 a2 a3 y203 true) else (prompterlaw06_FrameBits.j0 k l0 a2 a3 y203 (bt204.2.2 != 0))))))) else (none)) else (none)) else (none)) = some r := by first | (rw [hji12] at H; exact H) | (simp only [hji12] at H ⊢; exact H)
          (try rw [hji12] at A5)
          (try rw [hji12] at A9)
          have hji12w : (IntKind.i64.wrap (Int.tdiv (wrap64 (Int.tmod (IntKind.u64.wrap (a1)) (IntKind.u64.wrap (wrap64 (8 * (t191.length : Int)))))) 8)) = ji12 := (i64_w _).trans hji12
          by_cases c13 : 0 ≤ (ji12)
          · rw [if_pos c13] at H
            have c13b0 : decide (0 ≤ (ji12)) = true := decide_eq_true c13
            clear c13
            by_cases c14 : (ji12) < (t191.length : Int)
            · rw [if_pos c14] at H
              have c14b0 : decide ((ji12) < (t191.length : Int)) = true := decide_eq_true c14
              clear c14
              obtain ⟨ji15, hji15⟩ : ∃ j_ : Int, (IntKind.u64.wrap (Int.tmod (wrap64 (Int.tmod (IntKind.u64.wrap (a1)) (IntKind.u64.wrap (wrap64 (8 * (t191.length : Int)))))) 8)) = j_ := ⟨_, rfl⟩
              replace H : (if 0 ≤ (ji15) then ((some (t191.set ((ji12) : Int).toNat (Go.bits .xor .u8 (rd t191 (ji12)) (shl .u8 1 (ji15))) : List Int)).bind fun y196 => ((frame_Read.f y196).bind fun bt197 => ((some (y196.set ((ji12) : Int).toNat (Go.bits .xor .u8 (rd y196 (ji12)) (shl .u8 1 (ji15))) : List Int)).bind fun y203 => ((frame_Read.f y203).bind fun bt204 => (if bt197.2.2 = 0 then (prompterlaw06_FrameBits.j0 k l0 a2 a3 y203 true) else (prompterlaw06_FrameBits.j0 k l0 a2 a3 y203 (bt204.2.2 != 0))))))) else (none)) = some r := by first | (rw [hji15] at H; exact H) | (simp only [hji15] at H ⊢; exact H)
              (try rw [hji15] at A5)
              (try rw [hji15] at A9)
              by_cases c16 : 0 ≤ (ji15)
              · rw [if_pos c16] at H
                have c16b0 := eq_true c16
                have c16b1 : decide (0 ≤ (ji15)) = true := decide_eq_true c16
                clear c16
                obtain ⟨ji17, hji17⟩ : ∃ j_ : Int, (shl .u8 1 (ji15)) = j_ := ⟨_, rfl⟩
                replace H : ((some (t191.set ((ji12) : Int).toNat (Go.bits .xor .u8 (rd t191 (ji12)) (ji17)) : List Int)).bind fun y196 => ((frame_Read.f y196).bind fun bt197 => ((some (y196.set ((ji12) : Int).toNat (Go.bits .xor .u8 (rd y196 (ji12)) (ji17)) : List Int)).bind fun y203 => ((frame_Read.f y203).bind fun bt204 => (if bt197.2.2 = 0 then (prompterlaw06_FrameBits.j0 k l0 a2 a3 y203 true) else (prompterlaw06_FrameBits.j0 k l0 a2 a3 y203 (bt204.2.2 != 0))))))) = some r := by first | (rw [hji17] at H; exact H) | (simp only [hji17] at H ⊢; exact H)
                (try rw [hji17] at A5)
                (try rw [hji17] at A9)
                have hji17_ : (IntKind.u8.wrap (1 * 2 ^ min (ji15).toNat 8)) = ji17 := hji17
                have hji17z : (ji15) ≤ 8 → (IntKind.u8.wrap (1 * 2 ^ (ji15).toNat)) = ji17 := shl_small hji17
                have hji17u : (IntKind.u8.wrap (2 ^ min (ji15).toNat 8)) = ji17 := by have h_ := hji17_; rw [Int.one_mul] at h_; exact h_
                have hji17v : (ji15) ≤ 8 → (IntKind.u8.wrap (2 ^ (ji15).toNat)) = ji17 := fun hle_ => by have h_ := hji17z hle_; rw [Int.one_mul] at h_; exact h_
                obtain ⟨y196, hy196⟩ : ∃ y_ : List Int, y_ = (t191.set ((ji12) : Int).toNat (Go.bits .xor .u8 (rd t191 (ji12)) (ji17))) := ⟨_, rfl⟩
                replace H : ((frame_Read.f y196).bind fun bt197 => ((some (y196.set ((ji12) : Int).toNat (Go.bits .xor .u8 (rd y196 (ji12)) (ji17)) : List Int)).bind fun y203 => ((frame_Read.f y203).bind fun bt204 => (if bt197.2.2 = 0 then (prompterlaw06_FrameBits.j0 k l0 a2 a3 y203 true) else (prompterlaw06_FrameBits.j0 k l0 a2 a3 y203 (bt204.2.2 != 0)))))) = some r := by first | (rw [hy196]; with_reducible exact H) | (have H2_ := (Option.bind_some _ _).symm.trans H; rw [hy196]; with_reducible exact H2_) | (have H2_ := (Option.bind_some _ _).symm.trans H; with_reducible exact H2_) | with_reducible exact H | (rw [hy196]; exact H) | exact H
                have Ny196 := Aside0.mk hy196
                clear hy196
                replace H := Option.bind_eq_some_iff.mp H
                obtain ⟨⟨t197, t198, t199⟩, A190, H⟩ := H
                replace H : ((some (y196.set ((ji12) : Int).toNat (Go.bits .xor .u8 (rd y196 (ji12)) (ji17)) : List Int)).bind fun y203 => ((frame_Read.f y203).bind fun bt204 => (if t199 = 0 then (prompterlaw06_FrameBits.j0 k l0 a2 a3 y203 true) else (prompterlaw06_FrameBits.j0 k l0 a2 a3 y203 (bt204.2.2 != 0))))) = some r := H
                have A19 := Aside0.mk A190
                clear A190
                have c20b0 := eq_true (of_decide_eq_true (by first | (with_reducible assumption) | assumption) : 0 ≤ (ji15))
                obtain ⟨y203, hy203⟩ : ∃ y_ : List Int, y_ = (y196.set ((ji12) : Int).toNat (Go.bits .xor .u8 (rd y196 (ji12)) (ji17))) := ⟨_, rfl⟩
                replace H : ((frame_Read.f y203).bind fun bt204 => (if t199 = 0 then (prompterlaw06_FrameBits.j0 k l0 a2 a3 y203 true) else (prompterlaw06_FrameBits.j0 k l0 a2 a3 y203 (bt204.2.2 != 0)))) = some r := by first | (rw [hy203]; with_reducible exact H) | (have H2_ := (Option.bind_some _ _).symm.trans H; rw [hy203]; with_reducible exact H2_) | (have H2_ := (Option.bind_some _ _).symm.trans H; with_reducible exact H2_) | with_reducible exact H | (rw [hy203]; exact H) | exact H
                have Ny203 := Aside0.mk hy203
                clear hy203
                replace H := Option.bind_eq_some_iff.mp H
                obtain ⟨⟨t204, t205, t206⟩, A230, H⟩ := H
                replace H : (if t199 = 0 then (prompterlaw06_FrameBits.j0 k l0 a2 a3 y203 true) else (prompterlaw06_FrameBits.j0 k l0 a2 a3 y203 (t206 != 0))) = some r := H
                have A23 := Aside0.mk A230
                clear A230
                have HC24 := Aside0.mk H
                clear H
                go_enter Try.func4, Try.ntmps4
                go_upto_region 13 with (first | ((with_reducible refine gate_callee (f := 21) rfl ?_); refine goesL_ (some 26) rfl rfl Try.func21 (by kernel_rfl) rfl #[] rfl (by (try simp only [List.map_toArray, List.map_cons, List.map_nil]); first | done | rfl | (simp only [List.length_drop, List.length_take]; rfl)) ?_; (with_reducible refine (prompterlaw06_awake.calls  true _ A5.out).mono ?_); rintro e w25 ⟨rfl, hb⟩; refine ⟨_, rfl, ?_⟩; have n0_ := Aside0.mk (below_step (by repeat (first | (with_reducible first | exact HB.out | apply below_alloc | apply pw_below_drewN | apply below_drew1) | exact HB.out | exact Below.refl _ _)) hb); clear HB; have HB := n0_; clear n0_; (try clear hb); (try clear hb2); (try clear hk); (try clear hi)) | ((with_reducible refine gate_callee (f := 23) rfl ?_); refine goesL_ (some 33) rfl rfl Try.func23 (by kernel_rfl) rfl #[.slice A0 l0.length c0] rfl (by (try simp only [List.map_toArray, List.map_cons, List.map_nil]); first | done | rfl | (simp only [List.length_drop, List.length_take]; rfl)) ?_; (with_reducible refine (frame_Frame.calls _ _ l0 t191 t192 _ ?side1 ?side2 A9.out).mono ?_); (case side1 => repeat (first | exact (Kd.C_below HR0.out HB.out) | exact HR0.out | (with_reducible refine Kd.C_alloc ?_ _) | (with_reducible refine Kd.C_drewN ?_ _) | (with_reducible refine Kd.C_drew ?_))); (case side2 => exact HC0.out); rintro e w26 ⟨v193, rfl, ho0, hb⟩; refine ⟨_, rfl, ?_⟩; have n0_ := Aside0.mk (Kd.R_lower ho0 (below_size (by repeat (first | (with_reducible first | exact HB.out | apply below_alloc | apply pw_below_drewN | apply below_drew1) | exact HB.out | exact Below.refl _ _)))); have n1_ := Aside0.mk (below_step (by repeat (first | (with_reducible first | exact HB.out | apply below_alloc | apply pw_below_drewN | apply below_drew1) | exact HB.out | exact Below.refl _ _)) hb); clear HB; have HO194 := n0_; have HB := n1_; clear n0_ n1_; (try clear hb); (try clear hb2); (try clear hk); (try clear hi); (try clear ho0); obtain ⟨Ao27, co27, eo27⟩ := Kd.R_slice HO194.out; subst eo27; have p195 : 0 ≤ ((ji12) : Int) := of_decide_eq_true (by first | (with_reducible assumption) | assumption); have q195 : (ji12) < (t191.length : Int) := of_decide_eq_true (by first | (with_reducible assumption) | assumption); obtain ⟨ad195, e195, hx195_0⟩ := Kd.at_int (Kd.R_reads' HO194.out).2.2 (ji12) p195 q195; cases e195; replace p195 := eq_true p195; replace q195 := eq_true q195; have p18 : 0 ≤ ((ji12) : Int) := of_decide_eq_true (by first | (with_reducible assumption) | assumption); have q18 : ((ji12) : Int) < ((t191.length : Int) : Int) := of_decide_eq_true (by first | (with_reducible assumption) | assumption); obtain ⟨go18, co18, eo18, gb18, gl18, cl18, HG18⟩ := Kd.R_form HO194.out (by omega); (first | cases eo18 | (injection eo18 with ea_ en_ ec_; (first | subst ea_ | (injection ea_ with ea_; subst ea_)); subst ec_; clear en_)); have GB18 := Aside0.mk gb18; have GG18 := Aside0.mk HG18; clear gb18 gl18 HG18; (first | simp only [add_plain] at hx195_0 | skip); obtain ⟨hx18_0, hf18_0⟩ := Kd.R_celln 0 HO194.out ((ji12) : Int) p18 q18; replace p18 := eq_true p18; replace q18 := eq_true q18; obtain ⟨hy28_, hz28_⟩ := Kd.R_celln 0 HO194.out ((ji12) : Int) (of_decide_eq_true (by first | (with_reducible assumption) | assumption)) (of_decide_eq_true (by first | (with_reducible assumption) | assumption)); have HP28 := Kd.R_putg HO194.out ((ji12) : Int) (Go.bits .xor .u8 (rd t191 (ji12)) (ji17))) | ((with_reducible refine gate_store (t := 5) (p := 59) rfl ?_); refine store_event (t := 5) (p := 59) (v := ?vo_w29) (w1 := (w26.setCell ⟨go18, ((ji12) : Int).toNat, none⟩ (.int .u8 (Go.bits .xor .u8 (rd t191 (ji12)) (ji17))))) ?hg ?ho ?hn ?hr ?_; (case ho => rfl); (case hg => rfl); (case hn => rfl); (case hr => first | (go_simp; done) | (go_simp; rfl)); intro w29 hw; have hg : w26.grownBy w29 (some go18) := (by rw [hw]; exact HP28.2); have hp_ : Kd.R (Kd.int .u8) 5 w29 w.heap.size (fun _ => True) (.slice (some ⟨go18, 0, none⟩) t191.length co27) y196 := (by rw [hw, Ny196.out]; exact HP28.1); clear HP28; have n0_ := Aside0.mk (hp_); have n1_ := Aside0.mk ((by rw [hw]; exact below_set (HB.out) GB18.out : Below w.heap.size w w29)); clear HO194; clear HB; have HO194 := n0_; have HB := n1_; clear n0_ n1_; clear hg hw hp_) | ((with_reducible refine gate_callee (f := 27) rfl ?_); refine goesL_ (some 62) rfl rfl Try.func27 (by kernel_rfl) rfl #[.slice (some ⟨go18, 0, none⟩) y196.length co27] rfl (by (try simp only [List.map_toArray, List.map_cons, List.map_nil]); first | done | (rw [show y196.length = t191.length from (Kd.R_reads' HO194.out).1.symm] <;> rfl) | rfl | (simp only [List.length_drop, List.length_take]; rfl)) ?_; (with_reducible refine (frame_Read.calls _ _ y196 t197 t198 t199 _ ?side1 ?side2 A19.out).mono ?_); (case side1 => repeat (first | exact (Kd.R_reads' HO194.out).2.2 | (with_reducible refine Kd.C_alloc ?_ _) | (with_reducible refine Kd.C_drewN ?_ _) | (with_reducible refine Kd.C_drew ?_))); (case side2 => rw [show y196.length = t191.length from (Kd.R_reads' HO194.out).1.symm]; exact (Kd.R_reads' HO194.out).2.1); rintro e w30 ⟨v200, rfl, ho0, hb⟩; refine ⟨_, rfl, ?_⟩; have n0_ := Aside0.mk (Kd.R_elder' (by (with_reducible repeat (first | apply Kd.R_alloc | apply Kd.R_drewN | apply Kd.R_drew)); exact HO194.out) (Kd.R_base ho0) hb); have n1_ := Aside0.mk (Kd.R_lower (Kd.R_new' ho0 (Kd.R_lt (by (with_reducible repeat (first | apply Kd.R_alloc | apply Kd.R_drewN | apply Kd.R_drew)); exact HO194.out))) (below_size (by repeat (first | (with_reducible first | exact HB.out | apply below_alloc | apply pw_below_drewN | apply below_drew1) | exact HB.out | exact Below.refl _ _)))); have n2_ := Aside0.mk (below_step (by repeat (first | (with_reducible first | exact HB.out | apply below_alloc | apply pw_below_drewN | apply below_drew1) | exact HB.out | exact Below.refl _ _)) hb); clear HO194; clear HB; have HO194 := n0_; have HO201 := n1_; have HB := n2_; clear n0_ n1_ n2_; (try clear hb); (try clear hb2); (try clear hk); (try clear hi); (try clear ho0); have p202 : 0 ≤ ((ji12) : Int) := of_decide_eq_true (by first | (with_reducible assumption) | assumption); have q202 : (ji12) < (y196.length : Int) := (by have h_ : ((ji12) : Int) < ((t191.length : Int) : Int) := of_decide_eq_true (by first | (with_reducible assumption) | assumption); first | (have e_ := (Kd.R_reads' HO194.out).1; omega) | simpa only [Ny196.out, List.length_set] using h_); have ql202 : (((ji12) : Int) < ((t191.length : Int) : Int)) = True := eq_true (of_decide_eq_true (by first | (with_reducible assumption) | assumption)); obtain ⟨ad202, e202, hx202_0⟩ := Kd.at_int (Kd.R_reads' HO194.out).2.2 (ji12) p202 q202; obtain rfl : (⟨go18, 0, none⟩ : Addr) = ad202 := (by injection e202); (first | simp only [add_plain] at hx202_0 | simp only [add_at] at hx202_0 | simp only [Addr.add, Nat.zero_add] at hx202_0 | skip); replace p202 := eq_true p202; replace q202 := eq_true q202; have p22 : 0 ≤ ((ji12) : Int) := of_decide_eq_true (by first | (with_reducible assumption) | assumption); have q22 : ((ji12) : Int) < ((t191.length : Int) : Int) := of_decide_eq_true (by first | (with_reducible assumption) | assumption); obtain ⟨hx22_0, hf22_0⟩ := Kd.R_celln 0 HO194.out ((ji12) : Int) p22 q22; replace p22 := eq_true p22; replace q22 := eq_true q22; have n_ := Aside0.mk (Kd.R_mono (ok' := (fun k_ => some k_ ≠ (v200 : Value).ownBlock)) HO194.out (fun k_ hk => hk.2)); clear HO194; have HO194 := n_; clear n_; obtain ⟨hy31_, hz31_⟩ := Kd.R_celln 0 HO194.out ((ji12) : Int) (of_decide_eq_true (by first | (with_reducible assumption) | assumption)) (of_decide_eq_true (by first | (with_reducible assumption) | assumption)); have HP31 := Kd.R_putg HO194.out ((ji12) : Int) (Go.bits .xor .u8 (rd y196 (ji12)) (ji17))) | ((with_reducible refine gate_store (t := 5) (p := 79) rfl ?_); refine store_event (t := 5) (p := 79) (v := ?vo_w32) (w1 := (w30.setCell ⟨go18, ((ji12) : Int).toNat, none⟩ (.int .u8 (Go.bits .xor .u8 (rd y196 (ji12)) (ji17))))) ?hg ?ho ?hn ?hr ?_; (case ho => rfl); (case hg => rfl); (case hn => rfl); (case hr => first | (go_simp; done) | (go_simp; rfl)); intro w32 hw; have hg : w30.grownBy w32 (some go18) := (by rw [hw]; exact HP31.2); have hp_ : Kd.R (Kd.int .u8) 5 w32 w.heap.size (fun k_ => some k_ ≠ (v200 : Value).ownBlock) (.slice (some ⟨go18, 0, none⟩) t191.length co27) y203 := (by rw [hw, Ny203.out]; exact HP31.1); clear HP31; have n0_ := Aside0.mk (hp_); have n1_ := Aside0.mk (Kd.R_after (v := (.slice (some ⟨go18, 0, none⟩) t191.length co27)) (v1 := (.slice (some ⟨go18, 0, none⟩) t191.length co27)) (ok := (fun _ => True)) (by (with_reducible repeat (first | apply Kd.R_alloc | apply Kd.R_drewN | apply Kd.R_drew)); exact HO201.out) hg (.inl rfl)); have n2_ := Aside0.mk ((by rw [hw]; exact below_set (HB.out) GB18.out : Below w.heap.size w w32)); clear HO194; clear HO201; clear HB; have HO194 := n0_; have HO201 := n1_; have HB := n2_; clear n0_ n1_ n2_; clear hg hw hp_) | ((with_reducible refine gate_callee (f := 27) rfl ?_); refine goesL_ (some 82) rfl rfl Try.func27 (by kernel_rfl) rfl #[.slice (some ⟨go18, 0, none⟩) y203.length co27] rfl (by (try simp only [List.map_toArray, List.map_cons, List.map_nil]); first | done | (rw [show y203.length = t191.length from (Kd.R_reads' HO194.out).1.symm] <;> rfl) | rfl | (simp only [List.length_drop, List.length_take]; rfl)) ?_; (with_reducible refine (frame_Read.calls _ _ y203 t204 t205 t206 _ ?side1 ?side2 A23.out).mono ?_); (case side1 => repeat (first | exact (Kd.R_reads' HO194.out).2.2 | (with_reducible refine Kd.C_alloc ?_ _) | (with_reducible refine Kd.C_drewN ?_ _) | (with_reducible refine Kd.C_drew ?_))); (case side2 => rw [show y203.length = t191.length from (Kd.R_reads' HO194.out).1.symm]; exact (Kd.R_reads' HO194.out).2.1); rintro e w33 ⟨v207, rfl, ho0, hb⟩; refine ⟨_, rfl, ?_⟩; have n0_ := Aside0.mk (Kd.R_elder' (by (with_reducible repeat (first | apply Kd.R_alloc | apply Kd.R_drewN | apply Kd.R_drew)); exact HO194.out) (Kd.R_base ho0) hb); have n1_ := Aside0.mk (Kd.R_elder' (by (with_reducible repeat (first | apply Kd.R_alloc | apply Kd.R_drewN | apply Kd.R_drew)); exact HO201.out) (Kd.R_base ho0) hb); have n2_ := Aside0.mk (Kd.R_lower (Kd.R_new' (Kd.R_new' ho0 (Kd.R_lt (by (with_reducible repeat (first | apply Kd.R_alloc | apply Kd.R_drewN | apply Kd.R_drew)); exact HO194.out))) (Kd.R_lt (by (with_reducible repeat (first | apply Kd.R_alloc | apply Kd.R_drewN | apply Kd.R_drew)); exact HO201.out))) (below_size (by repeat (first | (with_reducible first | exact HB.out | apply below_alloc | apply pw_below_drewN | apply below_drew1) | exact HB.out | exact Below.refl _ _)))); have n3_ := Aside0.mk (below_step (by repeat (first | (with_reducible first | exact HB.out | apply below_alloc | apply pw_below_drewN | apply below_drew1) | exact HB.out | exact Below.refl _ _)) hb); clear HO194; clear HO201; clear HB; have HO194 := n0_; have HO201 := n1_; have HO208 := n2_; have HB := n3_; clear n0_ n1_ n2_ n3_; (try clear hb); (try clear hb2); (try clear hk); (try clear hi); (try clear ho0)))
                (try simp only [Act.put, List.setIfInBounds_toArray, List.set_cons_zero, List.set_cons_succ])
                go_cut [91] (fun v91 wc => ∃ (kq : Nat) (x91_23 : Bool), v91 = .bool x91_23 ∧ Aside0 (prompterlaw06_FrameBits.j0 kq l0 a2 a3 y203 x91_23 = some r) ∧ Aside0 (kq ≤ k) ∧ Aside0 (Kd.R (Kd.int .u8) 5 wc w.heap.size (fun _ => True) (.slice (some ⟨go18, 0, none⟩) t191.length co27) y203) ∧ Aside0 (Below w.heap.size w wc))
                case first =>
                  have H := HC24.out
                  clear HC24
                  by_cases c34 : t199 = 0
                  · rw [if_pos c34] at H
                    have c34b0 : (t199 == 0) = true := beq_iff_eq.mpr c34
                    have c34b1 : (t199 != 0) = false := bne_eq_false_iff_eq.mpr c34
                    clear c34
                    (first | rw [c34b0] | (simp only [i64_w, i32_w]; rw [c34b0]) | skip)
                    have H' := Aside0.mk H
                    clear H
                    go_wp2
                    go_meet
                    case rel => exact ⟨_, (true), (by first | rfl | (simp; done) | (simp [*]; done)), H', ⟨by first | omega | exact Nat.le_refl _⟩, ⟨by (with_reducible repeat (first | apply Kd.R_alloc | apply Kd.R_drewN | apply Kd.R_drew)); exact Kd.R_mono HO194.out (fun _ hk => trivial)⟩, ⟨by repeat (first | (with_reducible first | exact HB.out | apply below_alloc | apply pw_below_drewN | apply below_drew1) | exact HB.out | exact Below.refl _ _)⟩⟩
                  · rw [if_neg c34] at H
                    have c34b0 : (t199 == 0) = false := beq_eq_false_iff_ne.mpr c34
                    have c34b1 : (t199 != 0) = true := bne_iff_ne.mpr c34
                    (first | rw [c34b0] | (simp only [i64_w, i32_w]; rw [c34b0]) | skip)
                    have H' := Aside0.mk H
                    clear H
                    go_wp2
                    go_meet
                    case rel => exact ⟨_, ((t206 != 0)), (by first | rfl | (simp; done) | (simp [*]; done)), H', ⟨by first | omega | exact Nat.le_refl _⟩, ⟨by (with_reducible repeat (first | apply Kd.R_alloc | apply Kd.R_drewN | apply Kd.R_drew)); exact Kd.R_mono HO194.out (fun _ hk => trivial)⟩, ⟨by repeat (first | (with_reducible first | exact HB.out | apply below_alloc | apply pw_below_drewN | apply below_drew1) | exact HB.out | exact Below.refl _ _)⟩⟩
                case rest =>
                  clear HC24
                  try clear c1
                  try clear p1
                  try clear q1
                  try clear hx1
                  try clear c2
                  try clear p2
                  try clear q2
                  try clear hx2
                  try clear c3
                  try clear c4
                  try clear c6
                  try clear p6
                  try clear c7
                  try clear c7b0
                  try clear c7b1
                  try clear c10
                  try clear c10b0
                  try clear c10b1
                  try clear c11
                  try clear c11b0
                  try clear c11b1
                  try clear c13
                  try clear c13b0
                  try clear c14
                  try clear c14b0
                  try clear c16
                  try clear c16b0
                  try clear c16b1
                  try clear p18
                  try clear q18
                  try clear hx18
                  try clear hf18
                  try clear p19
                  try clear q19
                  try clear hx19
                  try clear c20
                  try clear c20b0
                  try clear p20
                  try clear q20
                  try clear hx20
                  try clear c21
                  try clear c21b0
                  try clear p22
                  try clear q22
                  try clear hx22
                  try clear hf22
                  try clear c23
                  try clear c27
                  try clear c34
                  try clear c34b0
                  try clear c34b1
                  try clear hx18_0
                  try clear hx195_0
                  try clear hx202_0
                  try clear hx22_0
                  try clear p18
                  try clear p195
                  try clear p202
                  try clear p22
                  try clear q18
                  try clear q195
                  try clear q202
                  try clear q22
                  obtain ⟨kq, x91_23, rfl, HA, HJ23, HO_9, HB⟩ := hcut
                  have hl9_23 := (Kd.R_reads' HO_9.out).1
                  rw [hl9_23] at HO_9
                  (try simp only [hl9_23])
                  cases kq with
                  | zero => exact absurd HA.out (by simp [prompterlaw06_FrameBits.j0])
                  | succ kj23 =>
                    have H := HA.out
                    clear HA
                    simp only [prompterlaw06_FrameBits.j0] at H
                    by_cases c35 : x91_23 = true
                    · subst c35
                      have H1 : (some false) = some r := by rw [if_pos rfl] at H; exact H
                      clear H
                      have H := H1
                      clear H1
                      obtain rfl := Option.some.inj H
                      go_wp2
                      go_ret
                      exact ⟨by first | rfl | (simp [errW_none, errW_some] <;> rfl) | (simp only [← hji12, ← hji15, ← hji17]; first | rfl | (simp [errW_none, errW_some] <;> rfl)) | (simp [*, errW_none, errW_some] <;> rfl), by repeat (first | (with_reducible first | exact HB.out | apply below_alloc | apply pw_below_drewN | apply below_drew1) | exact HB.out | exact Below.refl _ _)⟩
                    · replace c35 := Bool.eq_false_iff.mpr c35
                      subst c35
                      have H1 : (if (IntKind.u64.wrap (wrap64 (8 * (wrap64 ((l0.length : Int) + 4))))) = 0 then (none) else (prompterlaw06_FrameBits.l0 kj23 l0 a3 y203 (wrap64 (8 * (wrap64 ((l0.length : Int) + 4)))) (wrap64 (Int.tmod (IntKind.u64.wrap (a2)) (IntKind.u64.wrap (wrap64 (8 * (wrap64 ((l0.length : Int) + 4))))))) false 0)) = some r := by rw [if_neg (show ¬ (false = true) by decide)] at H; exact H
                      clear H
                      have H := H1
                      clear H1
                      by_cases c36 : (IntKind.u64.wrap (wrap64 (8 * (wrap64 ((l0.length : Int) + 4))))) = 0
                      · rw [if_pos c36] at H
                        exact absurd H (by simp)
                      · rw [if_neg c36] at H
                        have c36b0 : ((IntKind.u64.wrap (wrap64 (8 * (wrap64 ((l0.length : Int) + 4))))) == 0) = false := beq_eq_false_iff_ne.mpr c36
                        have c36b1 : ((IntKind.u64.wrap (wrap64 (8 * (wrap64 ((l0.length : Int) + 4))))) != 0) = true := bne_iff_ne.mpr c36
                        have H' := Aside0.mk H
                        clear H
                        go_wp2
                        go_loopg [20, 21] kj23 (fun kq v20 v21 w' => ∃ (x9_2 : List Int) (x20_2 : Bool) (x21_2 : Int), v20 = .bool x20_2 ∧ v21 = .int .i64 x21_2 ∧ Aside0 (prompterlaw06_FrameBits.l0 kq l0 a3 x9_2 (wrap64 (8 * (wrap64 ((l0.length : Int) + 4)))) (wrap64 (Int.tmod (IntKind.u64.wrap (a2)) (IntKind.u64.wrap (wrap64 (8 * (wrap64 ((l0.length : Int) + 4))))))) x20_2 x21_2 = some r) ∧ Aside0 (kq ≤ kj23) ∧ Aside0 (Kd.R (Kd.int .u8) 5 w' w.heap.size (fun _ => True) (.slice (some ⟨go18, 0, none⟩) y203.length co27) x9_2) ∧ Aside0 (Below w.heap.size w w'))
                        case atStart => exact ⟨(y203), (false), (0), (by first | rfl | (simp; done) | (simp [*]; done)), (by first | rfl | (simp; done) | (simp [*]; done)), H', ⟨Nat.le_refl _⟩, ⟨by (try simp only [hl9_23]); (with_reducible repeat (first | apply Kd.R_alloc | apply Kd.R_drewN | apply Kd.R_drew)); exact HO_9.out⟩, ⟨by repeat (first | (with_reducible first | exact HB.out | apply below_alloc | apply pw_below_drewN | apply below_drew1) | exact HB.out | exact Below.refl _ _)⟩⟩
                        case round =>
                          clear H'
                          try clear c1
                          try clear p1
                          try clear q1
                          try clear hx1
                          try clear c2
                          try clear p2
                          try clear q2
                          try clear hx2
                          try clear c3
                          try clear c4
                          try clear c6
                          try clear p6
                          try clear c7
                          try clear c7b0
                          try clear c7b1
                          try clear c10
                          try clear c10b0
                          try clear c10b1
                          try clear c11
                          try clear c11b0
                          try clear c11b1
                          try clear c13
                          try clear c13b0
                          try clear c14
                          try clear c14b0
                          try clear c16
                          try clear c16b0
                          try clear c16b1
                          try clear p18
                          try clear q18
                          try clear hx18
                          try clear hf18
                          try clear p19
                          try clear q19
                          try clear hx19
                          try clear c20
                          try clear c20b0
                          try clear p20
                          try clear q20
                          try clear hx20
                          try clear c21
                          try clear c21b0
                          try clear p22
                          try clear q22
                          try clear hx22
                          try clear hf22
                          try clear c23
                          try clear c27
                          try clear c34
                          try clear c34b0
                          try clear c34b1
                          try clear c35
                          try clear c36
                          try clear c36b0
                          try clear c36b1
                          try clear hx18_0
                          try clear hx195_0
                          try clear hx202_0
                          try clear hx22_0
                          try clear p1
                          try clear p18
                          try clear p19
                          try clear p195
                          try clear p2
                          try clear p20
                          try clear p202
                          try clear p22
                          try clear p6
                          try clear q1
                          try clear q18
                          try clear q19
                          try clear q195
                          try clear q2
                          try clear q20
                          try clear q202
                          try clear q22
                          obtain ⟨x9_2, x20_2, x21_2, rfl, rfl, HA, HK2, HO_9, HB⟩ := hrel
                          have hl9_2 := (Kd.R_reads' HO_9.out).1
                          rw [hl9_2] at HO_9
                          (try simp only [hl9_2])
                          cases gk with
                          | zero => exact absurd HA.out (by simp [prompterlaw06_FrameBits.l0])
                          | succ k2 =>
                            have H := HA.out
                            clear HA
                            simp only [prompterlaw06_FrameBits.l0] at H
                            have HC37 := Aside0.mk H
                            clear H
                            go_upto_region 19 with (fail)
                            go_cut [110] (fun v110 wc => ∃ (kq : Nat) (x110_36 : Bool), v110 = .bool x110_36 ∧ Aside0 (prompterlaw06_FrameBits.j2 kq l0 a3 x9_2 (wrap64 (8 * (wrap64 ((l0.length : Int) + 4)))) (wrap64 (Int.tmod (IntKind.u64.wrap (a2)) (IntKind.u64.wrap (wrap64 (8 * (wrap64 ((l0.length : Int) + 4))))))) x20_2 x21_2 x110_36 = some r) ∧ Aside0 (kq ≤ k2) ∧ Aside0 (Kd.R (Kd.int .u8) 5 wc w.heap.size (fun _ => True) (.slice (some ⟨go18, 0, none⟩) x9_2.length co27) x9_2) ∧ Aside0 (Below w.heap.size w wc))
                            case first =>
                              have H := HC37.out
                              clear HC37
                              by_cases c38 : x21_2 < 32
                              · rw [if_pos c38] at H
                                have c38b0 : decide (x21_2 < 32) = true := decide_eq_true c38
                                clear c38
                                (first | rw [c38b0] | (simp only [i64_w, i32_w]; rw [c38b0]) | skip)
                                have H' := Aside0.mk H
                                clear H
                                go_wp2
                                go_meet
                                case rel => exact ⟨_, (decide ((wrap64 ((wrap64 (Int.tmod (IntKind.u64.wrap (a2)) (IntKind.u64.wrap (wrap64 (8 * (wrap64 ((l0.length : Int) + 4))))))) + x21_2)) < (wrap64 (8 * (wrap64 ((l0.length : Int) + 4)))))), (by first | rfl | (simp; done) | (simp [*]; done)), H', ⟨by have := HJ23.out; have := HK2.out; first | omega | exact Nat.le_refl _⟩, ⟨by (try simp only [hl9_23]); (try simp only [hl9_2]); (with_reducible repeat (first | apply Kd.R_alloc | apply Kd.R_drewN | apply Kd.R_drew)); exact HO_9.out⟩, ⟨by repeat (first | (with_reducible first | exact HB.out | apply below_alloc | apply pw_below_drewN | apply below_drew1) | exact HB.out | exact Below.refl _ _)⟩⟩
                              · rw [if_neg c38] at H
                                have c38b0 : decide (x21_2 < 32) = false := decide_eq_false c38
                                clear c38
                                (first | rw [c38b0] | (simp only [i64_w, i32_w]; rw [c38b0]) | skip)
                                have H' := Aside0.mk H
                                clear H
                                go_wp2
                                go_meet
                                case rel => exact ⟨_, (false), (by first | rfl | (simp; done) | (simp [*]; done)), H', ⟨by have := HJ23.out; have := HK2.out; first | omega | exact Nat.le_refl _⟩, ⟨by (try simp only [hl9_23]); (try simp only [hl9_2]); (with_reducible repeat (first | apply Kd.R_alloc | apply Kd.R_drewN | apply Kd.R_drew)); exact HO_9.out⟩, ⟨by repeat (first | (with_reducible first | exact HB.out | apply below_alloc | apply pw_below_drewN | apply below_drew1) | exact HB.out | exact Below.refl _ _)⟩⟩
                            case rest =>
                              clear HC37
                              try clear c1
                              try clear p1
                              try clear q1
                              try clear hx1
                              try clear c2
                              try clear p2
                              try clear q2
                              try clear hx2
                              try clear c3
                              try clear c4
                              try clear c6
                              try clear p6
                              try clear c7
                              try clear c7b0
                              try clear c7b1
                              try clear c10
                              try clear c10b0
                              try clear c10b1
                              try clear c11
                              try clear c11b0
                              try clear c11b1
                              try clear c13
                              try clear c13b0
                              try clear c14
                              try clear c14b0
                              try clear c16
                              try clear c16b0
                              try clear c16b1
                              try clear p18
                              try clear q18
                              try clear hx18
                              try clear hf18
                              try clear p19
                              try clear q19
                              try clear hx19
                              try clear c20
                              try clear c20b0
                              try clear p20
                              try clear q20
                              try clear hx20
                              try clear c21
                              try clear c21b0
                              try clear p22
                              try clear q22
                              try clear hx22
                              try clear hf22
                              try clear c23
                              try clear c27
                              try clear c34
                              try clear c34b0
                              try clear c34b1
                              try clear c35
                              try clear c36
                              try clear c36b0
                              try clear c36b1
                              try clear c38
                              try clear c38b0
                              try clear hx18_0
                              try clear hx195_0
                              try clear hx202_0
                              try clear hx22_0
                              try clear p1
                              try clear p18
                              try clear p19
                              try clear p195
                              try clear p2
                              try clear p20
                              try clear p202
                              try clear p22
                              try clear p6
                              try clear q1
                              try clear q18
                              try clear q19
                              try clear q195
                              try clear q2
                              try clear q20
                              try clear q202
                              try clear q22
                              obtain ⟨kq, x110_36, rfl, HA, HJ36, HO_9, HB⟩ := hcut
                              cases kq with
                              | zero => exact absurd HA.out (by simp [prompterlaw06_FrameBits.j2])
                              | succ kj36 =>
                                have H := HA.out
                                clear HA
                                simp only [prompterlaw06_FrameBits.j2] at H
                                by_cases c39 : x110_36 = true
                                · subst c39
                                  have H1 : (if 0 ≤ (IntKind.u64.wrap (x21_2)) then (if (Go.bits .and .u32 (shr .u32 a3 (IntKind.u64.wrap (x21_2))) 1) = 1 then (if 0 ≤ (wrap64 (Int.tdiv (wrap64 ((wrap64 (64 + (wrap64 (Int.tmod (IntKind.u64.wrap (a2)) (IntKind.u64.wrap (wrap64 (8 * (wrap64 ((l0.length : Int) + 4))))))))) + x21_2)) 8)) then (if (wrap64 (Int.tdiv (wrap64 ((wrap64 (64 + (wrap64 (Int.tmod (IntKind.u64.wrap (a2)) (IntKind.u64.wrap (wrap64 (8 * (wrap64 ((l0.length : Int) + 4))))))))) + x21_2)) 8)) < (x9_2.length : Int) then (if 0 ≤ (IntKind.u64.wrap (Int.tmod (wrap64 ((wrap64 (64 + (wrap64 (Int.tmod (IntKind.u64.wrap (a2)) (IntKind.u64.wrap (wrap64 (8 * (wrap64 ((l0.length : Int) + 4))))))))) + x21_2)) 8)) then (prompterlaw06_FrameBits.l0 kj36 l0 a3 (x9_2.set ((wrap64 (Int.tdiv (wrap64 ((wrap64 (64 + (wrap64 (Int.tmod (IntKind.u64.wrap (a2)) (IntKind.u64.wrap (wrap64 (8 * (wrap64 ((l0.length : Int) + 4))))))))) + x21_2)) 8)) : Int).toNat (Go.bits .xor .u8 (rd x9_2 (wrap64 (Int.tdiv (wrap64 ((wrap64 (64 + (wrap64 (Int.tmod (IntKind.u64.wrap (a2)) (IntKind.u64.wrap (wrap64 (8 * (wrap64 ((l0.length : Int) + 4))))))))) + x21_2)) 8))) (shl .u8 1 (IntKind.u64.wrap (Int.tmod (wrap64 ((wrap64 (64 + (wrap64 (Int.tmod (IntKind.u64.wrap (a2)) (IntKind.u64.wrap (wrap64 (8 * (wrap64 ((l0.length : Int) + 4))))))))) + x21_2)) 8))))) (wrap64 (8 * (wrap64 ((l0.length : Int) + 4)))) (wrap64 (Int.tmod (IntKind.u64.wrap (a2)) (IntKind.u64.wrap (wrap64 (8 * (wrap64 ((l0.length : Int) + 4))))))) true (wrap64 (x21_2 + 1))) else (none)) else (none)) else (none)) else (prompterlaw06_FrameBits.l0 kj36 l0 a3 x9_2 (wrap64 (8 * (wrap64 ((l0.length : Int) + 4)))) (wrap64 (Int.tmod (IntKind.u64.wrap (a2)) (IntKind.u64.wrap (wrap64 (8 * (wrap64 ((l0.length : Int) + 4))))))) x20_2 (wrap64 (x21_2 + 1)))) else (none)) = some r := by rw [if_pos rfl] at H; exact H
                                  clear H
                                  have H := H1
                                  clear H1
                                  obtain ⟨ji40, hji40⟩ : ∃ j_ : Int, (IntKind.u64.wrap (x21_2)) = j_ := ⟨_, rfl⟩
                                  replace H : (if 0 ≤ (ji40) then (if (Go.bits .and .u32 (shr .u32 a3 (ji40)) 1) = 1 then (if 0 ≤ (wrap64 (Int.tdiv (wrap64 ((wrap64 (64 + (wrap64 (Int.tmod (IntKind.u64.wrap (a2)) (IntKind.u64.wrap (wrap64 (8 * (wrap64 ((l0.length : Int) + 4))))))))) + x21_2)) 8)) then (if (wrap64 (Int.tdiv (wrap64 ((wrap64 (64 + (wrap64 (Int.tmod (IntKind.u64.wrap (a2)) (IntKind.u64.wrap (wrap64 (8 * (wrap64 ((l0.length : Int) + 4))))))))) + x21_2)) 8)) < (x9_2.length : Int) then (if 0 ≤ (IntKind.u64.wrap (Int.tmod (wrap64 ((wrap64 (64 + (wrap64 (Int.tmod (IntKind.u64.wrap (a2)) (IntKind.u64.wrap (wrap64 (8 * (wrap64 ((l0.length : Int) + 4))))))))) + x21_2)) 8)) then (prompterlaw06_FrameBits.l0 kj36 l0 a3 (x9_2.set ((wrap64 (Int.tdiv (wrap64 ((wrap64 (64 + (wrap64 (Int.tmod (IntKind.u64.wrap (a2)) (IntKind.u64.wrap (wrap64 (8 * (wrap64 ((l0.length : Int) + 4))))))))) + x21_2)) 8)) : Int).toNat (Go.bits .xor .u8 (rd x9_2 (wrap64 (Int.tdiv (wrap64 ((wrap64 (64 + (wrap64 (Int.tmod (IntKind.u64.wrap (a2)) (IntKind.u64.wrap (wrap64 (8 * (wrap64 ((l0.length : Int) + 4))))))))) + x21_2)) 8))) (shl .u8 1 (IntKind.u64.wrap (Int.tmod (wrap64 ((wrap64 (64 + (wrap64 (Int.tmod (IntKind.u64.wrap (a2)) (IntKind.u64.wrap (wrap64 (8 * (wrap64 ((l0.length : Int) + 4))))))))) + x21_2)) 8))))) (wrap64 (8 * (wrap64 ((l0.length : Int) + 4)))) (wrap64 (Int.tmod (IntKind.u64.wrap (a2)) (IntKind.u64.wrap (wrap64 (8 * (wrap64 ((l0.length : Int) + 4))))))) true (wrap64 (x21_2 + 1))) else (none)) else (none)) else (none)) else (prompterlaw06_FrameBits.l0 kj36 l0 a3 x9_2 (wrap64 (8 * (wrap64 ((l0.length : Int) + 4)))) (wrap64 (Int.tmod (IntKind.u64.wrap (a2)) (IntKind.u64.wrap (wrap64 (8 * (wrap64 ((l0.length : Int) + 4))))))) x20_2 (wrap64 (x21_2 + 1)))) else (none)) = some r := by first | (rw [hji40] at H; exact H) | (simp only [hji40] at H ⊢; exact H)
                                  by_cases c41 : 0 ≤ (ji40)
                                  · rw [if_pos c41] at H
                                    have c41b0 := eq_true c41
                                    have c41b1 : decide (0 ≤ (ji40)) = true := decide_eq_true c41
                                    clear c41
                                    obtain ⟨ji42, hji42⟩ : ∃ j_ : Int, (shr .u32 a3 (ji40)) = j_ := ⟨_, rfl⟩
                                    replace H : (if (Go.bits .and .u32 (ji42) 1) = 1 then (if 0 ≤ (wrap64 (Int.tdiv (wrap64 ((wrap64 (64 + (wrap64 (Int.tmod (IntKind.u64.wrap (a2)) (IntKind.u64.wrap (wrap64 (8 * (wrap64 ((l0.length : Int) + 4))))))))) + x21_2)) 8)) then (if (wrap64 (Int.tdiv (wrap64 ((wrap64 (64 + (wrap64 (Int.tmod (IntKind.u64.wrap (a2)) (IntKind.u64.wrap (wrap64 (8 * (wrap64 ((l0.length : Int) + 4))))))))) + x21_2)) 8)) < (x9_2.length : Int) then (if 0 ≤ (IntKind.u64.wrap (Int.tmod (wrap64 ((wrap64 (64 + (wrap64 (Int.tmod (IntKind.u64.wrap (a2)) (IntKind.u64.wrap (wrap64 (8 * (wrap64 ((l0.length : Int) + 4))))))))) + x21_2)) 8)) then (prompterlaw06_FrameBits.l0 kj36 l0 a3 (x9_2.set ((wrap64 (Int.tdiv (wrap64 ((wrap64 (64 + (wrap64 (Int.tmod (IntKind.u64.wrap (a2)) (IntKind.u64.wrap (wrap64 (8 * (wrap64 ((l0.length : Int) + 4))))))))) + x21_2)) 8)) : Int).toNat (Go.bits .xor .u8 (rd x9_2 (wrap64 (Int.tdiv (wrap64 ((wrap64 (64 + (wrap64 (Int.tmod (IntKind.u64.wrap (a2)) (IntKind.u64.wrap (wrap64 (8 * (wrap64 ((l0.length : Int) + 4))))))))) + x21_2)) 8))) (shl .u8 1 (IntKind.u64.wrap (Int.tmod (wrap64 ((wrap64 (64 + (wrap64 (Int.tmod (IntKind.u64.wrap (a2)) (IntKind.u64.wrap (wrap64 (8 * (wrap64 ((l0.length : Int) + 4))))))))) + x21_2)) 8))))) (wrap64 (8 * (wrap64 ((l0.length : Int) + 4)))) (wrap64 (Int.tmod (IntKind.u64.wrap (a2)) (IntKind.u64.wrap (wrap64 (8 * (wrap64 ((l0.length : Int) + 4))))))) true (wrap64 (x21_2 + 1))) else (none)) else (none)) else (none)) else (prompterlaw06_FrameBits.l0 kj36 l0 a3 x9_2 (wrap64 (8 * (wrap64 ((l0.length : Int) + 4)))) (wrap64 (Int.tmod (IntKind.u64.wrap (a2)) (IntKind.u64.wrap (wrap64 (8 * (wrap64 ((l0.length : Int) + 4))))))) x20_2 (wrap64 (x21_2 + 1)))) = some r := by first | (rw [hji42] at H; exact H) | (simp only [hji42] at H ⊢; exact H)
                                    have hji42_ : (a3 / 2 ^ min (ji40).toNat 32) = ji42 := hji42
                                    have hji42z : (ji40) ≤ 32 → (a3 / 2 ^ (ji40).toNat) = ji42 := shr_small hji42
                                    by_cases c43 : (Go.bits .and .u32 (ji42) 1) = 1
                                    · rw [if_pos c43] at H
                                      have c43b0 : ((Go.bits .and .u32 (ji42) 1) == 1) = true := beq_iff_eq.mpr c43
                                      have c43b1 : ((Go.bits .and .u32 (ji42) 1) != 1) = false := bne_eq_false_iff_eq.mpr c43
                                      clear c43
                                      obtain ⟨ji44, hji44⟩ : ∃ j_ : Int, (wrap64 (Int.tdiv (wrap64 ((wrap64 (64 + (wrap64 (Int.tmod (IntKind.u64.wrap (a2)) (IntKind.u64.wrap (wrap64 (8 * (wrap64 ((l0.length : Int) + 4))))))))) + x21_2)) 8)) = j_ := ⟨_, rfl⟩
                                      replace H : (if 0 ≤ (ji44) then (if (ji44) < (x9_2.length : Int) then (if 0 ≤ (IntKind.u64.wrap (Int.tmod (wrap64 ((wrap64 (64 + (wrap64 (Int.tmod (IntKind.u64.wrap (a2)) (IntKind.u64.wrap (wrap64 (8 * (wrap64 ((l0.length : Int) + 4))))))))) + x21_2)) 8)) then (prompterlaw06_FrameBits.l0 kj36 l0 a3 (x9_2.set ((ji44) : Int).toNat (Go.bits .xor .u8 (rd x9_2 (ji44)) (shl .u8 1 (IntKind.u64.wrap (Int.tmod (wrap64 ((wrap64 (64 + (wrap64 (Int.tmod (IntKind.u64.wrap (a2)) (IntKind.u64.wrap (wrap64 (8 * (wrap64 ((l0.length : Int) + 4))))))))) + x21_2)) 8))))) (wrap64 (8 * (wrap64 ((l0.length : Int) + 4)))) (wrap64 (Int.tmod (IntKind.u64.wrap (a2)) (IntKind.u64.wrap (wrap64 (8 * (wrap64 ((l0.length : Int) + 4))))))) true (wrap64 (x21_2 + 1))) else (none)) else (none)) else (none)) = some r := by first | (rw [hji44] at H; exact H) | (simp only [hji44] at H ⊢; exact H)
                                      have hji44w : (IntKind.i64.wrap (Int.tdiv (wrap64 ((wrap64 (64 + (wrap64 (Int.tmod (IntKind.u64.wrap (a2)) (IntKind.u64.wrap (wrap64 (8 * (wrap64 ((l0.length : Int) + 4))))))))) + x21_2)) 8)) = ji44 := (i64_w _).trans hji44
                                      by_cases c45 : 0 ≤ (ji44)
                                      · rw [if_pos c45] at H
                                        have c45b0 : decide (0 ≤ (ji44)) = true := decide_eq_true c45
                                        clear c45
                                        by_cases c46 : (ji44) < (x9_2.length : Int)
                                        · rw [if_pos c46] at H
                                          have c46b0 : decide ((ji44) < (x9_2.length : Int)) = true := decide_eq_true c46
                                          clear c46
                                          obtain ⟨ji47, hji47⟩ : ∃ j_ : Int, (IntKind.u64.wrap (Int.tmod (wrap64 ((wrap64 (64 + (wrap64 (Int.tmod (IntKind.u64.wrap (a2)) (IntKind.u64.wrap (wrap64 (8 * (wrap64 ((l0.length : Int) + 4))))))))) + x21_2)) 8)) = j_ := ⟨_, rfl⟩
                                          replace H : (if 0 ≤ (ji47) then (prompterlaw06_FrameBits.l0 kj36 l0 a3 (x9_2.set ((ji44) : Int).toNat (Go.bits .xor .u8 (rd x9_2 (ji44)) (shl .u8 1 (ji47)))) (wrap64 (8 * (wrap64 ((l0.length : Int) + 4)))) (wrap64 (Int.tmod (IntKind.u64.wrap (a2)) (IntKind.u64.wrap (wrap64 (8 * (wrap64 ((l0.length : Int) + 4))))))) true (wrap64 (x21_2 + 1))) else (none)) = some r := by first | (rw [hji47] at H; exact H) | (simp only [hji47] at H ⊢; exact H)
                                          by_cases c48 : 0 ≤ (ji47)
                                          · rw [if_pos c48] at H
                                            have c48b0 := eq_true c48
                                            have c48b1 : decide (0 ≤ (ji47)) = true := decide_eq_true c48
                                            clear c48
                                            obtain ⟨ji49, hji49⟩ : ∃ j_ : Int, (shl .u8 1 (ji47)) = j_ := ⟨_, rfl⟩
                                            replace H : (prompterlaw06_FrameBits.l0 kj36 l0 a3 (x9_2.set ((ji44) : Int).toNat (Go.bits .xor .u8 (rd x9_2 (ji44)) (ji49))) (wrap64 (8 * (wrap64 ((l0.length : Int) + 4)))) (wrap64 (Int.tmod (IntKind.u64.wrap (a2)) (IntKind.u64.wrap (wrap64 (8 * (wrap64 ((l0.length : Int) + 4))))))) true (wrap64 (x21_2 + 1))) = some r := by first | (rw [hji49] at H; exact H) | (simp only [hji49] at H ⊢; exact H)
                                            have hji49_ : (IntKind.u8.wrap (1 * 2 ^ min (ji47).toNat 8)) = ji49 := hji49
                                            have hji49z : (ji47) ≤ 8 → (IntKind.u8.wrap (1 * 2 ^ (ji47).toNat)) = ji49 := shl_small hji49
                                            have hji49u : (IntKind.u8.wrap (2 ^ min (ji47).toNat 8)) = ji49 := by have h_ := hji49_; rw [Int.one_mul] at h_; exact h_
                                            have hji49v : (ji47) ≤ 8 → (IntKind.u8.wrap (2 ^ (ji47).toNat)) = ji49 := fun hle_ => by have h_ := hji49z hle_; rw [Int.one_mul] at h_; exact h_
                                            obtain ⟨y210, hy210⟩ : ∃ y_ : List Int, y_ = (x9_2.set ((ji44) : Int).toNat (Go.bits .xor .u8 (rd x9_2 (ji44)) (ji49))) := ⟨_, rfl⟩
                                            replace H : (prompterlaw06_FrameBits.l0 kj36 l0 a3 y210 (wrap64 (8 * (wrap64 ((l0.length : Int) + 4)))) (wrap64 (Int.tmod (IntKind.u64.wrap (a2)) (IntKind.u64.wrap (wrap64 (8 * (wrap64 ((l0.length : Int) + 4))))))) true (wrap64 (x21_2 + 1))) = some r := by first | (rw [hy210]; with_reducible exact H) | (have H2_ := (Option.bind_some _ _).symm.trans H; rw [hy210]; with_reducible exact H2_) | (have H2_ := (Option.bind_some _ _).symm.trans H; with_reducible exact H2_) | with_reducible exact H | (rw [hy210]; exact H) | exact H
                                            have Ny210 := Aside0.mk hy210
                                            clear hy210
                                            have H' := Aside0.mk H
                                            clear H
                                            have p209 : 0 ≤ ((ji44) : Int) := of_decide_eq_true (by first | (with_reducible assumption) | assumption)
                                            have q209 : (ji44) < (x9_2.length : Int) := of_decide_eq_true (by first | (with_reducible assumption) | assumption)
                                            obtain ⟨ad209, e209, hx209_0⟩ := Kd.at_int (Kd.R_reads' HO_9.out).2.2 (ji44) p209 q209
                                            obtain rfl : (⟨go18, 0, none⟩ : Addr) = ad209 := (by injection e209)
                                            (first | simp only [add_plain] at hx209_0 | simp only [add_at] at hx209_0 | simp only [Addr.add, Nat.zero_add] at hx209_0 | skip)
                                            replace p209 := eq_true p209
                                            replace q209 := eq_true q209
                                            have p50 : 0 ≤ ((ji44) : Int) := of_decide_eq_true (by first | (with_reducible assumption) | assumption)
                                            have q50 : ((ji44) : Int) < ((x9_2.length : Int) : Int) := of_decide_eq_true (by first | (with_reducible assumption) | assumption)
                                            obtain ⟨hx50_0, hf50_0⟩ := Kd.R_celln 0 HO_9.out ((ji44) : Int) p50 q50
                                            replace p50 := eq_true p50
                                            replace q50 := eq_true q50
                                            have HP51 := Kd.R_putg HO_9.out ((ji44) : Int) (Go.bits .xor .u8 (rd x9_2 (ji44)) (ji49))
                                            go_wp2_with (first | ((with_reducible refine gate_store (t := 5) (p := 136) rfl ?_); refine store_event (t := 5) (p := 136) (v := ?vo_w52) (w1 := (wc.setCell ⟨go18, ((ji44) : Int).toNat, none⟩ (.int .u8 (Go.bits .xor .u8 (rd x9_2 (ji44)) (ji49))))) ?hg ?ho ?hn ?hr ?_; (case ho => rfl); (case hg => rfl); (case hn => rfl); (case hr => first | (go_simp; done) | (go_simp; rfl)); intro w52 hw; have hg : wc.grownBy w52 (some go18) := (by rw [hw]; exact HP51.2); have hp_ : Kd.R (Kd.int .u8) 5 w52 w.heap.size (fun _ => True) (.slice (some ⟨go18, 0, none⟩) x9_2.length co27) y210 := (by rw [hw, Ny210.out]; exact HP51.1); clear HP51; have n0_ := Aside0.mk (hp_); have n1_ := Aside0.mk ((by rw [hw]; exact below_set (HB.out) GB18.out : Below w.heap.size w w52)); clear HO_9; clear HB; have HO_9 := n0_; have HB := n1_; clear n0_ n1_; clear hg hw hp_))
                                            (try simp only [← hl9_2])
                                            go_roundg kj36
                                            case measure => have := HJ23.out; have := HK2.out; have := HJ36.out; omega
                                            case rel => exact ⟨(y210), (true), (wrap64 (x21_2 + 1)), (by first | rfl | (simp; done) | (simp [*]; done)), (by first | rfl | (simp; done) | (simp [*]; done)), H', ⟨by have := HJ23.out; have := HK2.out; have := HJ36.out; omega⟩, ⟨by (try simp only [hl9_23]); (try simp only [hl9_2]); (with_reducible repeat (first | apply Kd.R_alloc | apply Kd.R_drewN | apply Kd.R_drew)); exact HO_9.out⟩, ⟨by repeat (first | (with_reducible first | exact HB.out | apply below_alloc | apply pw_below_drewN | apply below_drew1) | exact HB.out | exact Below.refl _ _)⟩⟩
                                          · rw [if_neg c48] at H
                                            exact absurd H (by simp)
                                        · rw [if_neg c46] at H
                                          exact absurd H (by simp)
                                      · rw [if_neg c45] at H
                                        exact absurd H (by simp)
                                    · rw [if_neg c43] at H
                                      have c43b0 : ((Go.bits .and .u32 (ji42) 1) == 1) = false := beq_eq_false_iff_ne.mpr c43
                                      have c43b1 : ((Go.bits .and .u32 (ji42) 1) != 1) = true := bne_iff_ne.mpr c43
                                      have H' := Aside0.mk H
                                      clear H
                                      go_wp2
                                      (try simp only [← hl9_2])
                                      go_roundg kj36
                                      case measure => have := HJ23.out; have := HK2.out; have := HJ36.out; omega
                                      case rel => exact ⟨(x9_2), (x20_2), (wrap64 (x21_2 + 1)), (by first | rfl | (simp; done) | (simp [*]; done)), (by first | rfl | (simp; done) | (simp [*]; done)), H', ⟨by have := HJ23.out; have := HK2.out; have := HJ36.out; omega⟩, ⟨by (try simp only [hl9_23]); (try simp only [hl9_2]); (with_reducible repeat (first | apply Kd.R_alloc | apply Kd.R_drewN | apply Kd.R_drew)); exact HO_9.out⟩, ⟨by repeat (first | (with_reducible first | exact HB.out | apply below_alloc | apply pw_below_drewN | apply below_drew1) | exact HB.out | exact Below.refl _ _)⟩⟩
                                  · rw [if_neg c41] at H
                                    exact absurd H (by simp)
                                · replace c39 := Bool.eq_false_iff.mpr c39
                                  subst c39
                                  have H1 : ((frame_Read.f x9_2).bind fun bt211 => (if x20_2 = true then (if bt211.2.2 = 8 then (some (bt211.2.1 == (wrap64 (8 + (l0.length : Int))))) else (some false)) else (if bt211.2.2 = 0 then (some (bt211.2.1 == (x9_2.length : Int))) else (some false)))) = some r := by rw [if_neg (show ¬ (false = true) by decide)] at H; exact H
                                  clear H
                                  have H := H1
                                  clear H1
                                  replace H := Option.bind_eq_some_iff.mp H
                                  obtain ⟨⟨t211, t212, t213⟩, A530, H⟩ := H
                                  replace H : (if x20_2 = true then (if t213 = 8 then (some (t212 == (wrap64 (8 + (l0.length : Int))))) else (some false)) else (if t213 = 0 then (some (t212 == (x9_2.length : Int))) else (some false))) = some r := H
                                  have A53 := Aside0.mk A530
                                  clear A530
                                  by_cases c54 : x20_2 = true
                                  · subst c54
                                    have H1 : (if t213 = 8 then (some (t212 == (wrap64 (8 + (l0.length : Int))))) else (some false)) = some r := by rw [if_pos rfl] at H; exact H
                                    clear H
                                    have H := H1
                                    clear H1
                                    by_cases c55 : t213 = 8
                                    · rw [if_pos c55] at H
                                      have c55b0 : (t213 == 8) = true := beq_iff_eq.mpr c55
                                      have c55b1 : (t213 != 8) = false := bne_eq_false_iff_eq.mpr c55
                                      clear c55
                                      obtain rfl := Option.some.inj H
                                      go_wp2_with (first | ((with_reducible refine gate_callee (f := 27) rfl ?_); refine goesL_ (some 139) rfl rfl Try.func27 (by kernel_rfl) rfl #[.slice (some ⟨go18, 0, none⟩) x9_2.length co27] rfl (by (try simp only [List.map_toArray, List.map_cons, List.map_nil]); first | done | rfl | (simp only [List.length_drop, List.length_take]; rfl)) ?_; (with_reducible refine (frame_Read.calls _ _ x9_2 t211 t212 t213 _ ?side1 ?side2 A53.out).mono ?_); (case side1 => repeat (first | exact (Kd.R_reads' HO_9.out).2.2 | (with_reducible refine Kd.C_alloc ?_ _) | (with_reducible refine Kd.C_drewN ?_ _) | (with_reducible refine Kd.C_drew ?_))); (case side2 => exact (Kd.R_reads' HO_9.out).2.1); rintro e w56 ⟨v214, rfl, ho0, hb⟩; refine ⟨_, rfl, ?_⟩; have n0_ := Aside0.mk (Kd.R_elder' (by (with_reducible repeat (first | apply Kd.R_alloc | apply Kd.R_drewN | apply Kd.R_drew)); exact HO_9.out) (Kd.R_base ho0) hb); have n1_ := Aside0.mk (Kd.R_lower (Kd.R_new' ho0 (Kd.R_lt (by (with_reducible repeat (first | apply Kd.R_alloc | apply Kd.R_drewN | apply Kd.R_drew)); exact HO_9.out))) (below_size (by repeat (first | (with_reducible first | exact HB.out | apply below_alloc | apply pw_below_drewN | apply below_drew1) | exact HB.out | exact Below.refl _ _)))); have n2_ := Aside0.mk (below_step (by repeat (first | (with_reducible first | exact HB.out | apply below_alloc | apply pw_below_drewN | apply below_drew1) | exact HB.out | exact Below.refl _ _)) hb); clear HO_9; clear HB; have HO_9 := n0_; have HO215 := n1_; have HB := n2_; clear n0_ n1_ n2_; (try clear hb); (try clear hb2); (try clear hk); (try clear hi); (try clear ho0)))
                                      go_ret
                                      exact ⟨by first | rfl | (simp [errW_none, errW_some] <;> rfl) | (simp only [← hji12, ← hji15, ← hji17]; first | rfl | (simp [errW_none, errW_some] <;> rfl)) | (simp [*, errW_none, errW_some] <;> rfl), by repeat (first | (with_reducible first | exact HB.out | apply below_alloc | apply pw_below_drewN | apply below_drew1) | exact HB.out | exact Below.refl _ _)⟩
                                    · rw [if_neg c55] at H
                                      have c55b0 : (t213 == 8) = false := beq_eq_false_iff_ne.mpr c55
                                      have c55b1 : (t213 != 8) = true := bne_iff_ne.mpr c55
                                      obtain rfl := Option.some.inj H
                                      go_wp2_with (first | ((with_reducible refine gate_callee (f := 27) rfl ?_); refine goesL_ (some 139) rfl rfl Try.func27 (by kernel_rfl) rfl #[.slice (some ⟨go18, 0, none⟩) x9_2.length co27] rfl (by (try simp only [List.map_toArray, List.map_cons, List.map_nil]); first | done | rfl | (simp only [List.length_drop, List.length_take]; rfl)) ?_; (with_reducible refine (frame_Read.calls _ _ x9_2 t211 t212 t213 _ ?side1 ?side2 A53.out).mono ?_); (case side1 => repeat (first | exact (Kd.R_reads' HO_9.out).2.2 | (with_reducible refine Kd.C_alloc ?_ _) | (with_reducible refine Kd.C_drewN ?_ _) | (with_reducible refine Kd.C_drew ?_))); (case side2 => exact (Kd.R_reads' HO_9.out).2.1); rintro e w57 ⟨v214, rfl, ho0, hb⟩; refine ⟨_, rfl, ?_⟩; have n0_ := Aside0.mk (Kd.R_elder' (by (with_reducible repeat (first | apply Kd.R_alloc | apply Kd.R_drewN | apply Kd.R_drew)); exact HO_9.out) (Kd.R_base ho0) hb); have n1_ := Aside0.mk (Kd.R_lower (Kd.R_new' ho0 (Kd.R_lt (by (with_reducible repeat (first | apply Kd.R_alloc | apply Kd.R_drewN | apply Kd.R_drew)); exact HO_9.out))) (below_size (by repeat (first | (with_reducible first | exact HB.out | apply below_alloc | apply pw_below_drewN | apply below_drew1) | exact HB.out | exact Below.refl _ _)))); have n2_ := Aside0.mk (below_step (by repeat (first | (with_reducible first | exact HB.out | apply below_alloc | apply pw_below_drewN | apply below_drew1) | exact HB.out | exact Below.refl _ _)) hb); clear HO_9; clear HB; have HO_9 := n0_; have HO215 := n1_; have HB := n2_; clear n0_ n1_ n2_; (try clear hb); (try clear hb2); (try clear hk); (try clear hi); (try clear ho0)))
                                      go_ret
                                      exact ⟨by first | rfl | (simp [errW_none, errW_some] <;> rfl) | (simp only [← hji12, ← hji15, ← hji17]; first | rfl | (simp [errW_none, errW_some] <;> rfl)) | (simp [*, errW_none, errW_some] <;> rfl), by repeat (first | (with_reducible first | exact HB.out | apply below_alloc | apply pw_below_drewN | apply below_drew1) | exact HB.out | exact Below.refl _ _)⟩
                                  · replace c54 := Bool.eq_false_iff.mpr c54
                                    subst c54
                                    have H1 : (if t213 = 0 then (some (t212 == (x9_2.length : Int))) else (some false)) = some r := by rw [if_neg (show ¬ (false = true) by decide)] at H; exact H
                                    clear H
                                    have H := H1
                                    clear H1
                                    by_cases c58 : t213 = 0
                                    · rw [if_pos c58] at H
                                      have c58b0 : (t213 == 0) = true := beq_iff_eq.mpr c58
                                      have c58b1 : (t213 != 0) = false := bne_eq_false_iff_eq.mpr c58
                                      clear c58
                                      obtain rfl := Option.some.inj H
                                      go_wp2_with (first | ((with_reducible refine gate_callee (f := 27) rfl ?_); refine goesL_ (some 139) rfl rfl Try.func27 (by kernel_rfl) rfl #[.slice (some ⟨go18, 0, none⟩) x9_2.length co27] rfl (by (try simp only [List.map_toArray, List.map_cons, List.map_nil]); first | done | rfl | (simp only [List.length_drop, List.length_take]; rfl)) ?_; (with_reducible refine (frame_Read.calls _ _ x9_2 t211 t212 t213 _ ?side1 ?side2 A53.out).mono ?_); (case side1 => repeat (first | exact (Kd.R_reads' HO_9.out).2.2 | (with_reducible refine Kd.C_alloc ?_ _) | (with_reducible refine Kd.C_drewN ?_ _) | (with_reducible refine Kd.C_drew ?_))); (case side2 => exact (Kd.R_reads' HO_9.out).2.1); rintro e w59 ⟨v214, rfl, ho0, hb⟩; refine ⟨_, rfl, ?_⟩; have n0_ := Aside0.mk (Kd.R_elder' (by (with_reducible repeat (first | apply Kd.R_alloc | apply Kd.R_drewN | apply Kd.R_drew)); exact HO_9.out) (Kd.R_base ho0) hb); have n1_ := Aside0.mk (Kd.R_lower (Kd.R_new' ho0 (Kd.R_lt (by (with_reducible repeat (first | apply Kd.R_alloc | apply Kd.R_drewN | apply Kd.R_drew)); exact HO_9.out))) (below_size (by repeat (first | (with_reducible first | exact HB.out | apply below_alloc | apply pw_below_drewN | apply below_drew1) | exact HB.out | exact Below.refl _ _)))); have n2_ := Aside0.mk (below_step (by repeat (first | (with_reducible first | exact HB.out | apply below_alloc | apply pw_below_drewN | apply below_drew1) | exact HB.out | exact Below.refl _ _)) hb); clear HO_9; clear HB; have HO_9 := n0_; have HO215 := n1_; have HB := n2_; clear n0_ n1_ n2_; (try clear hb); (try clear hb2); (try clear hk); (try clear hi); (try clear ho0)))
                                      go_ret
                                      exact ⟨by first | rfl | (simp [errW_none, errW_some] <;> rfl) | (simp only [← hji12, ← hji15, ← hji17]; first | rfl | (simp [errW_none, errW_some] <;> rfl)) | (simp [*, errW_none, errW_some] <;> rfl), by repeat (first | (with_reducible first | exact HB.out | apply below_alloc | apply pw_below_drewN | apply below_drew1) | exact HB.out | exact Below.refl _ _)⟩
                                    · rw [if_neg c58] at H
                                      have c58b0 : (t213 == 0) = false := beq_eq_false_iff_ne.mpr c58
                                      have c58b1 : (t213 != 0) = true := bne_iff_ne.mpr c58
                                      obtain rfl := Option.some.inj H
                                      go_wp2_with (first | ((with_reducible refine gate_callee (f := 27) rfl ?_); refine goesL_ (some 139) rfl rfl Try.func27 (by kernel_rfl) rfl #[.slice (some ⟨go18, 0, none⟩) x9_2.length co27] rfl (by (try simp only [List.map_toArray, List.map_cons, List.map_nil]); first | done | rfl | (simp only [List.length_drop, List.length_take]; rfl)) ?_; (with_reducible refine (frame_Read.calls _ _ x9_2 t211 t212 t213 _ ?side1 ?side2 A53.out).mono ?_); (case side1 => repeat (first | exact (Kd.R_reads' HO_9.out).2.2 | (with_reducible refine Kd.C_alloc ?_ _) | (with_reducible refine Kd.C_drewN ?_ _) | (with_reducible refine Kd.C_drew ?_))); (case side2 => exact (Kd.R_reads' HO_9.out).2.1); rintro e w60 ⟨v214, rfl, ho0, hb⟩; refine ⟨_, rfl, ?_⟩; have n0_ := Aside0.mk (Kd.R_elder' (by (with_reducible repeat (first | apply Kd.R_alloc | apply Kd.R_drewN | apply Kd.R_drew)); exact HO_9.out) (Kd.R_base ho0) hb); have n1_ := Aside0.mk (Kd.R_lower (Kd.R_new' ho0 (Kd.R_lt (by (with_reducible repeat (first | apply Kd.R_alloc | apply Kd.R_drewN | apply Kd.R_drew)); exact HO_9.out))) (below_size (by repeat (first | (with_reducible first | exact HB.out | apply below_alloc | apply pw_below_drewN | apply below_drew1) | exact HB.out | exact Below.refl _ _)))); have n2_ := Aside0.mk (below_step (by repeat (first | (with_reducible first | exact HB.out | apply below_alloc | apply pw_below_drewN | apply below_drew1) | exact HB.out | exact Below.refl _ _)) hb); clear HO_9; clear HB; have HO_9 := n0_; have HO215 := n1_; have HB := n2_; clear n0_ n1_ n2_; (try clear hb); (try clear hb2); (try clear hk); (try clear hi); (try clear ho0)))
                                      go_ret
                                      exact ⟨by first | rfl | (simp [errW_none, errW_some] <;> rfl) | (simp only [← hji12, ← hji15, ← hji17]; first | rfl | (simp [errW_none, errW_some] <;> rfl)) | (simp [*, errW_none, errW_some] <;> rfl), by repeat (first | (with_reducible first | exact HB.out | apply below_alloc | apply pw_below_drewN | apply below_drew1) | exact HB.out | exact Below.refl _ _)⟩
              · rw [if_neg c16] at H
                exact absurd H (by simp)
            · rw [if_neg c14] at H
              exact absurd H (by simp)
          · rw [if_neg c13] at H
            exact absurd H (by simp)
      · rw [if_neg c10] at H
        have c10b0 : (t192 == 0) = false := beq_eq_false_iff_ne.mpr c10
        have c10b1 : (t192 != 0) = true := bne_iff_ne.mpr c10
        obtain rfl := Option.some.inj H
        go_enter Try.func4, Try.ntmps4
        go_wp2_with (first | ((with_reducible refine gate_callee (f := 21) rfl ?_); refine goesL_ (some 26) rfl rfl Try.func21 (by kernel_rfl) rfl #[] rfl (by (try simp only [List.map_toArray, List.map_cons, List.map_nil]); first | done | rfl | (simp only [List.length_drop, List.length_take]; rfl)) ?_; (with_reducible refine (prompterlaw06_awake.calls  true _ A5.out).mono ?_); rintro e w61 ⟨rfl, hb⟩; refine ⟨_, rfl, ?_⟩; have n0_ := Aside0.mk (below_step (by repeat (first | (with_reducible first | exact HB.out | apply below_alloc | apply pw_below_drewN | apply below_drew1) | exact HB.out | exact Below.refl _ _)) hb); clear HB; have HB := n0_; clear n0_; (try clear hb); (try clear hb2); (try clear hk); (try clear hi)) | ((with_reducible refine gate_callee (f := 23) rfl ?_); refine goesL_ (some 33) rfl rfl Try.func23 (by kernel_rfl) rfl #[.slice A0 l0.length c0] rfl (by (try simp only [List.map_toArray, List.map_cons, List.map_nil]); first | done | rfl | (simp only [List.length_drop, List.length_take]; rfl)) ?_; (with_reducible refine (frame_Frame.calls _ _ l0 t191 t192 _ ?side1 ?side2 A9.out).mono ?_); (case side1 => repeat (first | exact (Kd.C_below HR0.out HB.out) | exact HR0.out | (with_reducible refine Kd.C_alloc ?_ _) | (with_reducible refine Kd.C_drewN ?_ _) | (with_reducible refine Kd.C_drew ?_))); (case side2 => exact HC0.out); rintro e w62 ⟨v193, rfl, ho0, hb⟩; refine ⟨_, rfl, ?_⟩; have n0_ := Aside0.mk (Kd.R_lower ho0 (below_size (by repeat (first | (with_reducible first | exact HB.out | apply below_alloc | apply pw_below_drewN | apply below_drew1) | exact HB.out | exact Below.refl _ _)))); have n1_ := Aside0.mk (below_step (by repeat (first | (with_reducible first | exact HB.out | apply below_alloc | apply pw_below_drewN | apply below_drew1) | exact HB.out | exact Below.refl _ _)) hb); clear HB; have HO194 := n0_; have HB := n1_; clear n0_ n1_; (try clear hb); (try clear hb2); (try clear hk); (try clear hi); (try clear ho0)))
        go_ret
        exact ⟨by first | rfl | (simp [errW_none, errW_some] <;> rfl) | (simp [*, errW_none, errW_some] <;> rfl), by repeat (first | (with_reducible first | exact HB.out | apply below_alloc | apply pw_below_drewN | apply below_drew1) | exact HB.out | exact Below.refl _ _)⟩
  · replace c6 := Bool.eq_false_iff.mpr c6
    subst c6
    have H1 : (some false) = some r := by rw [if_neg (show ¬ (false = true) by decide)] at H; exact H
    clear H
    have H := H1
    clear H1
    obtain rfl := Option.some.inj H
    go_enter Try.func4, Try.ntmps4
    go_wp2_with (first | ((with_reducible refine gate_callee (f := 21) rfl ?_); refine goesL_ (some 26) rfl rfl Try.func21 (by kernel_rfl) rfl #[] rfl (by (try simp only [List.map_toArray, List.map_cons, List.map_nil]); first | done | rfl | (simp only [List.length_drop, List.length_take]; rfl)) ?_; (with_reducible refine (prompterlaw06_awake.calls  false _ A5.out).mono ?_); rintro e w63 ⟨rfl, hb⟩; refine ⟨_, rfl, ?_⟩; have n0_ := Aside0.mk (below_step (by repeat (first | (with_reducible first | exact HB.out | apply below_alloc | apply pw_below_drewN | apply below_drew1) | exact HB.out | exact Below.refl _ _)) hb); clear HB; have HB := n0_; clear n0_; (try clear hb); (try clear hb2); (try clear hk); (try clear hi)))
    go_ret
    exact ⟨by first | rfl | (simp [errW_none, errW_some] <;> rfl) | (simp [*, errW_none, errW_some] <;> rfl), by repeat (first | (with_reducible first | exact HB.out | apply below_alloc | apply pw_below_drewN | apply below_drew1) | exact HB.out | exact Below.refl _ _)⟩

/-- THE ONE PURE STATEMENT of prompterlaw06_FrameBits: yours. -/
def prompterlaw06_FrameBits.Pure : Prop := ∀ (l0 : List Int) (a1 : Int) (a2 : Int) (a3 : Int), l0.length ≤ maxLen → l0.length * 1 ≤ 140737488351232 → (∀ x ∈ l0, (Lit.int .u8 x).wf = true) → (Lit.int .i64 a1).wf = true → (Lit.int .i64 a2).wf = true → (Lit.int .u32 a3).wf = true → ∃ k, prompterlaw06_FrameBits.f k l0 a1 a2 a3 = some true
theorem prompterlaw06_FrameBits.walk (P : prompterlaw06_FrameBits.Pure) (a0 : Option Addr) (len0 cap0 : Nat) (z0 : List Int) (a1 : Int) (a2 : Int) (a3 : Int) (w : World) (w0 : (a0 = none ∧ len0 = 0 ∧ cap0 = 0 ∧ z0 = []) ∨ ∃ x, a0 = some x ∧ len0 ≤ cap0 ∧ cap0 ≤ maxLen ∧ z0.length = cap0 ∧ (∀ i, i < z0.length → w.cell? (x.add i) = some (.int .u8 (z0.getD i 0))) ∧ ∀ n ∈ z0, (Lit.int .u8 n).wf = true) (y0 : len0 * 1 ≤ 140737488351232) (w1 : (Lit.int .i64 a1).wf = true) (w2 : (Lit.int .i64 a2).wf = true) (w3 : (Lit.int .u32 a3).wf = true) :
    Calls Try.prog 4 #[.slice a0 len0 cap0, .int .i64 a1, .int .i64 a2, .int .u32 a3] w fun e w' => e = .returned (.bool true) ∧ Below w.heap.size w w' := by
  obtain ⟨l0, rfl, hr0, hm0, hw0, hc0⟩ := ReadsInt.ofRowC w0
  obtain ⟨k, h⟩ := P l0 a1 a2 a3 hm0 y0 hw0 w1 w2 w3
  refine (prompterlaw06_FrameBits.calls k _ _ l0 a1 a2 a3 true w (Kd.C_of_reads (d := (0 : Int)) (h1 := fun _ => rfl) hr0) hc0 h).mono ?_
  rintro e w' ⟨rfl, hd⟩
  exact ⟨rfl, hd⟩

end Go.Proofs.Ytobgijpbfmpdaaa.PFr
