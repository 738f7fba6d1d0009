/- A disk's methods: contracts. -/
import Derived.Test.YtobgijpbfmpdaaaDa
import Derived.WalkSpells
import Derived.Deep.QuietTactic
import Derived.BigQuiet
set_option linter.unusedVariables false
set_option linter.unusedSimpArgs false
set_option maxRecDepth 100000
namespace Go.Proofs.Ytobgijpbfmpdaaa.Dk
open Go.RowKit Go.Proofs.YtobgijpbfmpdaaaW.PrintWords Go.Proofs.YtobgijpbfmpdaaaW.PrintLast Go.Proofs.YtobgijpbfmpdaaaW.PrintMore
open Go.Proofs.Ytobgijpbfmpdaaa.Fm Go.Proofs.Ytobgijpbfmpdaaa.Mp
set_option maxHeartbeats 4000000
theorem made_dsk (g b n : Nat) (off : Bool) (fuse : Int) (F : List (Ky × Cont)) (S : Nat → Prop) (W : World) (D : Dsk W g b n off fuse F S) : Calls Try.prog 122 #[.pointer (some ⟨g, 0, none⟩)] W fun e W' => e = .returned (.bool true) ∧ W' = W := by
  have c0 : W.cell? ⟨g, 0, none⟩ = some (.map (some b)) := by rw [blk_cell D.hg]; rfl
  have hne := fun (w : World) (r : Option Nat) => run_neq_map_nil (P := Try.prog) w 108 9 175 r Try.underlying108
  clear D
  go_enter Try.func122, Try.ntmps122
  go_wp2
  go_ret
  exact ⟨rfl, rfl⟩
theorem made_none (W : World) : Calls Try.prog 122 #[.pointer none] W fun e W' => e = .returned (.bool false) ∧ W' = W := by
  go_enter Try.func122, Try.ntmps122
  go_wp2
  go_ret
  exact ⟨rfl, rfl⟩
theorem made_zero (g : Nat) (W : World) (c0 : W.cell? ⟨g, 0, none⟩ = some (.map none)) : Calls Try.prog 122 #[.pointer (some ⟨g, 0, none⟩)] W fun e W' => e = .returned (.bool false) ∧ W' = W := by
  have hne := fun (w : World) (r : Option Nat) => run_neq_map_nil (P := Try.prog) w 108 9 175 r Try.underlying108
  go_enter Try.func122, Try.ntmps122
  go_wp2
  go_ret
  exact ⟨rfl, rfl⟩
theorem goes_dsk (g b n : Nat) (off : Bool) (fuse : Int) (F : List (Ky × Cont)) (S : Nat → Prop) (W : World) (D : Dsk W g b n off fuse F S) : Calls Try.prog 116 #[.pointer (some ⟨g, 0, none⟩)] W fun e W' => e = .returned (.int .i64 (if off then 250 else 0)) ∧ W' = W := by
  have c1 : W.cell? ⟨g, 1, none⟩ = some (.bool off) := by rw [blk_cell D.hg]; rfl
  have HD := Aside0.mk D
  clear D
  cases off
  all_goals
    go_enter Try.func116, Try.ntmps116
    go_wp2_with (first | ((with_reducible refine gate_callee (f := 122) rfl ?_); refine goesL_ (some 5) rfl rfl Try.func122 (by kernel_rfl) rfl #[.pointer (some ⟨g, 0, none⟩)] rfl (by (try simp only [List.map_toArray, List.map_cons, List.map_nil]); first | done | rfl) ?_; refine (made_dsk _ _ _ _ _ _ _ _ HD.out).mono ?_; rintro e _ ⟨rfl, rfl⟩; refine ⟨_, rfl, ?_⟩))
    go_ret
    exact ⟨rfl, rfl⟩
theorem goes_none (W : World) : Calls Try.prog 116 #[.pointer none] W fun e W' => e = .returned (.int .i64 1) ∧ W' = W := by
  go_enter Try.func116, Try.ntmps116
  go_wp2_with (first | ((with_reducible refine gate_callee (f := 122) rfl ?_); refine goesL_ (some 5) rfl rfl Try.func122 (by kernel_rfl) rfl #[.pointer none] rfl (by (try simp only [List.map_toArray, List.map_cons, List.map_nil]); first | done | rfl) ?_; refine (made_none _).mono ?_; rintro e _ ⟨rfl, rfl⟩; refine ⟨_, rfl, ?_⟩))
  go_ret
  exact ⟨rfl, rfl⟩
theorem goes_zero (g : Nat) (W : World) (c0 : W.cell? ⟨g, 0, none⟩ = some (.map none)) : Calls Try.prog 116 #[.pointer (some ⟨g, 0, none⟩)] W fun e W' => e = .returned (.int .i64 1) ∧ W' = W := by
  go_enter Try.func116, Try.ntmps116
  go_wp2_with (first | ((with_reducible refine gate_callee (f := 122) rfl ?_); refine goesL_ (some 5) rfl rfl Try.func122 (by kernel_rfl) rfl #[.pointer (some ⟨g, 0, none⟩)] rfl (by (try simp only [List.map_toArray, List.map_cons, List.map_nil]); first | done | rfl) ?_; refine (made_zero g _ c0).mono ?_; rintro e _ ⟨rfl, rfl⟩; refine ⟨_, rfl, ?_⟩))
  go_ret
  exact ⟨rfl, rfl⟩
theorem there_dsk (g b n : Nat) (off : Bool) (fuse : Int) (F : List (Ky × Cont)) (S : Nat → Prop) (s : ByteArray) (hs : s.size ≤ maxLen) (W : World) (D : Dsk W g b n off fuse F S) : Calls Try.prog 120 #[.pointer (some ⟨g, 0, none⟩), .string s] W fun e W' =>
    e = .returned (.int .i64 (if off then 250 else if (Mp.get F s.data.toList).isSome then 0 else 5)) ∧ Below W.heap.size W W' := by
  have c0 : W.cell? ⟨g, 0, none⟩ = some (.map (some b)) := by rw [blk_cell D.hg]; rfl
  have HD := Aside0.mk D
  obtain ⟨vs, hO, hF⟩ := D.hm
  have hsome := (hF.get s.data.toList).2
  obtain ⟨⟨Af, cf, hv, hcf, hFf⟩, _⟩ := hF.get s.data.toList
  have HO := Aside0.mk hO
  have Hv := Aside0.mk hv
  have Hs := Aside0.mk hsome
  rw [← hsome]
  obtain ⟨is, his⟩ : ∃ is, is = (Mp.get vs s.data.toList).isSome := ⟨_, rfl⟩
  rw [← his]
  have His := Aside0.mk his
  clear D hO hF hv hcf hFf hsome his
  cases off
  · cases is
    all_goals
      go_enter Try.func120, Try.ntmps120
      go_wp2_with (first
        | ((with_reducible refine gate_callee (f := 116) rfl ?_); refine goesL_ (some 9) rfl rfl Try.func116 (by kernel_rfl) rfl #[.pointer (some ⟨g, 0, none⟩)] rfl (by (try simp only [List.map_toArray, List.map_cons, List.map_nil]); first | done | rfl) ?_; refine (goes_dsk _ _ _ _ _ _ _ _ HD.out).mono ?_; rintro e _ ⟨rfl, rfl⟩; refine ⟨_, rfl, ?_⟩)
        | ((with_reducible refine gate_dst (N := 19) rfl ?_); refine at_get2 rfl (.tmp 17) (.tmp 18) 108 175 noFile rfl Try.underlying108 zfile rfl HO.out s rfl hs ?_; rw [Hv.out]; have Z := His.out; rw [← Z]; clear Z))
      go_ret
      exact ⟨rfl, below_alloc (Below.refl _ _) _⟩
  · go_enter Try.func120, Try.ntmps120
    go_wp2_with (first | ((with_reducible refine gate_callee (f := 116) rfl ?_); refine goesL_ (some 9) rfl rfl Try.func116 (by kernel_rfl) rfl #[.pointer (some ⟨g, 0, none⟩)] rfl (by (try simp only [List.map_toArray, List.map_cons, List.map_nil]); first | done | rfl) ?_; refine (goes_dsk _ _ _ _ _ _ _ _ HD.out).mono ?_; rintro e _ ⟨rfl, rfl⟩; refine ⟨_, rfl, ?_⟩))
    go_ret
    exact ⟨rfl, Below.refl _ _⟩
theorem there_none (v : Value) (W : World) : Calls Try.prog 120 #[.pointer none, v] W fun e W' => e = .returned (.int .i64 1) ∧ W' = W := by
  go_enter Try.func120, Try.ntmps120
  go_wp2_with (first | ((with_reducible refine gate_callee (f := 116) rfl ?_); refine goesL_ (some 9) rfl rfl Try.func116 (by kernel_rfl) rfl #[.pointer none] rfl (by (try simp only [List.map_toArray, List.map_cons, List.map_nil]); first | done | rfl) ?_; refine (goes_none _).mono ?_; rintro e _ ⟨rfl, rfl⟩; refine ⟨_, rfl, ?_⟩))
  go_ret
  exact ⟨rfl, rfl⟩
theorem there_zero (g : Nat) (v : Value) (W : World) (c0 : W.cell? ⟨g, 0, none⟩ = some (.map none)) : Calls Try.prog 120 #[.pointer (some ⟨g, 0, none⟩), v] W fun e W' => e = .returned (.int .i64 1) ∧ W' = W := by
  go_enter Try.func120, Try.ntmps120
  go_wp2_with (first | ((with_reducible refine gate_callee (f := 116) rfl ?_); refine goesL_ (some 9) rfl rfl Try.func116 (by kernel_rfl) rfl #[.pointer (some ⟨g, 0, none⟩)] rfl (by (try simp only [List.map_toArray, List.map_cons, List.map_nil]); first | done | rfl) ?_; refine (goes_zero g _ c0).mono ?_; rintro e _ ⟨rfl, rfl⟩; refine ⟨_, rfl, ?_⟩))
  go_ret
  exact ⟨rfl, rfl⟩
/-- What a change comes to. -/
def chgR (late off : Bool) (fuse : Int) (F F' : List (Ky × Cont)) : Bool × Int × List (Ky × Cont) × Int :=
  if fuse = 0 then (true, -1, if late then F' else F, 250) else (off, if 0 < fuse then fuse - 1 else fuse, F', 0)
theorem dsk_set {W : World} {g b n : Nat} {off : Bool} {fuse : Int} {F : List (Ky × Cont)} {S : Nat → Prop} (D : Dsk W g b n off fuse F S) (i : Nat) (v : Value) {off' : Bool} {fuse' : Int}
    (h : (#[.map (some b), .bool off, .int .i64 fuse] : Array Value).setIfInBounds i v = #[.map (some b), .bool off', .int .i64 fuse']) : Dsk (W.setCell ⟨g, i, none⟩ v) g b n off' fuse' F S ∧ Kb (fun k => k = g) W (W.setCell ⟨g, i, none⟩ v) := by
  have hk : Kb (fun k => k = g) W (W.setCell ⟨g, i, none⟩ v) := Kb.set _ _ _ _ rfl
  obtain ⟨vs, h1, h2⟩ := D.hm
  exact ⟨⟨blk_put D.hg i v h, ⟨vs, h1.kb hk (fun e => D.gb e.symm), h2.imp fun v c hv => hv.step fun k hS hlt => hk.block k hlt (D.hS k hS).1⟩, D.hS⟩, hk⟩
theorem change_dsk (g b n : Nat) (off : Bool) (fuse : Int) (F : List (Ky × Cont)) (S : Nat → Prop) (W : World) (D : Dsk W g b n off fuse F S) (hfu : -1 ≤ fuse ∧ fuse ≤ 9223372036854775807) (late : Bool) (f : FuncId) (fn : Func) (caps : Array Value) (F' : List (Ky × Cont)) (hf : Try.prog.funcs[f]? = some fn) (hname : (fn.name == "runtime.NumGoroutine") = false) (hb : fn.body.isSome = true)
    (hdo : ∀ (W1 : World) (off1 : Bool) (fuse1 : Int), Dsk W1 g b n off1 fuse1 F S → Kb (fun k => k = g) W W1 → Calls Try.prog f caps W1 fun e W' => e = .returned (.tuple #[]) ∧ Dsk W' g b (n + 1) off1 fuse1 F' S ∧ Kb (fun k => k = b) W1 W') :
    Calls Try.prog 117 #[.pointer (some ⟨g, 0, none⟩), .bool late, .func (.func f) #[] caps] W fun e W' => e = .returned (.int .i64 (chgR late off fuse F F').2.2.2) ∧
      Dsk W' g b (n + 1) (chgR late off fuse F F').1 (chgR late off fuse F F').2.1 (chgR late off fuse F F').2.2.1 S ∧ Kb (fun k => k = g ∨ k = b) W W' := by
  have hg := D.hg
  have c1 : W.cell? ⟨g, 1, none⟩ = some (.bool off) := by rw [blk_cell hg]; rfl
  have c2 : W.cell? ⟨g, 2, none⟩ = some (.int .i64 fuse) := by rw [blk_cell hg]; rfl
  have f1 : W.frozen? ⟨g, 1, none⟩ = false := blk_frozen hg 1
  have f2 : W.frozen? ⟨g, 2, none⟩ = false := blk_frozen hg 2
  have HD := Aside0.mk D
  have Hdo := Aside0.mk hdo
  have hfin : ∀ {W1 W2 : World}, Kb (fun k => k = g) W W1 → Kb (fun k => k = b) W1 W2 → Kb (fun k => k = g ∨ k = b) W W2 := fun h1 h2 => (h1.mono fun k _ e => .inl e).trans (h2.mono fun k _ e => .inr e)
  have Hfin := Aside0.mk @hfin
  clear hg D hdo hfin
  by_cases h0 : fuse = 0
  · subst h0
    have hr : ∀ late off F', chgR late off 0 F F' = (true, -1, if late then F' else F, 250) := fun _ _ _ => rfl
    rw [hr]
    clear hr
    have hd1 := dsk_set HD.out 2 (.int .i64 (-1)) (off' := off) (fuse' := -1) rfl
    have hd2 := dsk_set hd1.1 1 (.bool true) (off' := true) (fuse' := -1) rfl
    have HD2 := Aside0.mk hd2.1
    have HK2 := Aside0.mk (hd1.2.trans hd2.2)
    clear hd1 hd2
    cases late
    · go_enter Try.func117, Try.ntmps117
      go_wp2
      go_ret
      exact ⟨rfl, HD2.out.more (Nat.le_succ _), HK2.out.mono fun k _ e => .inl e⟩
    · go_enter Try.func117, Try.ntmps117
      go_wp2_with (first | ((with_reducible refine gate_dst (N := 20) rfl ?_); refine goesF_ (some 20) rfl rfl (.tmp 19) caps rfl hf hname hb caps rfl (by simp) ?_; refine (Hdo.out _ true (-1) HD2.out HK2.out).mono ?_; rintro e W2 ⟨rfl, hD, hK⟩; refine ⟨_, rfl, ?_⟩; have HD3 := Aside0.mk hD; have HK3 := Aside0.mk hK; clear hD hK))
      go_ret
      exact ⟨rfl, HD3.out, Hfin.out HK2.out HK3.out⟩
  · have h0b : (fuse == 0) = false := by simpa using h0
    by_cases hp : 0 < fuse
    · have hpb : decide (0 < fuse) = true := decide_eq_true hp
      have hr : chgR late off fuse F F' = (off, fuse - 1, F', 0) := by unfold chgR; rw [if_neg h0, if_pos hp]
      rw [hr]
      clear hr h0
      have hwr : IntKind.i64.wrap (fuse - 1) = fuse - 1 := IntWalk.i64_in _ ⟨by omega, by omega⟩
      have hd1 := dsk_set HD.out 2 (.int .i64 (fuse - 1)) (off' := off) (fuse' := fuse - 1) rfl
      have HD2 := Aside0.mk hd1.1
      have HK2 := Aside0.mk hd1.2
      clear hd1
      go_enter Try.func117, Try.ntmps117
      go_wp2_with (first | ((with_reducible refine gate_dst (N := 34) rfl ?_); refine goesF_ (some 34) rfl rfl (.tmp 33) caps rfl hf hname hb caps rfl (by simp) ?_; refine (Hdo.out _ off (fuse - 1) HD2.out HK2.out).mono ?_; rintro e W2 ⟨rfl, hD, hK⟩; refine ⟨_, rfl, ?_⟩; have HD3 := Aside0.mk hD; have HK3 := Aside0.mk hK; clear hD hK))
      go_ret
      exact ⟨rfl, HD3.out, Hfin.out HK2.out HK3.out⟩
    · have hpb : decide (0 < fuse) = false := decide_eq_false hp
      have hr : chgR late off fuse F F' = (off, fuse, F', 0) := by unfold chgR; rw [if_neg h0, if_neg hp]
      rw [hr]
      clear hr h0 hp
      go_enter Try.func117, Try.ntmps117
      go_wp2_with (first | ((with_reducible refine gate_dst (N := 34) rfl ?_); refine goesF_ (some 34) rfl rfl (.tmp 33) caps rfl hf hname hb caps rfl (by simp) ?_; refine (Hdo.out _ off fuse HD.out (Kb.refl _ _)).mono ?_; rintro e W2 ⟨rfl, hD, hK⟩; refine ⟨_, rfl, ?_⟩; have HD3 := Aside0.mk hD; have HK3 := Aside0.mk hK; clear hD hK))
      go_ret
      exact ⟨rfl, HD3.out, HK3.out.mono fun k _ e => .inr e⟩
end Go.Proofs.Ytobgijpbfmpdaaa.Dk
