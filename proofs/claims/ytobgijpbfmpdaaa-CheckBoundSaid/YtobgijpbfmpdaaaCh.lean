/- tree.Check. -/
import Derived.Test.YtobgijpbfmpdaaaWc
set_option linter.unusedVariables false
set_option linter.unusedSimpArgs false
set_option maxRecDepth 100000
namespace Go.Proofs.Ytobgijpbfmpdaaa.Tb
open Go.RowKit Go.Proofs.YtobgijpbfmpdaaaW.PrintWords Go.Proofs.YtobgijpbfmpdaaaW.PrintLast Go.Proofs.YtobgijpbfmpdaaaW.PrintMore
open Go.Proofs.Ytobgijpbfmpdaaa.Fm Go.Proofs.Ytobgijpbfmpdaaa.Mp Go.Proofs.Ytobgijpbfmpdaaa.PCk
set_option maxHeartbeats 16000000
def walk0 (ts : List S61) : Int × Int × Int := walkP ts (ts.length + 1) 0 1 (fun _ => true) (-1) (-1)
/-- What tree.Check answers: where, and the error. -/
def checkP (ts : List S61) : Int × Int :=
  if 2048 < ts.length then (0, 2) else
  if 0 ≤ (walk0 ts).2.1 then ((walk0 ts).2.1, 3) else
  if (walk0 ts).1 < ts.length then ((walk0 ts).1, 3) else
  if 0 ≤ (walk0 ts).2.2 then ((walk0 ts).2.2, 2) else (0, 0)
theorem cs_start {W w1 : World} {A : Option Addr} {c b m : Nat} {ts : List S61} (hC : Kd.C k61 W A ts.length ts) (hB : Below (W.alloc (.cells #[.slice A ts.length c] 53)).heap.size (W.alloc (.cells #[.slice A ts.length c] 53)) w1)
    (hT : Tab w1 b m (fun k => (formOf k).map formV)) :
    Cs W.heap.size (w1.heap.size + 1) w1.heap.size (w1.heap.size + 1 + 1) (w1.heap.size + 1 + 1 + 1) b m A c ts ((((w1.alloc (.cells #[.map (some b)] 190)).alloc (.cells #[.int .i64 (-1)] 3)).alloc (.cells #[.int .i64 (-1)] 3)).alloc (.cells #[.func (.func 140) #[] #[.pointer (some ⟨W.heap.size, 0, none⟩), .pointer (some ⟨(w1.heap.size + 1), 0, none⟩), .pointer (some ⟨w1.heap.size, 0, none⟩), .pointer (some ⟨(w1.heap.size + 1 + 1), 0, none⟩), .pointer (some ⟨(w1.heap.size + 1 + 1 + 1), 0, none⟩)]] 192)) (-1) (-1) := by
  have hs : W.heap.size + 1 ≤ w1.heap.size := by have := hB.size; rw [World.size_alloc] at this; exact this
  have s2 : (w1.alloc (.cells #[.map (some b)] 190)).heap.size = w1.heap.size + 1 := World.size_alloc _ _
  have s3 : ((w1.alloc (.cells #[.map (some b)] 190)).alloc (.cells #[.int .i64 (-1)] 3)).heap.size = w1.heap.size + 1 + 1 := by rw [World.size_alloc, s2]
  have s4 : (((w1.alloc (.cells #[.map (some b)] 190)).alloc (.cells #[.int .i64 (-1)] 3)).alloc (.cells #[.int .i64 (-1)] 3)).heap.size = w1.heap.size + 1 + 1 + 1 := by rw [World.size_alloc, s3]
  have ht : w1.heap[W.heap.size]? = some (.cells #[.slice A ts.length c] 53 (0, 0)) := blk_below (blk_new W (.cells #[.slice A ts.length c] 53)) hB
  have a2 : Below w1.heap.size w1 (w1.alloc (.cells #[.map (some b)] 190)) := below_alloc (Below.refl _ _) _
  have a3 : Below (w1.alloc (.cells #[.map (some b)] 190)).heap.size (w1.alloc (.cells #[.map (some b)] 190)) ((w1.alloc (.cells #[.map (some b)] 190)).alloc (.cells #[.int .i64 (-1)] 3)) := below_alloc (Below.refl _ _) _
  have a4 : Below ((w1.alloc (.cells #[.map (some b)] 190)).alloc (.cells #[.int .i64 (-1)] 3)).heap.size ((w1.alloc (.cells #[.map (some b)] 190)).alloc (.cells #[.int .i64 (-1)] 3)) (((w1.alloc (.cells #[.map (some b)] 190)).alloc (.cells #[.int .i64 (-1)] 3)).alloc (.cells #[.int .i64 (-1)] 3)) := below_alloc (Below.refl _ _) _
  have a5 : Below (((w1.alloc (.cells #[.map (some b)] 190)).alloc (.cells #[.int .i64 (-1)] 3)).alloc (.cells #[.int .i64 (-1)] 3)).heap.size (((w1.alloc (.cells #[.map (some b)] 190)).alloc (.cells #[.int .i64 (-1)] 3)).alloc (.cells #[.int .i64 (-1)] 3)) ((((w1.alloc (.cells #[.map (some b)] 190)).alloc (.cells #[.int .i64 (-1)] 3)).alloc (.cells #[.int .i64 (-1)] 3)).alloc (.cells #[.func (.func 140) #[] #[.pointer (some ⟨W.heap.size, 0, none⟩), .pointer (some ⟨(w1.heap.size + 1), 0, none⟩), .pointer (some ⟨w1.heap.size, 0, none⟩), .pointer (some ⟨(w1.heap.size + 1 + 1), 0, none⟩), .pointer (some ⟨(w1.heap.size + 1 + 1 + 1), 0, none⟩)]] 192)) := below_alloc (Below.refl _ _) _
  have h35 : Below ((w1.alloc (.cells #[.map (some b)] 190)).alloc (.cells #[.int .i64 (-1)] 3)).heap.size ((w1.alloc (.cells #[.map (some b)] 190)).alloc (.cells #[.int .i64 (-1)] 3)) ((((w1.alloc (.cells #[.map (some b)] 190)).alloc (.cells #[.int .i64 (-1)] 3)).alloc (.cells #[.int .i64 (-1)] 3)).alloc (.cells #[.func (.func 140) #[] #[.pointer (some ⟨W.heap.size, 0, none⟩), .pointer (some ⟨(w1.heap.size + 1), 0, none⟩), .pointer (some ⟨w1.heap.size, 0, none⟩), .pointer (some ⟨(w1.heap.size + 1 + 1), 0, none⟩), .pointer (some ⟨(w1.heap.size + 1 + 1 + 1), 0, none⟩)]] 192)) := below_step a4 a5
  have h25 : Below (w1.alloc (.cells #[.map (some b)] 190)).heap.size (w1.alloc (.cells #[.map (some b)] 190)) ((((w1.alloc (.cells #[.map (some b)] 190)).alloc (.cells #[.int .i64 (-1)] 3)).alloc (.cells #[.int .i64 (-1)] 3)).alloc (.cells #[.func (.func 140) #[] #[.pointer (some ⟨W.heap.size, 0, none⟩), .pointer (some ⟨(w1.heap.size + 1), 0, none⟩), .pointer (some ⟨w1.heap.size, 0, none⟩), .pointer (some ⟨(w1.heap.size + 1 + 1), 0, none⟩), .pointer (some ⟨(w1.heap.size + 1 + 1 + 1), 0, none⟩)]] 192)) := below_step a3 h35
  have h15 : Below w1.heap.size w1 ((((w1.alloc (.cells #[.map (some b)] 190)).alloc (.cells #[.int .i64 (-1)] 3)).alloc (.cells #[.int .i64 (-1)] 3)).alloc (.cells #[.func (.func 140) #[] #[.pointer (some ⟨W.heap.size, 0, none⟩), .pointer (some ⟨(w1.heap.size + 1), 0, none⟩), .pointer (some ⟨w1.heap.size, 0, none⟩), .pointer (some ⟨(w1.heap.size + 1 + 1), 0, none⟩), .pointer (some ⟨(w1.heap.size + 1 + 1 + 1), 0, none⟩)]] 192)) := below_step a2 h25
  have hb := hT.lt
  have n2 := blk_new w1 (.cells #[.map (some b)] 190)
  have n3 := blk_new (w1.alloc (.cells #[.map (some b)] 190)) (.cells #[.int .i64 (-1)] 3)
  have n4 := blk_new ((w1.alloc (.cells #[.map (some b)] 190)).alloc (.cells #[.int .i64 (-1)] 3)) (.cells #[.int .i64 (-1)] 3)
  have n5 := blk_new (((w1.alloc (.cells #[.map (some b)] 190)).alloc (.cells #[.int .i64 (-1)] 3)).alloc (.cells #[.int .i64 (-1)] 3)) (.cells #[.func (.func 140) #[] #[.pointer (some ⟨W.heap.size, 0, none⟩), .pointer (some ⟨(w1.heap.size + 1), 0, none⟩), .pointer (some ⟨w1.heap.size, 0, none⟩), .pointer (some ⟨(w1.heap.size + 1 + 1), 0, none⟩), .pointer (some ⟨(w1.heap.size + 1 + 1 + 1), 0, none⟩)]] 192)
  rw [s2] at n3
  rw [s3] at n4
  rw [s4] at n5
  refine ⟨blk_below ht h15, blk_below n3 h35, blk_below n2 h25, blk_below n4 a5, n5, ?_, hT.below h15, ⟨by omega, ⟨by omega, by omega⟩, ⟨by omega, by omega⟩, ⟨by omega, by omega⟩, ⟨by omega, by omega⟩⟩⟩
  exact Kd.F_below (Kd.F_below (Kd.F_below (Kd.F_mono (Kd.C_F heap61 hC) (fun q hq => ⟨by omega, by omega⟩)) (below_alloc (Below.refl _ _) (.cells #[.slice A ts.length c] 53))) hB) h15
theorem check_c (ts : List S61) (A : Option Addr) (c : Nat) (W : World) (hC : Kd.C k61 W A ts.length ts) (hts : ∀ x ∈ ts, TwOk x) :
    Calls Try.prog 88 #[.slice A ts.length c] W fun e W' => e = .returned (.tuple #[.int .i64 (checkP ts).1, .int .i64 (checkP ts).2]) ∧ Below W.heap.size W W' := by
  by_cases hl : 2048 < ts.length
  · have b0 : decide ((2048 : Int) < (ts.length : Int)) = true := decide_eq_true (by omega)
    have b0' : decide (2048 < ts.length) = true := decide_eq_true hl
    have hR : checkP ts = (0, 2) := by unfold checkP; rw [if_pos hl]
    rw [hR]
    clear hR hC hts hl
    go_enter Try.func88, Try.ntmps88
    go_wp2_with (fail)
    go_ret2
    exact ⟨rfl, below_alloc (Below.refl _ _) _⟩
  have b0 : decide ((2048 : Int) < (ts.length : Int)) = false := decide_eq_false (by omega)
  have b0' : decide (2048 < ts.length) = false := decide_eq_false (by omega)
  obtain ⟨r, hr⟩ : ∃ r, r = walk0 ts := ⟨_, rfl⟩
  have HR := Aside0.mk hr
  obtain ⟨n2, w2, d2⟩ := r
  have hck : checkP ts = if 0 ≤ w2 then (w2, 3) else if n2 < ts.length then (n2, 3) else if 0 ≤ d2 then (d2, 2) else (0, 0) := by
    unfold checkP
    rw [if_neg hl, ← hr]
  obtain ⟨q, hq⟩ : ∃ q, q = checkP ts := ⟨_, rfl⟩
  rw [← hq] at hck ⊢
  have HL := Aside0.mk hl
  have HC := Aside0.mk hC
  have HTS := Aside0.mk hts
  have hmf : ∀ fn first cap w, (Instr.makeFunc fn first cap).run Try.prog w = .ok (.func fn first cap) w := fun _ _ _ _ => rfl
  clear hC hts hl hr hq
  rcases (show 0 ≤ w2 ∨ w2 < 0 ∧ n2 < ts.length ∨ w2 < 0 ∧ ¬ n2 < ts.length ∧ 0 ≤ d2 ∨ w2 < 0 ∧ ¬ n2 < ts.length ∧ ¬ 0 ≤ d2 by omega) with h1 | ⟨h1, h2⟩ | ⟨h1, h2, h3⟩ | ⟨h1, h2, h3⟩
  · have e1 : decide (0 ≤ w2) = true := decide_eq_true (by omega)
    have hq : q = (w2, 3) := by rw [hck]; rw [if_pos h1]
    have HQ := Aside0.mk hq
    clear hq hck h1
    go_enter Try.func88, Try.ntmps88
    go_wp2_with (first
      | ((with_reducible refine gate_callee (f := 139) rfl ?_); refine goesL_ (some 12) rfl rfl Try.func139 (by kernel_rfl) rfl #[] rfl (by (try simp only [List.map_toArray, List.map_cons, List.map_nil]); first | done | rfl) ?_; refine (forms_c _).mono ?_; rintro e w1 ⟨b, m, he, hT, hB, hbs⟩; subst he; refine ⟨_, rfl, ?_⟩; have HT := Aside0.mk hT; have HB1 := Aside0.mk hB; have HBS := Aside0.mk hbs; clear hT hB hbs; skip)
      | fail)
    refine (walk_c (b := b) (m := m) (A := A) (c := c) HTS.out (Nat.le_of_not_lt HL.out) (ts.length + 1) 0 1 142 #[] (fun _ => true) _ (-1) (-1) (cs_start HC.out HB1.out HT.out) (may_all _) (by omega) (show InB ts 0 (0, -1, -1) by unfold InB; dsimp only; omega) (by omega) (by omega) (by have := HL.out; omega)).mono ?_
    rintro e w6 ⟨he, hc, hk⟩
    rw [show walkP ts (ts.length + 1) 0 1 (fun _ => true) (-1) (-1) = (n2, w2, d2) from HR.out.symm] at he hc
    dsimp only at he hc
    subst he
    have hb5 : Below W.heap.size W w6 := (below_step (below_alloc (Below.refl _ _) _) (below_step HB1.out (below_alloc (below_alloc (below_alloc (below_alloc (Below.refl _ _) _) _) _) _))).trans (hk.to_below (by have := HB1.out.size; rw [World.size_alloc] at this; rw [World.size_alloc, World.size_alloc, World.size_alloc, World.size_alloc]; omega) (fun j hj => by have := HB1.out.size; rw [World.size_alloc] at this; omega))
    have HB5 := Aside0.mk hb5
    have p6 : w6.cell? ⟨w1.heap.size + 1, 0, none⟩ = some (.int .i64 w2) := by rw [blk_cell hc.p]; rfl
    have d6 : w6.cell? ⟨w1.heap.size + 1 + 1, 0, none⟩ = some (.int .i64 d2) := by rw [blk_cell hc.d]; rfl
    have t6 : w6.cell? ⟨W.heap.size, 0, none⟩ = some (.slice A ts.length c) := by rw [blk_cell hc.t]; rfl
    clear hb5 hk hc
    dsimp only
    go_wp2_with (fail)
    go_ret2
    exact ⟨by rw [HQ.out]; rfl, HB5.out⟩
  · have e1 : decide (0 ≤ w2) = false := decide_eq_false (by omega)
    have e2 : decide (n2 < (ts.length : Int)) = true := decide_eq_true (by omega)
    have hq : q = (n2, 3) := by rw [hck]; rw [if_neg (by omega), if_pos h2]
    have HQ := Aside0.mk hq
    clear hq hck h1 h2
    go_enter Try.func88, Try.ntmps88
    go_wp2_with (first
      | ((with_reducible refine gate_callee (f := 139) rfl ?_); refine goesL_ (some 12) rfl rfl Try.func139 (by kernel_rfl) rfl #[] rfl (by (try simp only [List.map_toArray, List.map_cons, List.map_nil]); first | done | rfl) ?_; refine (forms_c _).mono ?_; rintro e w1 ⟨b, m, he, hT, hB, hbs⟩; subst he; refine ⟨_, rfl, ?_⟩; have HT := Aside0.mk hT; have HB1 := Aside0.mk hB; have HBS := Aside0.mk hbs; clear hT hB hbs; skip)
      | fail)
    refine (walk_c (b := b) (m := m) (A := A) (c := c) HTS.out (Nat.le_of_not_lt HL.out) (ts.length + 1) 0 1 142 #[] (fun _ => true) _ (-1) (-1) (cs_start HC.out HB1.out HT.out) (may_all _) (by omega) (show InB ts 0 (0, -1, -1) by unfold InB; dsimp only; omega) (by omega) (by omega) (by have := HL.out; omega)).mono ?_
    rintro e w6 ⟨he, hc, hk⟩
    rw [show walkP ts (ts.length + 1) 0 1 (fun _ => true) (-1) (-1) = (n2, w2, d2) from HR.out.symm] at he hc
    dsimp only at he hc
    subst he
    have hb5 : Below W.heap.size W w6 := (below_step (below_alloc (Below.refl _ _) _) (below_step HB1.out (below_alloc (below_alloc (below_alloc (below_alloc (Below.refl _ _) _) _) _) _))).trans (hk.to_below (by have := HB1.out.size; rw [World.size_alloc] at this; rw [World.size_alloc, World.size_alloc, World.size_alloc, World.size_alloc]; omega) (fun j hj => by have := HB1.out.size; rw [World.size_alloc] at this; omega))
    have HB5 := Aside0.mk hb5
    have p6 : w6.cell? ⟨w1.heap.size + 1, 0, none⟩ = some (.int .i64 w2) := by rw [blk_cell hc.p]; rfl
    have d6 : w6.cell? ⟨w1.heap.size + 1 + 1, 0, none⟩ = some (.int .i64 d2) := by rw [blk_cell hc.d]; rfl
    have t6 : w6.cell? ⟨W.heap.size, 0, none⟩ = some (.slice A ts.length c) := by rw [blk_cell hc.t]; rfl
    clear hb5 hk hc
    dsimp only
    go_wp2_with (fail)
    go_ret2
    exact ⟨by rw [HQ.out]; rfl, HB5.out⟩
  · have e1 : decide (0 ≤ w2) = false := decide_eq_false (by omega)
    have e2 : decide (n2 < (ts.length : Int)) = false := decide_eq_false (by omega)
    have e3 : decide (0 ≤ d2) = true := decide_eq_true (by omega)
    have hq : q = (d2, 2) := by rw [hck]; rw [if_neg (by omega), if_neg h2, if_pos h3]
    have HQ := Aside0.mk hq
    clear hq hck h1 h2 h3
    go_enter Try.func88, Try.ntmps88
    go_wp2_with (first
      | ((with_reducible refine gate_callee (f := 139) rfl ?_); refine goesL_ (some 12) rfl rfl Try.func139 (by kernel_rfl) rfl #[] rfl (by (try simp only [List.map_toArray, List.map_cons, List.map_nil]); first | done | rfl) ?_; refine (forms_c _).mono ?_; rintro e w1 ⟨b, m, he, hT, hB, hbs⟩; subst he; refine ⟨_, rfl, ?_⟩; have HT := Aside0.mk hT; have HB1 := Aside0.mk hB; have HBS := Aside0.mk hbs; clear hT hB hbs; skip)
      | fail)
    refine (walk_c (b := b) (m := m) (A := A) (c := c) HTS.out (Nat.le_of_not_lt HL.out) (ts.length + 1) 0 1 142 #[] (fun _ => true) _ (-1) (-1) (cs_start HC.out HB1.out HT.out) (may_all _) (by omega) (show InB ts 0 (0, -1, -1) by unfold InB; dsimp only; omega) (by omega) (by omega) (by have := HL.out; omega)).mono ?_
    rintro e w6 ⟨he, hc, hk⟩
    rw [show walkP ts (ts.length + 1) 0 1 (fun _ => true) (-1) (-1) = (n2, w2, d2) from HR.out.symm] at he hc
    dsimp only at he hc
    subst he
    have hb5 : Below W.heap.size W w6 := (below_step (below_alloc (Below.refl _ _) _) (below_step HB1.out (below_alloc (below_alloc (below_alloc (below_alloc (Below.refl _ _) _) _) _) _))).trans (hk.to_below (by have := HB1.out.size; rw [World.size_alloc] at this; rw [World.size_alloc, World.size_alloc, World.size_alloc, World.size_alloc]; omega) (fun j hj => by have := HB1.out.size; rw [World.size_alloc] at this; omega))
    have HB5 := Aside0.mk hb5
    have p6 : w6.cell? ⟨w1.heap.size + 1, 0, none⟩ = some (.int .i64 w2) := by rw [blk_cell hc.p]; rfl
    have d6 : w6.cell? ⟨w1.heap.size + 1 + 1, 0, none⟩ = some (.int .i64 d2) := by rw [blk_cell hc.d]; rfl
    have t6 : w6.cell? ⟨W.heap.size, 0, none⟩ = some (.slice A ts.length c) := by rw [blk_cell hc.t]; rfl
    clear hb5 hk hc
    dsimp only
    go_wp2_with (fail)
    go_ret2
    exact ⟨by rw [HQ.out]; rfl, HB5.out⟩
  · have e1 : decide (0 ≤ w2) = false := decide_eq_false (by omega)
    have e2 : decide (n2 < (ts.length : Int)) = false := decide_eq_false (by omega)
    have e3 : decide (0 ≤ d2) = false := decide_eq_false (by omega)
    have hq : q = (0, 0) := by rw [hck]; rw [if_neg (by omega), if_neg h2, if_neg h3]
    have HQ := Aside0.mk hq
    clear hq hck h1 h2 h3
    go_enter Try.func88, Try.ntmps88
    go_wp2_with (first
      | ((with_reducible refine gate_callee (f := 139) rfl ?_); refine goesL_ (some 12) rfl rfl Try.func139 (by kernel_rfl) rfl #[] rfl (by (try simp only [List.map_toArray, List.map_cons, List.map_nil]); first | done | rfl) ?_; refine (forms_c _).mono ?_; rintro e w1 ⟨b, m, he, hT, hB, hbs⟩; subst he; refine ⟨_, rfl, ?_⟩; have HT := Aside0.mk hT; have HB1 := Aside0.mk hB; have HBS := Aside0.mk hbs; clear hT hB hbs; skip)
      | fail)
    refine (walk_c (b := b) (m := m) (A := A) (c := c) HTS.out (Nat.le_of_not_lt HL.out) (ts.length + 1) 0 1 142 #[] (fun _ => true) _ (-1) (-1) (cs_start HC.out HB1.out HT.out) (may_all _) (by omega) (show InB ts 0 (0, -1, -1) by unfold InB; dsimp only; omega) (by omega) (by omega) (by have := HL.out; omega)).mono ?_
    rintro e w6 ⟨he, hc, hk⟩
    rw [show walkP ts (ts.length + 1) 0 1 (fun _ => true) (-1) (-1) = (n2, w2, d2) from HR.out.symm] at he hc
    dsimp only at he hc
    subst he
    have hb5 : Below W.heap.size W w6 := (below_step (below_alloc (Below.refl _ _) _) (below_step HB1.out (below_alloc (below_alloc (below_alloc (below_alloc (Below.refl _ _) _) _) _) _))).trans (hk.to_below (by have := HB1.out.size; rw [World.size_alloc] at this; rw [World.size_alloc, World.size_alloc, World.size_alloc, World.size_alloc]; omega) (fun j hj => by have := HB1.out.size; rw [World.size_alloc] at this; omega))
    have HB5 := Aside0.mk hb5
    have p6 : w6.cell? ⟨w1.heap.size + 1, 0, none⟩ = some (.int .i64 w2) := by rw [blk_cell hc.p]; rfl
    have d6 : w6.cell? ⟨w1.heap.size + 1 + 1, 0, none⟩ = some (.int .i64 d2) := by rw [blk_cell hc.d]; rfl
    have t6 : w6.cell? ⟨W.heap.size, 0, none⟩ = some (.slice A ts.length c) := by rw [blk_cell hc.t]; rfl
    clear hb5 hk hc
    dsimp only
    go_wp2_with (fail)
    go_ret2
    exact ⟨by rw [HQ.out]; rfl, HB5.out⟩
end Go.Proofs.Ytobgijpbfmpdaaa.Tb
