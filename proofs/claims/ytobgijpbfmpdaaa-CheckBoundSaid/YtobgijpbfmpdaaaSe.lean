/- check.Slots: a name is entered. -/
import Derived.Test.YtobgijpbfmpdaaaSv
set_option linter.unusedVariables false
set_option linter.unusedSimpArgs false
set_option maxRecDepth 100000
namespace Go.Proofs.Ytobgijpbfmpdaaa.Ck
open Go.RowKit Go.Proofs.YtobgijpbfmpdaaaW.PrintWords Go.Proofs.YtobgijpbfmpdaaaW.PrintLast Go.Proofs.YtobgijpbfmpdaaaW.PrintMore
open Go.Proofs.Ytobgijpbfmpdaaa.Fm Go.Proofs.Ytobgijpbfmpdaaa.Mp Go.Proofs.Ytobgijpbfmpdaaa.PCk
set_option maxHeartbeats 8000000
theorem zint : ∀ W, (zeroValue 3).run Try.prog W = .ok (.int .i64 0) W := fun W => by kernel_rfl
section
variable {B0 T b S M O N F E K : Nat} {A : Option Addr} {c : Nat} {ts : List S61} {W0 W W1 W2 : World} {s s' : St} {v v' : Value} {cnt cnt' : Nat}
theorem Sv.fresh (h : Sv B0 T b S M O N F E K A c ts W0 W s v cnt) {q : Nat} (hq : W.heap.size ≤ q) : ¬ Bxs T b S M O N F E K q := by
  have h1 := h.lt
  have h2 := h.ne
  unfold Bxs
  omega
/-- What a call leaves. -/
def Aft (B0 T b S M O N F E K : Nat) (A : Option Addr) (c : Nat) (ts : List S61) (W0 W : World) (v : Value) (s' : St) (cnt' : Nat) (W' : World) : Prop :=
  ∃ v', Sv B0 T b S M O N F E K A c ts W0 W' s' v' cnt' ∧ Kb (Chg M O N F b v) W W' ∧ Mv v W v'
end
theorem enter_c {B0 T b S M O N F E K : Nat} {A : Option Addr} {c : Nat} {ts : List S61} {W0 W : World} {s : St} {v : Value} {cnt : Nat} (h : Sv B0 T b S M O N F E K A c ts W0 W s v cnt) (k : ByteArray) (hk : k.size ≤ maxLen) (hoL : s.out.length ≤ 10000) (hmL : s.made ≤ 10000) :
    Calls Try.prog 89 #[.string k, .pointer (some ⟨S, 0, none⟩), .pointer (some ⟨F, 0, none⟩), .pointer (some ⟨M, 0, none⟩), .pointer (some ⟨O, 0, none⟩)] W fun e W' => e = .returned (.tuple #[]) ∧ Aft B0 T b S M O N F E K A c ts W0 W v (enterS s k.data.toList) cnt W' := by
  have cS : W.cell? ⟨S, 0, none⟩ = some (.map (some b)) := by rw [blk_cell h.sm]; rfl
  have hne := h.ne
  have hlt := h.lt
  have lM : M < W.heap.size := by omega
  have lO : O < W.heap.size := by omega
  have lF : F < W.heap.size := by omega
  have lS : S < W.heap.size := by omega
  have nMF : M ≠ F := by omega
  have nOF : O ≠ F := by omega
  have nMO : M ≠ O := by omega
  have HK := Aside0.mk hk
  have HS := Aside0.mk h
  have hkey : ∃ r, r = Mp.get s.seen k.data.toList := ⟨_, rfl⟩
  obtain ⟨r, hr⟩ := hkey
  have hrv : Mp.get (sV s.seen) k.data.toList = r.map inV := by rw [get_sV, hr]
  have HRV := Aside0.mk hrv
  clear hrv h hk hne hlt
  unfold enterS
  rw [← hr]
  have HR := Aside0.mk hr
  clear hr
  rcases (show r.isSome = true ∨ r.isSome = false ∧ s.made = 100 ∨ r.isSome = false ∧ s.made ≠ 100 by cases r <;> simp <;> omega) with hi | ⟨hi, hm⟩ | ⟨hi, hm⟩
  · have hE : (if r.isSome = true then (111 : Int) else if s.made = 100 then 2 else s.fault) = 111 := if_pos hi
    rw [hE]
    clear hE
    have hm := hi
    clear hm
    have HS1 := Aside0.mk (HS.out.setF 111)
    have k1 : Aside0 (Kb (Chg M O N F b v) W (W.setCell ⟨F, 0, none⟩ (.int .i64 111))) := ⟨chgF _ _⟩
    have cM : (W.setCell ⟨F, 0, none⟩ (.int .i64 111)).cell? ⟨M, 0, none⟩ = some (.int .i64 s.made) := by rw [blk_cell HS1.out.m]; rfl
    have cO : (W.setCell ⟨F, 0, none⟩ (.int .i64 111)).cell? ⟨O, 0, none⟩ = some v := by rw [blk_cell HS1.out.o]; rfl
    have fO := blk_frozen HS1.out.o 0
    have cM0 : W.cell? ⟨M, 0, none⟩ = some (.int .i64 s.made) := by rw [blk_cell HS.out.m]; rfl
    have cF : W.cell? ⟨F, 0, none⟩ = some (.int .i64 s.fault) := by rw [blk_cell HS.out.f]; rfl
    have fF := blk_frozen HS.out.f 0
    go_enter Try.func89, Try.ntmps89
    go_wp2_with (first
      | ((with_reducible refine gate_dst (N := 11) rfl ?_); refine at_get2 rfl (.tmp 9) (.tmp 10) 128 3 (.int .i64 0) rfl Try.underlying128 zint rfl HS.out.own k rfl HK.out ?_; rw [HRV.out, Option.isSome_map, hi])
      | ((with_reducible refine gate_builtin (b := .append) (xs := #[.tmp 17, .tmp 19]) rfl ?_); at_builtin; refine Kd.R_append (Kd.int .i64) (w0 := W0) B0 rfl (.tmp 17) (.tmp 19) 50 3 (.int .i64 0) 8 rfl Try.underlying50 info3 rfl (by decide) (by decide) v _ (s.made : Int) [.int .i64 (s.made : Int)] (fun q => ¬ Bxs T b S M O N F E K q) (fun _ => False) rfl (by first | rfl | (simp only [World.size_setCell]; first | done | rfl)) rfl (fun _ hk => hk.elim) (fun q hq hx => absurd hx (HS1.out.fresh hq)) HS1.out.R HS1.out.B HS1.out.lt.2 (by have := hoL; first | omega | (dsimp only; omega) | (show (s.out.length + 1) * 8 ≤ _; omega)) ?_; intro v1 w1 ho hb hg hat; obtain ⟨A5, c5, e5⟩ := Kd.R_slice ho; have e6 : v1 = .slice A5 (s.out.length + 1) c5 := (by rw [e5, List.length_append]; rfl); clear e5; subst e6; have HA := Aside0.mk (HS1.out.app ho hg); have HAT := Aside0.mk hat; have cM1 : w1.cell? ⟨M, 0, none⟩ = some (.int .i64 s.made) := (by rw [blk_cell ((Kb.grown hg).blk HS1.out.m (HS1.out.row (by unfold Bxs; omega)))]; rfl); have cO1 : w1.cell? ⟨O, 0, none⟩ = some v := (by rw [blk_cell ((Kb.grown hg).blk HS1.out.o (HS1.out.row (by unfold Bxs; omega)))]; rfl); have fO1 := blk_frozen ((Kb.grown hg).blk HS1.out.o (HS1.out.row (by unfold Bxs; omega))) 0; have fM1 := blk_frozen ((Kb.grown hg).blk HS1.out.m (HS1.out.row (by unfold Bxs; omega))) 0; have lM1 := blk_lt ((Kb.grown hg).blk HS1.out.m (HS1.out.row (by unfold Bxs; omega))); have lO1 := blk_lt ((Kb.grown hg).blk HS1.out.o (HS1.out.row (by unfold Bxs; omega))); clear ho hb hg hat)
      | fail)
    go_end0
    exact ⟨rfl, ⟨_, HA.out.1.setM (s.made + 1), (k1.out.trans HA.out.2).trans (chgM _ _), (by have h := HAT.out; (try rw [World.size_setCell] at h); exact h)⟩⟩
  · have hE : (if r.isSome = true then (111 : Int) else if s.made = 100 then 2 else s.fault) = 2 := by rw [if_neg (by rw [hi]; decide), if_pos hm]
    rw [hE]
    clear hE
    have hmb : decide ((s.made : Int) = 100) = true := decide_eq_true (by omega)
    have hmc : ((s.made : Int) == 100) = true := by rw [hm]; rfl
    clear hm
    have HS1 := Aside0.mk (HS.out.setF 2)
    have k1 : Aside0 (Kb (Chg M O N F b v) W (W.setCell ⟨F, 0, none⟩ (.int .i64 2))) := ⟨chgF _ _⟩
    have cM : (W.setCell ⟨F, 0, none⟩ (.int .i64 2)).cell? ⟨M, 0, none⟩ = some (.int .i64 s.made) := by rw [blk_cell HS1.out.m]; rfl
    have cO : (W.setCell ⟨F, 0, none⟩ (.int .i64 2)).cell? ⟨O, 0, none⟩ = some v := by rw [blk_cell HS1.out.o]; rfl
    have fO := blk_frozen HS1.out.o 0
    have cM0 : W.cell? ⟨M, 0, none⟩ = some (.int .i64 s.made) := by rw [blk_cell HS.out.m]; rfl
    have cF : W.cell? ⟨F, 0, none⟩ = some (.int .i64 s.fault) := by rw [blk_cell HS.out.f]; rfl
    have fF := blk_frozen HS.out.f 0
    go_enter Try.func89, Try.ntmps89
    go_wp2_with (first
      | ((with_reducible refine gate_dst (N := 11) rfl ?_); refine at_get2 rfl (.tmp 9) (.tmp 10) 128 3 (.int .i64 0) rfl Try.underlying128 zint rfl HS.out.own k rfl HK.out ?_; rw [HRV.out, Option.isSome_map, hi])
      | ((with_reducible refine gate_builtin (b := .append) (xs := #[.tmp 17, .tmp 19]) rfl ?_); at_builtin; refine Kd.R_append (Kd.int .i64) (w0 := W0) B0 rfl (.tmp 17) (.tmp 19) 50 3 (.int .i64 0) 8 rfl Try.underlying50 info3 rfl (by decide) (by decide) v _ (s.made : Int) [.int .i64 (s.made : Int)] (fun q => ¬ Bxs T b S M O N F E K q) (fun _ => False) rfl (by first | rfl | (simp only [World.size_setCell]; first | done | rfl)) rfl (fun _ hk => hk.elim) (fun q hq hx => absurd hx (HS1.out.fresh hq)) HS1.out.R HS1.out.B HS1.out.lt.2 (by have := hoL; first | omega | (dsimp only; omega) | (show (s.out.length + 1) * 8 ≤ _; omega)) ?_; intro v1 w1 ho hb hg hat; obtain ⟨A5, c5, e5⟩ := Kd.R_slice ho; have e6 : v1 = .slice A5 (s.out.length + 1) c5 := (by rw [e5, List.length_append]; rfl); clear e5; subst e6; have HA := Aside0.mk (HS1.out.app ho hg); have HAT := Aside0.mk hat; have cM1 : w1.cell? ⟨M, 0, none⟩ = some (.int .i64 s.made) := (by rw [blk_cell ((Kb.grown hg).blk HS1.out.m (HS1.out.row (by unfold Bxs; omega)))]; rfl); have cO1 : w1.cell? ⟨O, 0, none⟩ = some v := (by rw [blk_cell ((Kb.grown hg).blk HS1.out.o (HS1.out.row (by unfold Bxs; omega)))]; rfl); have fO1 := blk_frozen ((Kb.grown hg).blk HS1.out.o (HS1.out.row (by unfold Bxs; omega))) 0; have fM1 := blk_frozen ((Kb.grown hg).blk HS1.out.m (HS1.out.row (by unfold Bxs; omega))) 0; have lM1 := blk_lt ((Kb.grown hg).blk HS1.out.m (HS1.out.row (by unfold Bxs; omega))); have lO1 := blk_lt ((Kb.grown hg).blk HS1.out.o (HS1.out.row (by unfold Bxs; omega))); clear ho hb hg hat)
      | fail)
    go_end0
    exact ⟨rfl, ⟨_, HA.out.1.setM (s.made + 1), (k1.out.trans HA.out.2).trans (chgM _ _), (by have h := HAT.out; (try rw [World.size_setCell] at h); exact h)⟩⟩
  · have hE : (if r.isSome = true then (111 : Int) else if s.made = 100 then 2 else s.fault) = s.fault := by rw [if_neg (by rw [hi]; decide), if_neg hm]
    rw [hE]
    clear hE
    have hmb : decide ((s.made : Int) = 100) = false := decide_eq_false (by omega)
    have hmc : ((s.made : Int) == 100) = false := beq_eq_false_iff_ne.2 (by omega)
    clear hm
    have HS1 := Aside0.mk (HS.out)
    have k1 : Aside0 (Kb (Chg M O N F b v) W (W)) := ⟨Kb.refl _ _⟩
    have cM : (W).cell? ⟨M, 0, none⟩ = some (.int .i64 s.made) := by rw [blk_cell HS1.out.m]; rfl
    have cO : (W).cell? ⟨O, 0, none⟩ = some v := by rw [blk_cell HS1.out.o]; rfl
    have fO := blk_frozen HS1.out.o 0
    have cM0 : W.cell? ⟨M, 0, none⟩ = some (.int .i64 s.made) := by rw [blk_cell HS.out.m]; rfl
    have cF : W.cell? ⟨F, 0, none⟩ = some (.int .i64 s.fault) := by rw [blk_cell HS.out.f]; rfl
    have fF := blk_frozen HS.out.f 0
    go_enter Try.func89, Try.ntmps89
    go_wp2_with (first
      | ((with_reducible refine gate_dst (N := 11) rfl ?_); refine at_get2 rfl (.tmp 9) (.tmp 10) 128 3 (.int .i64 0) rfl Try.underlying128 zint rfl HS.out.own k rfl HK.out ?_; rw [HRV.out, Option.isSome_map, hi])
      | ((with_reducible refine gate_builtin (b := .append) (xs := #[.tmp 17, .tmp 19]) rfl ?_); at_builtin; refine Kd.R_append (Kd.int .i64) (w0 := W0) B0 rfl (.tmp 17) (.tmp 19) 50 3 (.int .i64 0) 8 rfl Try.underlying50 info3 rfl (by decide) (by decide) v _ (s.made : Int) [.int .i64 (s.made : Int)] (fun q => ¬ Bxs T b S M O N F E K q) (fun _ => False) rfl (by first | rfl | (simp only [World.size_setCell]; first | done | rfl)) rfl (fun _ hk => hk.elim) (fun q hq hx => absurd hx (HS1.out.fresh hq)) HS1.out.R HS1.out.B HS1.out.lt.2 (by have := hoL; first | omega | (dsimp only; omega) | (show (s.out.length + 1) * 8 ≤ _; omega)) ?_; intro v1 w1 ho hb hg hat; obtain ⟨A5, c5, e5⟩ := Kd.R_slice ho; have e6 : v1 = .slice A5 (s.out.length + 1) c5 := (by rw [e5, List.length_append]; rfl); clear e5; subst e6; have HA := Aside0.mk (HS1.out.app ho hg); have HAT := Aside0.mk hat; have cM1 : w1.cell? ⟨M, 0, none⟩ = some (.int .i64 s.made) := (by rw [blk_cell ((Kb.grown hg).blk HS1.out.m (HS1.out.row (by unfold Bxs; omega)))]; rfl); have cO1 : w1.cell? ⟨O, 0, none⟩ = some v := (by rw [blk_cell ((Kb.grown hg).blk HS1.out.o (HS1.out.row (by unfold Bxs; omega)))]; rfl); have fO1 := blk_frozen ((Kb.grown hg).blk HS1.out.o (HS1.out.row (by unfold Bxs; omega))) 0; have fM1 := blk_frozen ((Kb.grown hg).blk HS1.out.m (HS1.out.row (by unfold Bxs; omega))) 0; have lM1 := blk_lt ((Kb.grown hg).blk HS1.out.m (HS1.out.row (by unfold Bxs; omega))); have lO1 := blk_lt ((Kb.grown hg).blk HS1.out.o (HS1.out.row (by unfold Bxs; omega))); clear ho hb hg hat)
      | fail)
    go_end0
    exact ⟨rfl, ⟨_, HA.out.1.setM (s.made + 1), (k1.out.trans HA.out.2).trans (chgM _ _), (by have h := HAT.out; (try rw [World.size_setCell] at h); exact h)⟩⟩
end Go.Proofs.Ytobgijpbfmpdaaa.Ck
