/- FrameBack: the walk of the law, at every input. -/
import Derived.Test.YtobgijpbfmpdaaaBk
import Derived.Test.YtobgijpbfmpdaaaPn
import Derived.ProofKit
import Derived.OpenShut
import Derived.SizedLaws
set_option maxRecDepth 100000
set_option linter.unusedVariables false
set_option linter.unusedSimpArgs false
namespace Go.Proofs.Ytobgijpbfmpdaaa.BkW
open Go.ChangeShapes Go.WideShapes Go.ChangeAt Go.RowKit Go.Proofs.Ytobgijpbfmpdaaa.PFr Go.Proofs.YtobgijpbfmpdaaaW.PrintWords Go.Proofs.YtobgijpbfmpdaaaW.PrintLast Go.Proofs.YtobgijpbfmpdaaaW.PrintMore Go.Deep
open Go.Proofs.Ytobgijpbfmpdaaa.Crc (bytesOk)
set_option maxHeartbeats 4000000 in
set_option maxRecDepth 100000 in
theorem long (A0 A1 : Option Addr) (n0 n1 c0 c1 : Nat) (w : World) (h : 30 < n0 ∨ (¬ 30 < n0 ∧ 60 < n1)) :
    Calls Try.prog 8 #[.slice A0 n0 c0, .slice A1 n1 c1] w fun e w' => e = .returned (.bool true) ∧ Below w.heap.size w w' := by
  rcases h with h | ⟨h1, h2⟩
  · have d30 : decide (30 < (n0 : Int)) = true := decide_eq_true (by omega)
    have d30' : decide (30 < n0) = true := decide_eq_true (by omega)
    clear h
    go_enter Try.func8, Try.ntmps8
    go_wp2_with (first
      | ((with_reducible refine gate_callee (f := 21) rfl ?_); refine goesL_ (some 22) rfl rfl Try.func21 (by kernel_rfl) rfl #[] rfl (by (try simp only [List.map_toArray, List.map_cons, List.map_nil]); first | done | rfl) ?_; refine (prompterlaw06_awake.calls true _ FbP.awake_f).mono ?_; rintro e w1 ⟨rfl, hb⟩; refine ⟨_, rfl, ?_⟩; have HB := Aside0.mk hb; clear hb))
    go_ret
    exact ⟨rfl, HB.out⟩
  · have d30 : decide (30 < (n0 : Int)) = false := decide_eq_false (by omega)
    have d30' : decide (30 < n0) = false := decide_eq_false (by omega)
    have d60 : decide (60 < (n1 : Int)) = true := decide_eq_true (by omega)
    have d60' : decide (60 < n1) = true := decide_eq_true (by omega)
    clear h1 h2
    go_enter Try.func8, Try.ntmps8
    go_wp2_with (first
      | ((with_reducible refine gate_callee (f := 21) rfl ?_); refine goesL_ (some 22) rfl rfl Try.func21 (by kernel_rfl) rfl #[] rfl (by (try simp only [List.map_toArray, List.map_cons, List.map_nil]); first | done | rfl) ?_; refine (prompterlaw06_awake.calls true _ FbP.awake_f).mono ?_; rintro e w1 ⟨rfl, hb⟩; refine ⟨_, rfl, ?_⟩; have HB := Aside0.mk hb; clear hb))
    go_ret
    exact ⟨rfl, HB.out⟩
variable {H : Type} {enc : TypeId × Value → H}
theorem walk (W : World) (base : Nat) (v0 : Value) (d0 : DataW H) (p0 : List MemPlace) (o0 : Value.okWide Try.prog W .any base 35 v0) (h0 : DataW.Trod enc Try.prog W 0 (fun _ => true) true 35 v0 d0 p0)
    (v1 : Value) (d1 : DataW H) (p1 : List MemPlace) (o1 : Value.okWide Try.prog W .any base 50 v1) (h1 : DataW.Trod enc Try.prog W 0 (fun _ => true) true 50 v1 d1 p1)
    (hsz : (DataW.weightsEach Try.prog [35, 50] [d0, d1]).all (· ≤ reachBytes) = true) :
    Calls Try.prog 8 #[v0, v1] W fun e w' => e = .returned (.bool true) ∧ Below W.heap.size W w' := by
  obtain ⟨A0, c0, bs, rfl, hc0, hC0, hb⟩   := Pn.open_bss o0 h0
  obtain ⟨A1, c1, cuts, rfl, hc1, hC1, _⟩ := Pn.open_is o1 h1
  by_cases h30 : 30 < bs.length
  · exact long _ _ _ _ _ _ _ (.inl h30)
  by_cases h60 : 60 < cuts.length
  · exact long _ _ _ _ _ _ _ (.inr ⟨h30, h60⟩)
  exact Bk.back A0 A1 c0 c1 bs cuts W hC0 hc0 hC1 hc1 hb (by omega) (by omega)
end Go.Proofs.Ytobgijpbfmpdaaa.BkW
