/- FrameFeeds: the walk of the law, at every input. -/
import Derived.Test.YtobgijpbfmpdaaaFe
import Derived.Test.YtobgijpbfmpdaaaPn
set_option maxRecDepth 100000
set_option linter.unusedVariables false
set_option linter.unusedSimpArgs false
namespace Go.Proofs.Ytobgijpbfmpdaaa.FeW
open Go.ChangeShapes Go.WideShapes Go.ChangeAt Go.RowKit Go.Proofs.Ytobgijpbfmpdaaa.PFr Go.Proofs.YtobgijpbfmpdaaaW.PrintWords Go.Proofs.YtobgijpbfmpdaaaW.PrintLast Go.Proofs.YtobgijpbfmpdaaaW.PrintMore
set_option maxHeartbeats 4000000 in
theorem long (A0 : Option Addr) (n0 c0 : Nat) (w : World) (h : 60 < n0) :
    Calls Try.prog 7 #[.slice A0 n0 c0] w fun e w' => e = .returned (.bool true) ∧ Below w.heap.size w w' := by
  have d60 : decide (60 < (n0 : Int)) = true := decide_eq_true (by omega)
  have d60' : decide (60 < n0) = true := decide_eq_true (by omega)
  clear h
  go_enter Try.func7, Try.ntmps7
  go_wp2_with (first
    | ((with_reducible refine gate_callee (f := 21) rfl ?_); refine goesL_ (some 15) rfl rfl Try.func21 (by kernel_rfl) rfl #[] rfl (by (try simp only [List.map_toArray, List.map_cons, List.map_nil]); first | done | rfl) ?_; refine (prompterlaw06_awake.calls true _ FbP.awake_f).mono ?_; rintro e w1 ⟨rfl, hb⟩; refine ⟨_, rfl, ?_⟩; have HB := Aside0.mk hb; clear hb))
  go_ret
  exact ⟨rfl, HB.out⟩
variable {H : Type} {enc : TypeId × Value → H}
theorem walk (W : World) (base : Nat) (v0 : Value) (d0 : DataW H) (p0 : List MemPlace) (o0 : Value.okWide Try.prog W .any base 35 v0) (h0 : DataW.Trod enc Try.prog W 0 (fun _ => true) true 35 v0 d0 p0)
    (hsz : (DataW.weightsEach Try.prog [35] [d0]).all (· ≤ reachBytes) = true) :
    Calls Try.prog 7 #[v0] W fun e w' => e = .returned (.bool true) ∧ Below W.heap.size W w' := by
  obtain ⟨A0, c0, bs, rfl, hc0, hC0, hb⟩ := Pn.open_bss o0 h0
  by_cases h60 : 60 < bs.length
  · exact long _ _ _ _ h60
  exact Fe.feeds A0 c0 bs W hC0 hc0 hb (by omega)
end Go.Proofs.Ytobgijpbfmpdaaa.FeW
