/- CheckBound: the walk of the law, at every input. -/
import Derived.Test.YtobgijpbfmpdaaaTw
set_option maxRecDepth 100000
set_option linter.unusedVariables false
namespace Go.Proofs.Ytobgijpbfmpdaaa.CbW
open Go.ChangeShapes Go.WideShapes Go.ChangeAt Go.RowKit
variable {H : Type} {enc : TypeId × Value → H}
theorem walk (W : World) (base : Nat) (v0 : Value) (d0 : DataW H) (p0 : List MemPlace) (o0 : Value.okWide Try.prog W .any base 53 v0) (h0 : DataW.Trod enc Try.prog W 0 (fun _ => true) true 53 v0 d0 p0)
    (hsz : (DataW.weightsEach Try.prog [53] [d0]).all (· ≤ reachBytes) = true) :
    Calls Try.prog 10 #[v0] W fun e w' => e = .returned (.bool true) ∧ Below W.heap.size W w' := by
  obtain ⟨A, c, xs, rfl, hc, hC, hQ⟩ := Os.open_slice Try.underlying53 (by kernel_rfl) Os.opens_twig o0 h0
  exact Ck.bound_c xs A c W hC hc hQ
end Go.Proofs.Ytobgijpbfmpdaaa.CbW
