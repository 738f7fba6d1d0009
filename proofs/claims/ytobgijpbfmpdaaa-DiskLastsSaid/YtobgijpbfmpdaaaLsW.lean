/- DiskLasts: the walk of the law, at every input. -/
import Derived.Test.YtobgijpbfmpdaaaOt
set_option maxRecDepth 100000
set_option linter.unusedVariables false
namespace Go.Proofs.Ytobgijpbfmpdaaa.LsW
open Go.ChangeShapes Go.WideShapes Go.ChangeAt Go.RowKit
variable {H : Type} {enc : TypeId × Value → H}
theorem walk (W : World) (base : Nat) (v0 : Value) (d0 : DataW H) (p0 : List MemPlace) (o0 : Value.okWide Try.prog W .any base 87 v0) (h0 : DataW.Trod enc Try.prog W 0 (fun _ => true) true 87 v0 d0 p0)
    (hsz : (DataW.weightsEach Try.prog [87] [d0]).all (· ≤ reachBytes) = true) :
    Calls Try.prog 15 #[v0] W fun e w' => e = .returned (.bool true) ∧ Below W.heap.size W w' := by
  obtain ⟨A, c, xs, rfl, hc, hC, hQ⟩ := Os.open_slice Try.underlying87 (by kernel_rfl) Os.opens_step o0 h0
  exact Ls.lasts xs A c W hC hc (fun x hx => ⟨(hQ x hx).1, (hQ x hx).2.1⟩)
end Go.Proofs.Ytobgijpbfmpdaaa.LsW
