/- DiskFuse: the walk of the law, at every input. -/
import Derived.Test.YtobgijpbfmpdaaaFv
import Derived.Test.YtobgijpbfmpdaaaOt
import Derived.Test.YtobgijpbfmpdaaaPs
set_option maxRecDepth 100000
set_option linter.unusedVariables false
namespace Go.Proofs.Ytobgijpbfmpdaaa.FvW
open Go.ChangeShapes Go.WideShapes Go.ChangeAt Go.RowKit
variable {H : Type} {enc : TypeId × Value → H}
theorem walk (W : World) (base : Nat) (v0 : Value) (d0 : DataW H) (p0 : List MemPlace) (o0 : Value.okWide Try.prog W .any base 87 v0) (h0 : DataW.Trod enc Try.prog W 0 (fun _ => true) true 87 v0 d0 p0)
    (v1 : Value) (d1 : DataW H) (p1 : List MemPlace) (o1 : Value.okWide Try.prog W .any base 3 v1) (h1 : DataW.Trod enc Try.prog W 0 (fun _ => true) true 3 v1 d1 p1)
    (hsz : (DataW.weightsEach Try.prog [87, 3] [d0, d1]).all (· ≤ reachBytes) = true) :
    Calls Try.prog 17 #[v0, v1] W fun e w' => e = .returned (.bool true) ∧ Below W.heap.size W w' := by
  obtain ⟨A, c, xs, rfl, hc, hC, hQ⟩ := Os.open_slice Try.underlying87 (by kernel_rfl) Os.opens_step o0 h0
  obtain ⟨n, rfl, hn⟩ := Ps.open_int o1 h1
  exact Ls.fuses xs A c n W hC hc (fun x hx => (hQ x hx).1) hn.2
end Go.Proofs.Ytobgijpbfmpdaaa.FvW
