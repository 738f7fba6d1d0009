/- DiskNobody: the walk of the law, at every input. -/
import Derived.Test.YtobgijpbfmpdaaaNb
import Derived.Test.YtobgijpbfmpdaaaPs
set_option maxRecDepth 100000
set_option linter.unusedVariables false
namespace Go.Proofs.Ytobgijpbfmpdaaa.NbW
open Go.ChangeShapes Go.WideShapes Go.ChangeAt Go.RowKit
variable {H : Type} {enc : TypeId × Value → H}
theorem walk (W : World) (base : Nat) (v0 : Value) (d0 : DataW H) (p0 : List MemPlace) (o0 : Value.okWide Try.prog W .any base 9 v0) (h0 : DataW.Trod enc Try.prog W 0 (fun _ => true) true 9 v0 d0 p0)
    (v1 : Value) (d1 : DataW H) (p1 : List MemPlace) (o1 : Value.okWide Try.prog W .any base 9 v1) (h1 : DataW.Trod enc Try.prog W 0 (fun _ => true) true 9 v1 d1 p1)
    (v2 : Value) (d2 : DataW H) (p2 : List MemPlace) (o2 : Value.okWide Try.prog W .any base 3 v2) (h2 : DataW.Trod enc Try.prog W 0 (fun _ => true) true 3 v2 d2 p2)
    (hsz : (DataW.weightsEach Try.prog [9, 9, 3] [d0, d1, d2]).all (· ≤ reachBytes) = true) :
    Calls Try.prog 19 #[v0, v1, v2] W fun e w' => e = .returned (.bool true) ∧ Below W.heap.size W w' := by
  obtain ⟨s, rfl, _⟩ := Ps.open_str o0 h0
  obtain ⟨t, rfl, _⟩ := Ps.open_str o1 h1
  obtain ⟨n, rfl, _⟩ := Ps.open_int o2 h2
  exact Dk.nobody s t n W
end Go.Proofs.Ytobgijpbfmpdaaa.NbW
