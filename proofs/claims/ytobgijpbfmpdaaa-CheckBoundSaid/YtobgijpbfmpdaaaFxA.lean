/- Closed facts of the program as a whole, each by itself, for the rows. -/
import Derived.Test.YtobgijpbfmpdaaaRows
import Derived.JoinedOf
import Derived.KernelRfl
namespace Go.Proofs.Ytobgijpbfmpdaaa.Fx
open Go
theorem laidOut : laidOutB Try.prog = true := by kernel_rfl
theorem mapsRow : mapsRowed Try.prog = true := by kernel_rfl
theorem stops0 : (Try.prog.stops == []) = true := by kernel_rfl
theorem knobs0 : (Try.prog.stopKnobs == []) = true := by kernel_rfl
theorem plainK : (true == Try.prog.plainKeys) = true := by kernel_rfl
theorem heard : Try.prog.stopsHeard = true := by kernel_rfl
end Go.Proofs.Ytobgijpbfmpdaaa.Fx
