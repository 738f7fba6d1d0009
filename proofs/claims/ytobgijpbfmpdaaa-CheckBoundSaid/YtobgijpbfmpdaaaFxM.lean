/- One closed fact of the program, in a text of its own: the kernel counts long at it. -/
import Derived.Test.YtobgijpbfmpdaaaRows
import Derived.JoinedOf
import Derived.KernelRfl
namespace Go.Proofs.Ytobgijpbfmpdaaa.Fx
open Go
theorem make : (Try.prog.make == some Make.cut) = true := by kernel_rfl
end Go.Proofs.Ytobgijpbfmpdaaa.Fx
