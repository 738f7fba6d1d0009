/- FrameBits: the printed function answers true for every body, bit, place and mask. -/
import Derived.Test.YtobgijpbfmpdaaaFbP
namespace Go.Proofs.Ytobgijpbfmpdaaa.Pure
theorem FrameBits : Go.Proofs.Ytobgijpbfmpdaaa.PFr.prompterlaw06_FrameBits.Pure := FbP.FrameBits
end Go.Proofs.Ytobgijpbfmpdaaa.Pure
