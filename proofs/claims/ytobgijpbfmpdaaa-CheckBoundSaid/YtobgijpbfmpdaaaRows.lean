/-
  No cell of these rows narrows 'for every input' (looked for: loops, veiled, ifaces, maps, wideKeys, modest, calm, conditions, laid).
  DERIVED. THE GIVEN ROWS OF THIS SEAT. 18 by the template 'for every input the law returns true; each argument reads behind the call as it read before'; 0 by the template 'total and deterministic' (their statements: YtobgijpbfmpdaaaTotals.lean).
  GIVEN WITH THE SEED: the statements are not yours to turn. If you find one false, say at which input.
  Laid BY PROGRAM, IN A SANDBOX (cutbox-rows.mjs): the forced cells as the released guide's own fill.sh prints them over the translation d6361c231d892939… (all of the seat's roots in one cut). By AI agents, Wed Nov 11 2026. No macro, syntax, notation, axiom, sorry.
-/
import Derived.Test.YtobgijpbfmpdaaaChecked
import GoSem.Claim
import GoSem.ClaimJoined
import GoSem.ClaimMapViews
import Derived.JoinedTies
import Derived.KernelRfl
namespace Go.Proofs.Ytobgijpbfmpdaaa
/- THE CELL 'sum', in the pinned program and in every row, IS THE sha256 OF THE DUMP (.gsa) THAT YtobgijpbfmpdaaaProg.lean LOADS. Nothing in Lean hashes anything: it is a label: what it is worth is what the hold of that sum in a sandbox is worth. -/
noncomputable def Try.pinned : Pinned := { name := "ytobgijpbfmpdaaa", sum := "d6361c231d89293906da32a3d7ae95783b1a404a9ddc4c3e7f4b646b0d23eb0b", checked := Try.checked }
namespace Rows
def none {H : Type} : Left H := { results := [], args := [] }

/-- 'prompterlaw06.FrameSums': WHATEVER THE INPUT: true; the input reads as it did. -/
def frameSumsSpec : ChangeSpec := { name := "frameSums", fn := fun _ => fun
  | [d] => { results := [.lit (.bool true)], args := [d] }
  | _ => none }
def frameSumsRow : OpenClaim := { program := "ytobgijpbfmpdaaa", sum := "d6361c231d89293906da32a3d7ae95783b1a404a9ddc4c3e7f4b646b0d23eb0b", func := "prompter/prompterlaw06.FrameSums", spec := "frameSums", apart := false }
def FrameSumsSaid : Prop := frameSumsRow.holds Try.pinned (OpenSpec.ofChange frameSumsSpec)

/-- ITS FALSE NEIGHBOUR: 'it returns false'. Refute it at one input. -/
def frameSumsWrong : ChangeSpec := { name := "frameSums", fn := fun _ => fun
  | [d] => { results := [.lit (.bool false)], args := [d] }
  | _ => none }
def FrameSumsWrongFalsely : Prop := frameSumsRow.holds Try.pinned (OpenSpec.ofChange frameSumsWrong)

/-- 'prompterlaw06.FrameBits': WHATEVER THE INPUT: true; the input reads as it did. -/
def frameBitsSpec : ChangeSpec := { name := "frameBits", fn := fun _ => fun
  | [d1, d2, d3, d4] => { results := [.lit (.bool true)], args := [d1, d2, d3, d4] }
  | _ => none }
def frameBitsRow : OpenClaim := { program := "ytobgijpbfmpdaaa", sum := "d6361c231d89293906da32a3d7ae95783b1a404a9ddc4c3e7f4b646b0d23eb0b", func := "prompter/prompterlaw06.FrameBits", spec := "frameBits", apart := false }
def FrameBitsSaid : Prop := frameBitsRow.holds Try.pinned (OpenSpec.ofChange frameBitsSpec)

/-- ITS FALSE NEIGHBOUR: 'it returns false'. Refute it at one input. -/
def frameBitsWrong : ChangeSpec := { name := "frameBits", fn := fun _ => fun
  | [d1, d2, d3, d4] => { results := [.lit (.bool false)], args := [d1, d2, d3, d4] }
  | _ => none }
def FrameBitsWrongFalsely : Prop := frameBitsRow.holds Try.pinned (OpenSpec.ofChange frameBitsWrong)

/-- 'prompterlaw06.FrameReads': WHATEVER THE INPUT: true; the input reads as it did. -/
def frameReadsSpec : ChangeSpec := { name := "frameReads", fn := fun _ => fun
  | [d] => { results := [.lit (.bool true)], args := [d] }
  | _ => none }
def frameReadsRow : OpenClaim := { program := "ytobgijpbfmpdaaa", sum := "d6361c231d89293906da32a3d7ae95783b1a404a9ddc4c3e7f4b646b0d23eb0b", func := "prompter/prompterlaw06.FrameReads", spec := "frameReads", unfollowed := true, recurses := true, apart := false }
def FrameReadsSaid : Prop := frameReadsRow.holds Try.pinned (OpenSpec.ofChange frameReadsSpec)

/-- ITS FALSE NEIGHBOUR: 'it returns false'. Refute it at one input. -/
def frameReadsWrong : ChangeSpec := { name := "frameReads", fn := fun _ => fun
  | [d] => { results := [.lit (.bool false)], args := [d] }
  | _ => none }
def FrameReadsWrongFalsely : Prop := frameReadsRow.holds Try.pinned (OpenSpec.ofChange frameReadsWrong)

/-- 'prompterlaw06.FrameKnown': WHATEVER THE INPUT: true; the input reads as it did. -/
def frameKnownSpec : ChangeSpec := { name := "frameKnown", fn := fun _ => fun
  | [] => { results := [.lit (.bool true)], args := [] }
  | _ => none }
def frameKnownRow : OpenClaim := { program := "ytobgijpbfmpdaaa", sum := "d6361c231d89293906da32a3d7ae95783b1a404a9ddc4c3e7f4b646b0d23eb0b", func := "prompter/prompterlaw06.FrameKnown", spec := "frameKnown", unfollowed := true, recurses := true, apart := false }
def FrameKnownSaid : Prop := frameKnownRow.holds Try.pinned (OpenSpec.ofChange frameKnownSpec)

/-- ITS FALSE NEIGHBOUR: 'it returns false'. Refute it at one input. -/
def frameKnownWrong : ChangeSpec := { name := "frameKnown", fn := fun _ => fun
  | [] => { results := [.lit (.bool false)], args := [] }
  | _ => none }
def FrameKnownWrongFalsely : Prop := frameKnownRow.holds Try.pinned (OpenSpec.ofChange frameKnownWrong)

/-- 'prompterlaw06.FrameFeeds': WHATEVER THE INPUT: true; the input reads as it did. -/
def frameFeedsSpec : ChangeSpec := { name := "frameFeeds", fn := fun _ => fun
  | [d] => { results := [.lit (.bool true)], args := [d] }
  | _ => none }
def frameFeedsRow : OpenClaim := { program := "ytobgijpbfmpdaaa", sum := "d6361c231d89293906da32a3d7ae95783b1a404a9ddc4c3e7f4b646b0d23eb0b", func := "prompter/prompterlaw06.FrameFeeds", spec := "frameFeeds", unfollowed := true, recurses := true, apart := false }
def FrameFeedsSaid : Prop := frameFeedsRow.holds Try.pinned (OpenSpec.ofChange frameFeedsSpec)

/-- ITS FALSE NEIGHBOUR: 'it returns false'. Refute it at one input. -/
def frameFeedsWrong : ChangeSpec := { name := "frameFeeds", fn := fun _ => fun
  | [d] => { results := [.lit (.bool false)], args := [d] }
  | _ => none }
def FrameFeedsWrongFalsely : Prop := frameFeedsRow.holds Try.pinned (OpenSpec.ofChange frameFeedsWrong)

/-- 'prompterlaw06.FrameBack': WHATEVER THE INPUT: true; the input reads as it did. -/
def frameBackSpec : ChangeSpec := { name := "frameBack", fn := fun _ => fun
  | [d1, d2] => { results := [.lit (.bool true)], args := [d1, d2] }
  | _ => none }
def frameBackRow : OpenClaim := { program := "ytobgijpbfmpdaaa", sum := "d6361c231d89293906da32a3d7ae95783b1a404a9ddc4c3e7f4b646b0d23eb0b", func := "prompter/prompterlaw06.FrameBack", spec := "frameBack", unfollowed := true, recurses := true, apart := false }
def FrameBackSaid : Prop := frameBackRow.holds Try.pinned (OpenSpec.ofChange frameBackSpec)

/-- ITS FALSE NEIGHBOUR: 'it returns false'. Refute it at one input. -/
def frameBackWrong : ChangeSpec := { name := "frameBack", fn := fun _ => fun
  | [d1, d2] => { results := [.lit (.bool false)], args := [d1, d2] }
  | _ => none }
def FrameBackWrongFalsely : Prop := frameBackRow.holds Try.pinned (OpenSpec.ofChange frameBackWrong)

/-- 'prompterlaw11.CheckSlots': WHATEVER THE INPUT: true; the input reads as it did. -/
def checkSlotsSpec : ChangeSpec := { name := "checkSlots", fn := fun _ => fun
  | [d] => { results := [.lit (.bool true)], args := [d] }
  | _ => none }
def checkSlotsRow : OpenClaim := { program := "ytobgijpbfmpdaaa", sum := "d6361c231d89293906da32a3d7ae95783b1a404a9ddc4c3e7f4b646b0d23eb0b", func := "prompter/prompterlaw11.CheckSlots", spec := "checkSlots", unfollowed := true, recurses := true, apart := false }
def CheckSlotsSaid : Prop := checkSlotsRow.holds Try.pinned (OpenSpec.ofChange checkSlotsSpec)

/-- ITS FALSE NEIGHBOUR: 'it returns false'. Refute it at one input. -/
def checkSlotsWrong : ChangeSpec := { name := "checkSlots", fn := fun _ => fun
  | [d] => { results := [.lit (.bool false)], args := [d] }
  | _ => none }
def CheckSlotsWrongFalsely : Prop := checkSlotsRow.holds Try.pinned (OpenSpec.ofChange checkSlotsWrong)

/-- 'prompterlaw11.CheckBound': WHATEVER THE INPUT: true; the input reads as it did. -/
def checkBoundSpec : ChangeSpec := { name := "checkBound", fn := fun _ => fun
  | [d] => { results := [.lit (.bool true)], args := [d] }
  | _ => none }
def checkBoundRow : OpenClaim := { program := "ytobgijpbfmpdaaa", sum := "d6361c231d89293906da32a3d7ae95783b1a404a9ddc4c3e7f4b646b0d23eb0b", func := "prompter/prompterlaw11.CheckBound", spec := "checkBound", unfollowed := true, recurses := true, apart := false }
def CheckBoundSaid : Prop := checkBoundRow.holds Try.pinned (OpenSpec.ofChange checkBoundSpec)

/-- ITS FALSE NEIGHBOUR: 'it returns false'. Refute it at one input. -/
def checkBoundWrong : ChangeSpec := { name := "checkBound", fn := fun _ => fun
  | [d] => { results := [.lit (.bool false)], args := [d] }
  | _ => none }
def CheckBoundWrongFalsely : Prop := checkBoundRow.holds Try.pinned (OpenSpec.ofChange checkBoundWrong)

/-- 'prompterlaw11.CheckRenamed': WHATEVER THE INPUT: true; the input reads as it did. -/
def checkRenamedSpec : ChangeSpec := { name := "checkRenamed", fn := fun _ => fun
  | [d1, d2] => { results := [.lit (.bool true)], args := [d1, d2] }
  | _ => none }
def checkRenamedRow : OpenClaim := { program := "ytobgijpbfmpdaaa", sum := "d6361c231d89293906da32a3d7ae95783b1a404a9ddc4c3e7f4b646b0d23eb0b", func := "prompter/prompterlaw11.CheckRenamed", spec := "checkRenamed", unfollowed := true, recurses := true, apart := false }
def CheckRenamedSaid : Prop := checkRenamedRow.holds Try.pinned (OpenSpec.ofChange checkRenamedSpec)

/-- ITS FALSE NEIGHBOUR: 'it returns false'. Refute it at one input. -/
def checkRenamedWrong : ChangeSpec := { name := "checkRenamed", fn := fun _ => fun
  | [d1, d2] => { results := [.lit (.bool false)], args := [d1, d2] }
  | _ => none }
def CheckRenamedWrongFalsely : Prop := checkRenamedRow.holds Try.pinned (OpenSpec.ofChange checkRenamedWrong)

/-- 'prompterlaw11.CheckNames': WHATEVER THE INPUT: true; the input reads as it did. -/
def checkNamesSpec : ChangeSpec := { name := "checkNames", fn := fun _ => fun
  | [d] => { results := [.lit (.bool true)], args := [d] }
  | _ => none }
def checkNamesRow : OpenClaim := { program := "ytobgijpbfmpdaaa", sum := "d6361c231d89293906da32a3d7ae95783b1a404a9ddc4c3e7f4b646b0d23eb0b", func := "prompter/prompterlaw11.CheckNames", spec := "checkNames", unfollowed := true, recurses := true, apart := false }
def CheckNamesSaid : Prop := checkNamesRow.holds Try.pinned (OpenSpec.ofChange checkNamesSpec)

/-- ITS FALSE NEIGHBOUR: 'it returns false'. Refute it at one input. -/
def checkNamesWrong : ChangeSpec := { name := "checkNames", fn := fun _ => fun
  | [d] => { results := [.lit (.bool false)], args := [d] }
  | _ => none }
def CheckNamesWrongFalsely : Prop := checkNamesRow.holds Try.pinned (OpenSpec.ofChange checkNamesWrong)

/-- 'prompterlaw17.EventReads': WHATEVER THE INPUT: true; the input reads as it did. -/
def eventReadsSpec : ChangeSpec := { name := "eventReads", fn := fun _ => fun
  | [d] => { results := [.lit (.bool true)], args := [d] }
  | _ => none }
def eventReadsRow : OpenClaim := { program := "ytobgijpbfmpdaaa", sum := "d6361c231d89293906da32a3d7ae95783b1a404a9ddc4c3e7f4b646b0d23eb0b", func := "prompter/prompterlaw17.EventReads", spec := "eventReads", inPlace := ["math.Float64bits", "math.Float64frombits"], unfollowed := true, recurses := true, apart := false }
def EventReadsSaid : Prop := eventReadsRow.holds Try.pinned (OpenSpec.ofChange eventReadsSpec)

/-- ITS FALSE NEIGHBOUR: 'it returns false'. Refute it at one input. -/
def eventReadsWrong : ChangeSpec := { name := "eventReads", fn := fun _ => fun
  | [d] => { results := [.lit (.bool false)], args := [d] }
  | _ => none }
def EventReadsWrongFalsely : Prop := eventReadsRow.holds Try.pinned (OpenSpec.ofChange eventReadsWrong)

/-- 'prompterlaw17.EventKnown': WHATEVER THE INPUT: true; the input reads as it did. -/
def eventKnownSpec : ChangeSpec := { name := "eventKnown", fn := fun _ => fun
  | [] => { results := [.lit (.bool true)], args := [] }
  | _ => none }
def eventKnownRow : OpenClaim := { program := "ytobgijpbfmpdaaa", sum := "d6361c231d89293906da32a3d7ae95783b1a404a9ddc4c3e7f4b646b0d23eb0b", func := "prompter/prompterlaw17.EventKnown", spec := "eventKnown", inPlace := ["math.Float64bits", "math.Float64frombits"], unfollowed := true, recurses := true, apart := false }
def EventKnownSaid : Prop := eventKnownRow.holds Try.pinned (OpenSpec.ofChange eventKnownSpec)

/-- ITS FALSE NEIGHBOUR: 'it returns false'. Refute it at one input. -/
def eventKnownWrong : ChangeSpec := { name := "eventKnown", fn := fun _ => fun
  | [] => { results := [.lit (.bool false)], args := [] }
  | _ => none }
def EventKnownWrongFalsely : Prop := eventKnownRow.holds Try.pinned (OpenSpec.ofChange eventKnownWrong)

/-- 'prompterlaw25.DiskLasts': WHATEVER THE INPUT: true; the input reads as it did. -/
def diskLastsSpec : ChangeSpec := { name := "diskLasts", fn := fun _ => fun
  | [d] => { results := [.lit (.bool true)], args := [d] }
  | _ => none }
def diskLastsRow : OpenClaim := { program := "ytobgijpbfmpdaaa", sum := "d6361c231d89293906da32a3d7ae95783b1a404a9ddc4c3e7f4b646b0d23eb0b", func := "prompter/prompterlaw25.DiskLasts", spec := "diskLasts", unfollowed := true, recurses := true, apart := false }
def DiskLastsSaid : Prop := diskLastsRow.holds Try.pinned (OpenSpec.ofChange diskLastsSpec)

/-- ITS FALSE NEIGHBOUR: 'it returns false'. Refute it at one input. -/
def diskLastsWrong : ChangeSpec := { name := "diskLasts", fn := fun _ => fun
  | [d] => { results := [.lit (.bool false)], args := [d] }
  | _ => none }
def DiskLastsWrongFalsely : Prop := diskLastsRow.holds Try.pinned (OpenSpec.ofChange diskLastsWrong)

/-- 'prompterlaw17.EventOnce': WHATEVER THE INPUT: true; the input reads as it did. -/
def eventOnceSpec : ChangeSpec := { name := "eventOnce", fn := fun _ => fun
  | [d] => { results := [.lit (.bool true)], args := [d] }
  | _ => none }
def eventOnceRow : OpenClaim := { program := "ytobgijpbfmpdaaa", sum := "d6361c231d89293906da32a3d7ae95783b1a404a9ddc4c3e7f4b646b0d23eb0b", func := "prompter/prompterlaw17.EventOnce", spec := "eventOnce", inPlace := ["math.Float64bits", "math.Float64frombits"], unfollowed := true, recurses := true, apart := false }
def EventOnceSaid : Prop := eventOnceRow.holds Try.pinned (OpenSpec.ofChange eventOnceSpec)

/-- ITS FALSE NEIGHBOUR: 'it returns false'. Refute it at one input. -/
def eventOnceWrong : ChangeSpec := { name := "eventOnce", fn := fun _ => fun
  | [d] => { results := [.lit (.bool false)], args := [d] }
  | _ => none }
def EventOnceWrongFalsely : Prop := eventOnceRow.holds Try.pinned (OpenSpec.ofChange eventOnceWrong)

/-- 'prompterlaw25.DiskFuse': WHATEVER THE INPUT: true; the input reads as it did. -/
def diskFuseSpec : ChangeSpec := { name := "diskFuse", fn := fun _ => fun
  | [d1, d2] => { results := [.lit (.bool true)], args := [d1, d2] }
  | _ => none }
def diskFuseRow : OpenClaim := { program := "ytobgijpbfmpdaaa", sum := "d6361c231d89293906da32a3d7ae95783b1a404a9ddc4c3e7f4b646b0d23eb0b", func := "prompter/prompterlaw25.DiskFuse", spec := "diskFuse", unfollowed := true, recurses := true, apart := false }
def DiskFuseSaid : Prop := diskFuseRow.holds Try.pinned (OpenSpec.ofChange diskFuseSpec)

/-- ITS FALSE NEIGHBOUR: 'it returns false'. Refute it at one input. -/
def diskFuseWrong : ChangeSpec := { name := "diskFuse", fn := fun _ => fun
  | [d1, d2] => { results := [.lit (.bool false)], args := [d1, d2] }
  | _ => none }
def DiskFuseWrongFalsely : Prop := diskFuseRow.holds Try.pinned (OpenSpec.ofChange diskFuseWrong)

/-- 'prompterlaw25.DiskScript': WHATEVER THE INPUT: true; the input reads as it did. -/
def diskScriptSpec : ChangeSpec := { name := "diskScript", fn := fun _ => fun
  | [d] => { results := [.lit (.bool true)], args := [d] }
  | _ => none }
def diskScriptRow : OpenClaim := { program := "ytobgijpbfmpdaaa", sum := "d6361c231d89293906da32a3d7ae95783b1a404a9ddc4c3e7f4b646b0d23eb0b", func := "prompter/prompterlaw25.DiskScript", spec := "diskScript", unfollowed := true, recurses := true, apart := false }
def DiskScriptSaid : Prop := diskScriptRow.holds Try.pinned (OpenSpec.ofChange diskScriptSpec)

/-- ITS FALSE NEIGHBOUR: 'it returns false'. Refute it at one input. -/
def diskScriptWrong : ChangeSpec := { name := "diskScript", fn := fun _ => fun
  | [d] => { results := [.lit (.bool false)], args := [d] }
  | _ => none }
def DiskScriptWrongFalsely : Prop := diskScriptRow.holds Try.pinned (OpenSpec.ofChange diskScriptWrong)

/-- 'prompterlaw25.DiskNobody': WHATEVER THE INPUT: true; the input reads as it did. -/
def diskNobodySpec : ChangeSpec := { name := "diskNobody", fn := fun _ => fun
  | [d1, d2, d3] => { results := [.lit (.bool true)], args := [d1, d2, d3] }
  | _ => none }
def diskNobodyRow : OpenClaim := { program := "ytobgijpbfmpdaaa", sum := "d6361c231d89293906da32a3d7ae95783b1a404a9ddc4c3e7f4b646b0d23eb0b", func := "prompter/prompterlaw25.DiskNobody", spec := "diskNobody", unfollowed := true, recurses := true, apart := false }
def DiskNobodySaid : Prop := diskNobodyRow.holds Try.pinned (OpenSpec.ofChange diskNobodySpec)

/-- ITS FALSE NEIGHBOUR: 'it returns false'. Refute it at one input. -/
def diskNobodyWrong : ChangeSpec := { name := "diskNobody", fn := fun _ => fun
  | [d1, d2, d3] => { results := [.lit (.bool false)], args := [d1, d2, d3] }
  | _ => none }
def DiskNobodyWrongFalsely : Prop := diskNobodyRow.holds Try.pinned (OpenSpec.ofChange diskNobodyWrong)

/-- 'prompterlaw11.CheckAsks': WHATEVER THE INPUT: true; the input reads as it did. -/
def checkAsksSpec : ChangeSpec := { name := "checkAsks", fn := fun _ => fun
  | [d] => { results := [.lit (.bool true)], args := [d] }
  | _ => none }
def checkAsksRow : OpenClaim := { program := "ytobgijpbfmpdaaa", sum := "d6361c231d89293906da32a3d7ae95783b1a404a9ddc4c3e7f4b646b0d23eb0b", func := "prompter/prompterlaw11.CheckAsks", spec := "checkAsks", unfollowed := true, recurses := true, apart := false }
def CheckAsksSaid : Prop := checkAsksRow.holds Try.pinned (OpenSpec.ofChange checkAsksSpec)

/-- ITS FALSE NEIGHBOUR: 'it returns false'. Refute it at one input. -/
def checkAsksWrong : ChangeSpec := { name := "checkAsks", fn := fun _ => fun
  | [d] => { results := [.lit (.bool false)], args := [d] }
  | _ => none }
def CheckAsksWrongFalsely : Prop := checkAsksRow.holds Try.pinned (OpenSpec.ofChange checkAsksWrong)

/- THE SECOND FORM. 'bulk': how many values and letters a reading holds, each counted each time it is reached (what is shared counts as often as it is met; a slice's spare places count too). A statement '..UptoSaid' is the law's where the arguments, and the package variables that the reading takes, are together of bulk at most 1048576: NARROWER than '..Said'. Prove '..Said' where nothing that the law and all that it calls make is longer than what came in: it says more and counts as full. Else prove '..UptoSaid'. A law counts once. -/
mutual
def uptoBulk {H : Type} : DataW H → Nat
  | .lit (.string bytes) => bytes.length + 1
  | .lit _ => 1
  | .nil => 1
  | .ptr d => uptoBulk d + 1
  | .slice elems spare => uptoBulkAll elems + uptoBulkAll spare + 1
  | .agg parts => uptoBulkAll parts + 1
  | .iface _ d => uptoBulk d + 1
  | .map entries => uptoBulkEntries entries + 1
  | .held _ => 1
def uptoBulkAll {H : Type} : List (DataW H) → Nat
  | [] => 0
  | d :: r => uptoBulk d + uptoBulkAll r
def uptoBulkEntries {H : Type} : List (Lit × DataW H) → Nat
  | [] => 0
  | x :: r => uptoBulkEntry x + uptoBulkEntries r
def uptoBulkEntry {H : Type} : Lit × DataW H → Nat
  | (.string bytes, d) => bytes.length + uptoBulk d + 1
  | (_, d) => uptoBulk d + 1
 end
def uptoSmall : (H : Type) → List (DataW H) → Bool := fun _ ds => decide (uptoBulkAll ds ≤ 1048576)
def OpenSpec.upto (s : _root_.Go.ChangeSpec) : _root_.Go.OpenSpec := { _root_.Go.OpenSpec.ofChange s with cond := some uptoSmall }

/-- 'prompterlaw06.FrameSums', WHERE WHAT IT READS IS OF BULK AT MOST 1048576: true; the input reads as it did. -/
def frameSumsUptoRow : OpenClaim := { program := "ytobgijpbfmpdaaa", sum := "d6361c231d89293906da32a3d7ae95783b1a404a9ddc4c3e7f4b646b0d23eb0b", func := "prompter/prompterlaw06.FrameSums", spec := "frameSums", apart := false, narrowed := true }
def FrameSumsUptoSaid : Prop := frameSumsUptoRow.holds Try.pinned (OpenSpec.upto frameSumsSpec)

/-- 'prompterlaw06.FrameBits', WHERE WHAT IT READS IS OF BULK AT MOST 1048576: true; the input reads as it did. -/
def frameBitsUptoRow : OpenClaim := { program := "ytobgijpbfmpdaaa", sum := "d6361c231d89293906da32a3d7ae95783b1a404a9ddc4c3e7f4b646b0d23eb0b", func := "prompter/prompterlaw06.FrameBits", spec := "frameBits", apart := false, narrowed := true }
def FrameBitsUptoSaid : Prop := frameBitsUptoRow.holds Try.pinned (OpenSpec.upto frameBitsSpec)

/-- 'prompterlaw06.FrameReads', WHERE WHAT IT READS IS OF BULK AT MOST 1048576: true; the input reads as it did. -/
def frameReadsUptoRow : OpenClaim := { program := "ytobgijpbfmpdaaa", sum := "d6361c231d89293906da32a3d7ae95783b1a404a9ddc4c3e7f4b646b0d23eb0b", func := "prompter/prompterlaw06.FrameReads", spec := "frameReads", unfollowed := true, recurses := true, apart := false, narrowed := true }
def FrameReadsUptoSaid : Prop := frameReadsUptoRow.holds Try.pinned (OpenSpec.upto frameReadsSpec)

/-- 'prompterlaw06.FrameKnown', WHERE WHAT IT READS IS OF BULK AT MOST 1048576: true; the input reads as it did. -/
def frameKnownUptoRow : OpenClaim := { program := "ytobgijpbfmpdaaa", sum := "d6361c231d89293906da32a3d7ae95783b1a404a9ddc4c3e7f4b646b0d23eb0b", func := "prompter/prompterlaw06.FrameKnown", spec := "frameKnown", unfollowed := true, recurses := true, apart := false, narrowed := true }
def FrameKnownUptoSaid : Prop := frameKnownUptoRow.holds Try.pinned (OpenSpec.upto frameKnownSpec)

/-- 'prompterlaw06.FrameFeeds', WHERE WHAT IT READS IS OF BULK AT MOST 1048576: true; the input reads as it did. -/
def frameFeedsUptoRow : OpenClaim := { program := "ytobgijpbfmpdaaa", sum := "d6361c231d89293906da32a3d7ae95783b1a404a9ddc4c3e7f4b646b0d23eb0b", func := "prompter/prompterlaw06.FrameFeeds", spec := "frameFeeds", unfollowed := true, recurses := true, apart := false, narrowed := true }
def FrameFeedsUptoSaid : Prop := frameFeedsUptoRow.holds Try.pinned (OpenSpec.upto frameFeedsSpec)

/-- 'prompterlaw06.FrameBack', WHERE WHAT IT READS IS OF BULK AT MOST 1048576: true; the input reads as it did. -/
def frameBackUptoRow : OpenClaim := { program := "ytobgijpbfmpdaaa", sum := "d6361c231d89293906da32a3d7ae95783b1a404a9ddc4c3e7f4b646b0d23eb0b", func := "prompter/prompterlaw06.FrameBack", spec := "frameBack", unfollowed := true, recurses := true, apart := false, narrowed := true }
def FrameBackUptoSaid : Prop := frameBackUptoRow.holds Try.pinned (OpenSpec.upto frameBackSpec)

/-- 'prompterlaw11.CheckSlots', WHERE WHAT IT READS IS OF BULK AT MOST 1048576: true; the input reads as it did. -/
def checkSlotsUptoRow : OpenClaim := { program := "ytobgijpbfmpdaaa", sum := "d6361c231d89293906da32a3d7ae95783b1a404a9ddc4c3e7f4b646b0d23eb0b", func := "prompter/prompterlaw11.CheckSlots", spec := "checkSlots", unfollowed := true, recurses := true, apart := false, narrowed := true }
def CheckSlotsUptoSaid : Prop := checkSlotsUptoRow.holds Try.pinned (OpenSpec.upto checkSlotsSpec)

/-- 'prompterlaw11.CheckBound', WHERE WHAT IT READS IS OF BULK AT MOST 1048576: true; the input reads as it did. -/
def checkBoundUptoRow : OpenClaim := { program := "ytobgijpbfmpdaaa", sum := "d6361c231d89293906da32a3d7ae95783b1a404a9ddc4c3e7f4b646b0d23eb0b", func := "prompter/prompterlaw11.CheckBound", spec := "checkBound", unfollowed := true, recurses := true, apart := false, narrowed := true }
def CheckBoundUptoSaid : Prop := checkBoundUptoRow.holds Try.pinned (OpenSpec.upto checkBoundSpec)

/-- 'prompterlaw11.CheckRenamed', WHERE WHAT IT READS IS OF BULK AT MOST 1048576: true; the input reads as it did. -/
def checkRenamedUptoRow : OpenClaim := { program := "ytobgijpbfmpdaaa", sum := "d6361c231d89293906da32a3d7ae95783b1a404a9ddc4c3e7f4b646b0d23eb0b", func := "prompter/prompterlaw11.CheckRenamed", spec := "checkRenamed", unfollowed := true, recurses := true, apart := false, narrowed := true }
def CheckRenamedUptoSaid : Prop := checkRenamedUptoRow.holds Try.pinned (OpenSpec.upto checkRenamedSpec)

/-- 'prompterlaw11.CheckNames', WHERE WHAT IT READS IS OF BULK AT MOST 1048576: true; the input reads as it did. -/
def checkNamesUptoRow : OpenClaim := { program := "ytobgijpbfmpdaaa", sum := "d6361c231d89293906da32a3d7ae95783b1a404a9ddc4c3e7f4b646b0d23eb0b", func := "prompter/prompterlaw11.CheckNames", spec := "checkNames", unfollowed := true, recurses := true, apart := false, narrowed := true }
def CheckNamesUptoSaid : Prop := checkNamesUptoRow.holds Try.pinned (OpenSpec.upto checkNamesSpec)

/-- 'prompterlaw17.EventReads', WHERE WHAT IT READS IS OF BULK AT MOST 1048576: true; the input reads as it did. -/
def eventReadsUptoRow : OpenClaim := { program := "ytobgijpbfmpdaaa", sum := "d6361c231d89293906da32a3d7ae95783b1a404a9ddc4c3e7f4b646b0d23eb0b", func := "prompter/prompterlaw17.EventReads", spec := "eventReads", inPlace := ["math.Float64bits", "math.Float64frombits"], unfollowed := true, recurses := true, apart := false, narrowed := true }
def EventReadsUptoSaid : Prop := eventReadsUptoRow.holds Try.pinned (OpenSpec.upto eventReadsSpec)

/-- 'prompterlaw17.EventKnown', WHERE WHAT IT READS IS OF BULK AT MOST 1048576: true; the input reads as it did. -/
def eventKnownUptoRow : OpenClaim := { program := "ytobgijpbfmpdaaa", sum := "d6361c231d89293906da32a3d7ae95783b1a404a9ddc4c3e7f4b646b0d23eb0b", func := "prompter/prompterlaw17.EventKnown", spec := "eventKnown", inPlace := ["math.Float64bits", "math.Float64frombits"], unfollowed := true, recurses := true, apart := false, narrowed := true }
def EventKnownUptoSaid : Prop := eventKnownUptoRow.holds Try.pinned (OpenSpec.upto eventKnownSpec)

/-- 'prompterlaw25.DiskLasts', WHERE WHAT IT READS IS OF BULK AT MOST 1048576: true; the input reads as it did. -/
def diskLastsUptoRow : OpenClaim := { program := "ytobgijpbfmpdaaa", sum := "d6361c231d89293906da32a3d7ae95783b1a404a9ddc4c3e7f4b646b0d23eb0b", func := "prompter/prompterlaw25.DiskLasts", spec := "diskLasts", unfollowed := true, recurses := true, apart := false, narrowed := true }
def DiskLastsUptoSaid : Prop := diskLastsUptoRow.holds Try.pinned (OpenSpec.upto diskLastsSpec)

/-- 'prompterlaw17.EventOnce', WHERE WHAT IT READS IS OF BULK AT MOST 1048576: true; the input reads as it did. -/
def eventOnceUptoRow : OpenClaim := { program := "ytobgijpbfmpdaaa", sum := "d6361c231d89293906da32a3d7ae95783b1a404a9ddc4c3e7f4b646b0d23eb0b", func := "prompter/prompterlaw17.EventOnce", spec := "eventOnce", inPlace := ["math.Float64bits", "math.Float64frombits"], unfollowed := true, recurses := true, apart := false, narrowed := true }
def EventOnceUptoSaid : Prop := eventOnceUptoRow.holds Try.pinned (OpenSpec.upto eventOnceSpec)

/-- 'prompterlaw25.DiskFuse', WHERE WHAT IT READS IS OF BULK AT MOST 1048576: true; the input reads as it did. -/
def diskFuseUptoRow : OpenClaim := { program := "ytobgijpbfmpdaaa", sum := "d6361c231d89293906da32a3d7ae95783b1a404a9ddc4c3e7f4b646b0d23eb0b", func := "prompter/prompterlaw25.DiskFuse", spec := "diskFuse", unfollowed := true, recurses := true, apart := false, narrowed := true }
def DiskFuseUptoSaid : Prop := diskFuseUptoRow.holds Try.pinned (OpenSpec.upto diskFuseSpec)

/-- 'prompterlaw25.DiskScript', WHERE WHAT IT READS IS OF BULK AT MOST 1048576: true; the input reads as it did. -/
def diskScriptUptoRow : OpenClaim := { program := "ytobgijpbfmpdaaa", sum := "d6361c231d89293906da32a3d7ae95783b1a404a9ddc4c3e7f4b646b0d23eb0b", func := "prompter/prompterlaw25.DiskScript", spec := "diskScript", unfollowed := true, recurses := true, apart := false, narrowed := true }
def DiskScriptUptoSaid : Prop := diskScriptUptoRow.holds Try.pinned (OpenSpec.upto diskScriptSpec)

/-- 'prompterlaw25.DiskNobody', WHERE WHAT IT READS IS OF BULK AT MOST 1048576: true; the input reads as it did. -/
def diskNobodyUptoRow : OpenClaim := { program := "ytobgijpbfmpdaaa", sum := "d6361c231d89293906da32a3d7ae95783b1a404a9ddc4c3e7f4b646b0d23eb0b", func := "prompter/prompterlaw25.DiskNobody", spec := "diskNobody", unfollowed := true, recurses := true, apart := false, narrowed := true }
def DiskNobodyUptoSaid : Prop := diskNobodyUptoRow.holds Try.pinned (OpenSpec.upto diskNobodySpec)

/-- 'prompterlaw11.CheckAsks', WHERE WHAT IT READS IS OF BULK AT MOST 1048576: true; the input reads as it did. -/
def checkAsksUptoRow : OpenClaim := { program := "ytobgijpbfmpdaaa", sum := "d6361c231d89293906da32a3d7ae95783b1a404a9ddc4c3e7f4b646b0d23eb0b", func := "prompter/prompterlaw11.CheckAsks", spec := "checkAsks", unfollowed := true, recurses := true, apart := false, narrowed := true }
def CheckAsksUptoSaid : Prop := checkAsksUptoRow.holds Try.pinned (OpenSpec.upto checkAsksSpec)

end Rows
end Go.Proofs.Ytobgijpbfmpdaaa
