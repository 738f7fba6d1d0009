/- FrameKnown: the given row, over the walk of KnW. -/
import Derived.Test.YtobgijpbfmpdaaaRows
import Derived.Test.YtobgijpbfmpdaaaJn
import Derived.Test.YtobgijpbfmpdaaaFxA
import Derived.Test.YtobgijpbfmpdaaaFxE
import Derived.Test.YtobgijpbfmpdaaaFxL
import Derived.Test.YtobgijpbfmpdaaaFxM
import Derived.Test.YtobgijpbfmpdaaaKnW
import Derived.WalkKit
import Derived.ProofKit
import Derived.OpenShut
import Derived.ShutString
import Derived.ChangeOld
import Derived.Below
import Derived.SizedLaws
import Derived.Test.YtobgijpbfmpdaaaWSized
namespace Go.Proofs.Ytobgijpbfmpdaaa.frameKnown
open Go.ChangeShapes Go.WideShapes Go.ChangeAt Go.RowKit
open Go.ChangeMaps (open_string shut_string)
set_option linter.unusedVariables false
theorem own : ownKnob Try.prog.godebug = none := by kernel_rfl
theorem laidOut : laidOutB Try.prog = true := Fx.laidOut
set_option maxRecDepth 100000 in
theorem lifted (os : Os) (started : os.Started) (H : Type) (enc : TypeId × Value → H) :
    ReturnsInHanded {} Try.checked os 6 .any (Rows.frameKnownSpec.pre6 enc Try.prog Try.f6 Rows.frameKnownRow.domain false) (Rows.frameKnownSpec.post enc Try.prog Try.f6 false true false false) := by
  refine returnsInHanded_of_change_sized (C := Try.checked) own started (by kernel_rfl) Try.func6
    (ChangeSpec.witness6 (enc := enc) (C := Try.checked) false ⟨#[], #[], []⟩ 8 (by kernel_rfl) (by kernel_rfl) (by kernel_rfl) (by kernel_rfl)) ?_
  intro W base args ds gs before hval0 hW hcnd hsz0 _
  have hW' := hW
  obtain ⟨p, q, hA0, hV, rfl, hfz, hnd⟩ := hW
  have hA : DataW.TrodAll enc Try.prog W 0 (fun _ => true) true Try.f6.params.toList args.toList ds p := hA0
  rw [Try.params6] at hA
  obtain ⟨hargs, rfl, rfl⟩ := trodAll_nil hA
  obtain rfl : args = #[] := by cases args; simp_all
  obtain ⟨rfl, rfl⟩ := trodVars_none hV
  clear hA0 hval0 hsz0
  refine (KnW.walk W).mono fun e W' ⟨he, bel⟩ => ?_
  subst he
  exact ⟨_, rfl, _, _, _, [], _, [], hW', trodAll_mk1 (shut_bool Try.underlying4 _), trodAll_mk0, rfl, bel.frame _, fun h => by cases h⟩
theorem wf1 : Rows.frameKnownRow.wf (OpenSpec.ofChange Rows.frameKnownSpec) = true := by kernel_rfl
theorem tie1 : (Try.f6.params.all (Try.prog.readableRec ·) && namedTie Try.prog Rows.frameKnownRow.named Rows.frameKnownSpec.vars && (Rows.frameKnownRow.stops == []) && (Rows.frameKnownRow.knobs == [])) = true := by kernel_rfl
theorem inp1 : (Rows.frameKnownRow.inPlace == Try.prog.inPlace 6) = true := by kernel_rfl
theorem unf1 : (Rows.frameKnownRow.unfollowed == Try.prog.unfollowed 6) = true := by kernel_rfl
theorem rec1 : (Rows.frameKnownRow.recurses == Try.prog.recurses 6) = true := by kernel_rfl
theorem nam1 : (Rows.frameKnownRow.named == Try.prog.varsNamed 6) = true := by kernel_rfl
theorem typ1 : ((Rows.frameKnownRow.maps == (Try.f6.params.toList ++ Rows.frameKnownSpec.plain.varTypes Try.prog).any (Try.prog.mapsRec ·)) && (Rows.frameKnownRow.ifaces == (Try.f6.params.toList ++ Rows.frameKnownSpec.plain.varTypes Try.prog).any (Try.prog.ifacesRec ·)) && (Rows.frameKnownRow.mapsOut == Try.prog.mapsAmong Try.f6.resultTypes.toList) && (Rows.frameKnownRow.loops == (Try.f6.params.toList ++ Rows.frameKnownSpec.plain.varTypes Try.prog).any (Try.prog.loopsFrom ·)) && (Rows.frameKnownRow.wideKeys == (Try.f6.params.toList ++ Rows.frameKnownSpec.plain.varTypes Try.prog ++ Try.f6.resultTypes.toList).any (Try.prog.wideKeysFrom ·)) && Rows.frameKnownSpec.vars.all (Try.prog.varReadable ·) && Try.f6.resultTypes.all (fun t => Try.prog.readableRec t && decide (t < Try.prog.types.size)) && (Rows.frameKnownRow.ifacesOut == Try.f6.resultTypes.toList.any (Try.prog.ifacesRec ·)) && (Rows.frameKnownRow.loopsOut == Try.f6.resultTypes.toList.any (Try.prog.loopsFrom ·))) = true := by kernel_rfl
theorem short1 : Rows.frameKnownRow.shortTexts.isNone = true := by kernel_rfl
theorem vei1 : (Rows.frameKnownRow.domain.isEmpty && (Rows.frameKnownRow.kinds == []) && (Rows.frameKnownRow.pinned == Rows.frameKnownRow.pinnedBy) && (Rows.frameKnownRow.veiled == (Try.f6.params.toList ++ Rows.frameKnownSpec.plain.varTypes Try.prog ++ Try.f6.resultTypes.toList).any (Try.prog.veiledRec ·)) && Rows.frameKnownRow.veiledFits Try.prog Try.f6.params.toList (Try.f6.params.toList ++ Rows.frameKnownSpec.plain.varTypes Try.prog ++ Try.f6.resultTypes.toList)) = true := by kernel_rfl
theorem closed : joinedFacts Try.prog 6 Try.f6 Rows.frameKnownSpec Rows.frameKnownRow = true :=
  Mine.joined_of wf1 Fx.laidOut Fx.mapsRow tie1 Fx.stops0 Fx.knobs0 inp1 unf1 rec1 nam1 typ1 Fx.plainK short1 Fx.heard Fx.enters Fx.lifts Fx.make vei1
theorem over : Rows.frameKnownRow.holds Try.pinned (OpenSpec.ofChange Rows.frameKnownSpec) :=
  OpenClaim.holds_of_wide 6 Try.f6 rfl rfl rfl rfl rfl rfl rfl ⟨rfl, rfl, rfl, rfl, rfl⟩ rfl rfl rfl rfl rfl (by kernel_rfl) Try.func6 closed
    (of_decide_eq_true (by kernel_rfl)) (by unfold Func.isWrapper; first | (rw [if_pos (by decide +kernel)]; kernel_rfl) | (rw [if_neg (by decide +kernel)]; exact ⟨rfl, rfl⟩))
    (fun os started H enc _ => lifted os started H enc)
theorem proved : Rows.FrameKnownSaid := over
#print axioms proved
end Go.Proofs.Ytobgijpbfmpdaaa.frameKnown
namespace Go.Proofs.Ytobgijpbfmpdaaa
/-- The row, under a short name, for the claim. -/
theorem frameKnown_holds : Rows.FrameKnownSaid := frameKnown.proved
end Go.Proofs.Ytobgijpbfmpdaaa
