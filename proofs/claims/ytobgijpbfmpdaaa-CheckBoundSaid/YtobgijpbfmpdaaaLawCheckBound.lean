/- CheckBound: the given row, over the walk of CbW. -/
import Derived.Test.YtobgijpbfmpdaaaRows
import Derived.Test.YtobgijpbfmpdaaaJn
import Derived.Test.YtobgijpbfmpdaaaFxA
import Derived.Test.YtobgijpbfmpdaaaFxE
import Derived.Test.YtobgijpbfmpdaaaFxL
import Derived.Test.YtobgijpbfmpdaaaFxM
import Derived.Test.YtobgijpbfmpdaaaCbW
import Derived.WalkKit
import Derived.ProofKit
import Derived.OpenShut
import Derived.ShutString
import Derived.ChangeOld
import Derived.Below
import Derived.SizedLaws
namespace Go.Proofs.Ytobgijpbfmpdaaa.checkBound
open Go.ChangeShapes Go.WideShapes Go.ChangeAt Go.RowKit
set_option linter.unusedVariables false
theorem own : ownKnob Try.prog.godebug = none := by kernel_rfl
theorem laidOut : laidOutB Try.prog = true := Fx.laidOut
set_option maxRecDepth 100000 in
theorem lifted (os : Os) (started : os.Started) (H : Type) (enc : TypeId × Value → H) :
    ReturnsInHanded {} Try.checked os 10 .any (Rows.checkBoundSpec.pre6 enc Try.prog Try.f10 Rows.checkBoundRow.domain false) (Rows.checkBoundSpec.post enc Try.prog Try.f10 false true false false) := by
  refine returnsInHanded_of_change_sized (C := Try.checked) own started (by kernel_rfl) Try.func10
    (ChangeSpec.witness6 (enc := enc) (C := Try.checked) false ⟨#[], #[.slice none 0 0], []⟩ 8 (by kernel_rfl) (by kernel_rfl) (by kernel_rfl) (by kernel_rfl)) ?_
  intro W base args ds gs before hval0 hW hcnd hsz0 _
  have hsz : (DataW.weightsEach Try.prog (Try.f10.params.toList ++ Rows.checkBoundSpec.plain.varTypes Try.prog) (ds ++ gs)).all (· ≤ reachBytes) = true := hsz0
  have hval : ∀ (j : Nat) t v, Try.f10.params[j]? = some t → args[j]? = some v → Value.okWide Try.prog W .any base t v := hval0
  have hW' := hW
  obtain ⟨p, q, hA0, hV, rfl, hfz, hnd⟩ := hW
  have hA : DataW.TrodAll enc Try.prog W 0 (fun _ => true) true Try.f10.params.toList args.toList ds p := hA0
  rw [Try.params10] at hA hval hsz
  obtain ⟨v0, vs0, d0, ds0, p0, q0, hargs, rfl, rfl, h0, r0⟩ := trodAll_cons hA
  obtain ⟨rfl, rfl, rfl⟩ := trodAll_nil r0
  obtain rfl : args = #[v0] := by cases args; simp_all
  obtain ⟨rfl, rfl⟩ := trodVars_none hV
  have lt0 : ∀ x ∈ p0, x.block < W.heap.size := by obtain ⟨m, hm⟩ := h0; exact DataW.trod_lt m _ _ _ hm
  clear hA0 hval0 hsz0
  refine (CbW.walk W base v0 d0 p0 (hval 0 53 v0 rfl rfl) h0 hsz).mono fun e W' ⟨he, bel⟩ => ?_
  subst he
  exact ⟨_, rfl, _, _, _, [], _, [], hW', trodAll_mk1 (shut_bool Try.underlying4 _), (trodAll_cons_mk (Below.trod laidOut (by kernel_rfl) (of_decide_eq_true (by kernel_rfl)) h0 bel lt0) trodAll_mk0), rfl, bel.frame _, fun h => by cases h⟩
theorem wf1 : Rows.checkBoundRow.wf (OpenSpec.ofChange Rows.checkBoundSpec) = true := by kernel_rfl
theorem tie1 : (Try.f10.params.all (Try.prog.readableRec ·) && namedTie Try.prog Rows.checkBoundRow.named Rows.checkBoundSpec.vars && (Rows.checkBoundRow.stops == []) && (Rows.checkBoundRow.knobs == [])) = true := by kernel_rfl
theorem inp1 : (Rows.checkBoundRow.inPlace == Try.prog.inPlace 10) = true := by kernel_rfl
theorem unf1 : (Rows.checkBoundRow.unfollowed == Try.prog.unfollowed 10) = true := by kernel_rfl
theorem rec1 : (Rows.checkBoundRow.recurses == Try.prog.recurses 10) = true := by kernel_rfl
theorem nam1 : (Rows.checkBoundRow.named == Try.prog.varsNamed 10) = true := by kernel_rfl
theorem typ1 : ((Rows.checkBoundRow.maps == (Try.f10.params.toList ++ Rows.checkBoundSpec.plain.varTypes Try.prog).any (Try.prog.mapsRec ·)) && (Rows.checkBoundRow.ifaces == (Try.f10.params.toList ++ Rows.checkBoundSpec.plain.varTypes Try.prog).any (Try.prog.ifacesRec ·)) && (Rows.checkBoundRow.mapsOut == Try.prog.mapsAmong Try.f10.resultTypes.toList) && (Rows.checkBoundRow.loops == (Try.f10.params.toList ++ Rows.checkBoundSpec.plain.varTypes Try.prog).any (Try.prog.loopsFrom ·)) && (Rows.checkBoundRow.wideKeys == (Try.f10.params.toList ++ Rows.checkBoundSpec.plain.varTypes Try.prog ++ Try.f10.resultTypes.toList).any (Try.prog.wideKeysFrom ·)) && Rows.checkBoundSpec.vars.all (Try.prog.varReadable ·) && Try.f10.resultTypes.all (fun t => Try.prog.readableRec t && decide (t < Try.prog.types.size)) && (Rows.checkBoundRow.ifacesOut == Try.f10.resultTypes.toList.any (Try.prog.ifacesRec ·)) && (Rows.checkBoundRow.loopsOut == Try.f10.resultTypes.toList.any (Try.prog.loopsFrom ·))) = true := by kernel_rfl
theorem short1 : Rows.checkBoundRow.shortTexts.isNone = true := by kernel_rfl
theorem vei1 : (Rows.checkBoundRow.domain.isEmpty && (Rows.checkBoundRow.kinds == []) && (Rows.checkBoundRow.pinned == Rows.checkBoundRow.pinnedBy) && (Rows.checkBoundRow.veiled == (Try.f10.params.toList ++ Rows.checkBoundSpec.plain.varTypes Try.prog ++ Try.f10.resultTypes.toList).any (Try.prog.veiledRec ·)) && Rows.checkBoundRow.veiledFits Try.prog Try.f10.params.toList (Try.f10.params.toList ++ Rows.checkBoundSpec.plain.varTypes Try.prog ++ Try.f10.resultTypes.toList)) = true := by kernel_rfl
theorem closed : joinedFacts Try.prog 10 Try.f10 Rows.checkBoundSpec Rows.checkBoundRow = true :=
  Mine.joined_of wf1 Fx.laidOut Fx.mapsRow tie1 Fx.stops0 Fx.knobs0 inp1 unf1 rec1 nam1 typ1 Fx.plainK short1 Fx.heard Fx.enters Fx.lifts Fx.make vei1
theorem over : Rows.checkBoundRow.holds Try.pinned (OpenSpec.ofChange Rows.checkBoundSpec) :=
  OpenClaim.holds_of_wide 10 Try.f10 rfl rfl rfl rfl rfl rfl rfl ⟨rfl, rfl, rfl, rfl, rfl⟩ rfl rfl rfl rfl rfl (by kernel_rfl) Try.func10 closed
    (of_decide_eq_true (by kernel_rfl)) (by unfold Func.isWrapper; first | (rw [if_pos (by decide +kernel)]; kernel_rfl) | (rw [if_neg (by decide +kernel)]; exact ⟨rfl, rfl⟩))
    (fun os started H enc _ => lifted os started H enc)
theorem proved : Rows.CheckBoundSaid := over
#print axioms proved
end Go.Proofs.Ytobgijpbfmpdaaa.checkBound
namespace Go.Proofs.Ytobgijpbfmpdaaa
/-- The row, under a short name, for the claim. -/
theorem checkBound_holds : Rows.CheckBoundSaid := checkBound.proved
end Go.Proofs.Ytobgijpbfmpdaaa
