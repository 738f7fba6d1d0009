/- FrameBack: the given row, over the walk of BkW. -/
import Derived.Test.YtobgijpbfmpdaaaRows
import Derived.Test.YtobgijpbfmpdaaaJn
import Derived.Test.YtobgijpbfmpdaaaFxA
import Derived.Test.YtobgijpbfmpdaaaFxE
import Derived.Test.YtobgijpbfmpdaaaFxL
import Derived.Test.YtobgijpbfmpdaaaFxM
import Derived.Test.YtobgijpbfmpdaaaBkW
import Derived.WalkKit
import Derived.ProofKit
import Derived.OpenShut
import Derived.ShutString
import Derived.ChangeOld
import Derived.Below
import Derived.SizedLaws
namespace Go.Proofs.Ytobgijpbfmpdaaa.frameBack
open Go.ChangeShapes Go.WideShapes Go.ChangeAt Go.RowKit
set_option linter.unusedVariables false
theorem own : ownKnob Try.prog.godebug = none := by kernel_rfl
theorem laidOut : laidOutB Try.prog = true := Fx.laidOut
set_option maxRecDepth 100000 in
theorem lifted (os : Os) (started : os.Started) (H : Type) (enc : TypeId × Value → H) :
    ReturnsInHanded {} Try.checked os 8 .any (Rows.frameBackSpec.pre6 enc Try.prog Try.f8 Rows.frameBackRow.domain false) (Rows.frameBackSpec.post enc Try.prog Try.f8 false true false false) := by
  refine returnsInHanded_of_change_sized (C := Try.checked) own started (by kernel_rfl) Try.func8
    (ChangeSpec.witness6 (enc := enc) (C := Try.checked) false ⟨#[], #[.slice none 0 0, .slice none 0 0], []⟩ 8 (by kernel_rfl) (by kernel_rfl) (by kernel_rfl) (by kernel_rfl)) ?_
  intro W base args ds gs before hval0 hW hcnd hsz0 _
  have hsz : (DataW.weightsEach Try.prog (Try.f8.params.toList ++ Rows.frameBackSpec.plain.varTypes Try.prog) (ds ++ gs)).all (· ≤ reachBytes) = true := hsz0
  have hval : ∀ (j : Nat) t v, Try.f8.params[j]? = some t → args[j]? = some v → Value.okWide Try.prog W .any base t v := hval0
  have hW' := hW
  obtain ⟨p, q, hA0, hV, rfl, hfz, hnd⟩ := hW
  have hA : DataW.TrodAll enc Try.prog W 0 (fun _ => true) true Try.f8.params.toList args.toList ds p := hA0
  rw [Try.params8] at hA hval hsz
  obtain ⟨v0, vs0, d0, ds0, p0, q0, hargs, rfl, rfl, h0, r0⟩ := trodAll_cons hA
  obtain ⟨v1, vs1, d1, ds1, p1, q1, rfl, rfl, rfl, h1, r1⟩ := trodAll_cons r0
  obtain ⟨rfl, rfl, rfl⟩ := trodAll_nil r1
  obtain rfl : args = #[v0, v1] := by cases args; simp_all
  obtain ⟨rfl, rfl⟩ := trodVars_none hV
  have lt0 : ∀ x ∈ p0, x.block < W.heap.size := by obtain ⟨m, hm⟩ := h0; exact DataW.trod_lt m _ _ _ hm
  have lt1 : ∀ x ∈ p1, x.block < W.heap.size := by obtain ⟨m, hm⟩ := h1; exact DataW.trod_lt m _ _ _ hm
  clear hA0 hval0 hsz0
  refine (BkW.walk W base v0 d0 p0 (hval 0 35 v0 rfl rfl) h0 v1 d1 p1 (hval 1 50 v1 rfl rfl) h1 hsz).mono fun e W' ⟨he, bel⟩ => ?_
  subst he
  exact ⟨_, rfl, _, _, _, [], _, [], hW', trodAll_mk1 (shut_bool Try.underlying4 _), (trodAll_cons_mk (Below.trod laidOut (by kernel_rfl) (of_decide_eq_true (by kernel_rfl)) h0 bel lt0) (trodAll_cons_mk (Below.trod laidOut (by kernel_rfl) (of_decide_eq_true (by kernel_rfl)) h1 bel lt1) trodAll_mk0)), rfl, bel.frame _, fun h => by cases h⟩
theorem wf1 : Rows.frameBackRow.wf (OpenSpec.ofChange Rows.frameBackSpec) = true := by kernel_rfl
theorem tie1 : (Try.f8.params.all (Try.prog.readableRec ·) && namedTie Try.prog Rows.frameBackRow.named Rows.frameBackSpec.vars && (Rows.frameBackRow.stops == []) && (Rows.frameBackRow.knobs == [])) = true := by kernel_rfl
theorem inp1 : (Rows.frameBackRow.inPlace == Try.prog.inPlace 8) = true := by kernel_rfl
theorem unf1 : (Rows.frameBackRow.unfollowed == Try.prog.unfollowed 8) = true := by kernel_rfl
theorem rec1 : (Rows.frameBackRow.recurses == Try.prog.recurses 8) = true := by kernel_rfl
theorem nam1 : (Rows.frameBackRow.named == Try.prog.varsNamed 8) = true := by kernel_rfl
theorem typ1 : ((Rows.frameBackRow.maps == (Try.f8.params.toList ++ Rows.frameBackSpec.plain.varTypes Try.prog).any (Try.prog.mapsRec ·)) && (Rows.frameBackRow.ifaces == (Try.f8.params.toList ++ Rows.frameBackSpec.plain.varTypes Try.prog).any (Try.prog.ifacesRec ·)) && (Rows.frameBackRow.mapsOut == Try.prog.mapsAmong Try.f8.resultTypes.toList) && (Rows.frameBackRow.loops == (Try.f8.params.toList ++ Rows.frameBackSpec.plain.varTypes Try.prog).any (Try.prog.loopsFrom ·)) && (Rows.frameBackRow.wideKeys == (Try.f8.params.toList ++ Rows.frameBackSpec.plain.varTypes Try.prog ++ Try.f8.resultTypes.toList).any (Try.prog.wideKeysFrom ·)) && Rows.frameBackSpec.vars.all (Try.prog.varReadable ·) && Try.f8.resultTypes.all (fun t => Try.prog.readableRec t && decide (t < Try.prog.types.size)) && (Rows.frameBackRow.ifacesOut == Try.f8.resultTypes.toList.any (Try.prog.ifacesRec ·)) && (Rows.frameBackRow.loopsOut == Try.f8.resultTypes.toList.any (Try.prog.loopsFrom ·))) = true := by kernel_rfl
theorem short1 : Rows.frameBackRow.shortTexts.isNone = true := by kernel_rfl
theorem vei1 : (Rows.frameBackRow.domain.isEmpty && (Rows.frameBackRow.kinds == []) && (Rows.frameBackRow.pinned == Rows.frameBackRow.pinnedBy) && (Rows.frameBackRow.veiled == (Try.f8.params.toList ++ Rows.frameBackSpec.plain.varTypes Try.prog ++ Try.f8.resultTypes.toList).any (Try.prog.veiledRec ·)) && Rows.frameBackRow.veiledFits Try.prog Try.f8.params.toList (Try.f8.params.toList ++ Rows.frameBackSpec.plain.varTypes Try.prog ++ Try.f8.resultTypes.toList)) = true := by kernel_rfl
theorem closed : joinedFacts Try.prog 8 Try.f8 Rows.frameBackSpec Rows.frameBackRow = true :=
  Mine.joined_of wf1 Fx.laidOut Fx.mapsRow tie1 Fx.stops0 Fx.knobs0 inp1 unf1 rec1 nam1 typ1 Fx.plainK short1 Fx.heard Fx.enters Fx.lifts Fx.make vei1
theorem over : Rows.frameBackRow.holds Try.pinned (OpenSpec.ofChange Rows.frameBackSpec) :=
  OpenClaim.holds_of_wide 8 Try.f8 rfl rfl rfl rfl rfl rfl rfl ⟨rfl, rfl, rfl, rfl, rfl⟩ rfl rfl rfl rfl rfl (by kernel_rfl) Try.func8 closed
    (of_decide_eq_true (by kernel_rfl)) (by unfold Func.isWrapper; first | (rw [if_pos (by decide +kernel)]; kernel_rfl) | (rw [if_neg (by decide +kernel)]; exact ⟨rfl, rfl⟩))
    (fun os started H enc _ => lifted os started H enc)
theorem proved : Rows.FrameBackSaid := over
#print axioms proved
end Go.Proofs.Ytobgijpbfmpdaaa.frameBack
namespace Go.Proofs.Ytobgijpbfmpdaaa
/-- The row, under a short name, for the claim. -/
theorem frameBack_holds : Rows.FrameBackSaid := frameBack.proved
end Go.Proofs.Ytobgijpbfmpdaaa
