/- DiskFuse: the given row, over the walk of FvW. -/
import Derived.Test.YtobgijpbfmpdaaaRows
import Derived.Test.YtobgijpbfmpdaaaJn
import Derived.Test.YtobgijpbfmpdaaaFxA
import Derived.Test.YtobgijpbfmpdaaaFxE
import Derived.Test.YtobgijpbfmpdaaaFxL
import Derived.Test.YtobgijpbfmpdaaaFxM
import Derived.Test.YtobgijpbfmpdaaaFvW
import Derived.WalkKit
import Derived.ProofKit
import Derived.OpenShut
import Derived.ShutString
import Derived.ChangeOld
import Derived.Below
import Derived.SizedLaws
namespace Go.Proofs.Ytobgijpbfmpdaaa.diskFuse
open Go.ChangeShapes Go.WideShapes Go.ChangeAt Go.RowKit
set_option linter.unusedVariables false
theorem own : ownKnob Try.prog.godebug = none := by kernel_rfl
theorem laidOut : laidOutB Try.prog = true := Fx.laidOut
set_option maxRecDepth 100000 in
theorem lifted (os : Os) (started : os.Started) (H : Type) (enc : TypeId × Value → H) :
    ReturnsInHanded {} Try.checked os 17 .any (Rows.diskFuseSpec.pre6 enc Try.prog Try.f17 Rows.diskFuseRow.domain false) (Rows.diskFuseSpec.post enc Try.prog Try.f17 false true false false) := by
  refine returnsInHanded_of_change_sized (C := Try.checked) own started (by kernel_rfl) Try.func17
    (ChangeSpec.witness6 (enc := enc) (C := Try.checked) false ⟨#[], #[.slice none 0 0, .int .i64 0], []⟩ 8 (by kernel_rfl) (by kernel_rfl) (by kernel_rfl) (by kernel_rfl)) ?_
  intro W base args ds gs before hval0 hW hcnd hsz0 _
  have hsz : (DataW.weightsEach Try.prog (Try.f17.params.toList ++ Rows.diskFuseSpec.plain.varTypes Try.prog) (ds ++ gs)).all (· ≤ reachBytes) = true := hsz0
  have hval : ∀ (j : Nat) t v, Try.f17.params[j]? = some t → args[j]? = some v → Value.okWide Try.prog W .any base t v := hval0
  have hW' := hW
  obtain ⟨p, q, hA0, hV, rfl, hfz, hnd⟩ := hW
  have hA : DataW.TrodAll enc Try.prog W 0 (fun _ => true) true Try.f17.params.toList args.toList ds p := hA0
  rw [Try.params17] at hA hval hsz
  obtain ⟨v0, vs0, d0, ds0, p0, q0, hargs, rfl, rfl, h0, r0⟩ := trodAll_cons hA
  obtain ⟨v1, vs1, d1, ds1, p1, q1, rfl, rfl, rfl, h1, r1⟩ := trodAll_cons r0
  obtain ⟨rfl, rfl, rfl⟩ := trodAll_nil r1
  obtain rfl : args = #[v0, v1] := by cases args; simp_all
  obtain ⟨rfl, rfl⟩ := trodVars_none hV
  have lt0 : ∀ x ∈ p0, x.block < W.heap.size := by obtain ⟨m, hm⟩ := h0; exact DataW.trod_lt m _ _ _ hm
  have lt1 : ∀ x ∈ p1, x.block < W.heap.size := by obtain ⟨m, hm⟩ := h1; exact DataW.trod_lt m _ _ _ hm
  clear hA0 hval0 hsz0
  refine (FvW.walk W base v0 d0 p0 (hval 0 87 v0 rfl rfl) h0 v1 d1 p1 (hval 1 3 v1 rfl rfl) h1 hsz).mono fun e W' ⟨he, bel⟩ => ?_
  subst he
  exact ⟨_, rfl, _, _, _, [], _, [], hW', trodAll_mk1 (shut_bool Try.underlying4 _), (trodAll_cons_mk (Below.trod laidOut (by kernel_rfl) (of_decide_eq_true (by kernel_rfl)) h0 bel lt0) (trodAll_cons_mk (Below.trod laidOut (by kernel_rfl) (of_decide_eq_true (by kernel_rfl)) h1 bel lt1) trodAll_mk0)), rfl, bel.frame _, fun h => by cases h⟩
theorem wf1 : Rows.diskFuseRow.wf (OpenSpec.ofChange Rows.diskFuseSpec) = true := by kernel_rfl
theorem tie1 : (Try.f17.params.all (Try.prog.readableRec ·) && namedTie Try.prog Rows.diskFuseRow.named Rows.diskFuseSpec.vars && (Rows.diskFuseRow.stops == []) && (Rows.diskFuseRow.knobs == [])) = true := by kernel_rfl
theorem inp1 : (Rows.diskFuseRow.inPlace == Try.prog.inPlace 17) = true := by kernel_rfl
theorem unf1 : (Rows.diskFuseRow.unfollowed == Try.prog.unfollowed 17) = true := by kernel_rfl
theorem rec1 : (Rows.diskFuseRow.recurses == Try.prog.recurses 17) = true := by kernel_rfl
theorem nam1 : (Rows.diskFuseRow.named == Try.prog.varsNamed 17) = true := by kernel_rfl
theorem typ1 : ((Rows.diskFuseRow.maps == (Try.f17.params.toList ++ Rows.diskFuseSpec.plain.varTypes Try.prog).any (Try.prog.mapsRec ·)) && (Rows.diskFuseRow.ifaces == (Try.f17.params.toList ++ Rows.diskFuseSpec.plain.varTypes Try.prog).any (Try.prog.ifacesRec ·)) && (Rows.diskFuseRow.mapsOut == Try.prog.mapsAmong Try.f17.resultTypes.toList) && (Rows.diskFuseRow.loops == (Try.f17.params.toList ++ Rows.diskFuseSpec.plain.varTypes Try.prog).any (Try.prog.loopsFrom ·)) && (Rows.diskFuseRow.wideKeys == (Try.f17.params.toList ++ Rows.diskFuseSpec.plain.varTypes Try.prog ++ Try.f17.resultTypes.toList).any (Try.prog.wideKeysFrom ·)) && Rows.diskFuseSpec.vars.all (Try.prog.varReadable ·) && Try.f17.resultTypes.all (fun t => Try.prog.readableRec t && decide (t < Try.prog.types.size)) && (Rows.diskFuseRow.ifacesOut == Try.f17.resultTypes.toList.any (Try.prog.ifacesRec ·)) && (Rows.diskFuseRow.loopsOut == Try.f17.resultTypes.toList.any (Try.prog.loopsFrom ·))) = true := by kernel_rfl
theorem short1 : Rows.diskFuseRow.shortTexts.isNone = true := by kernel_rfl
theorem vei1 : (Rows.diskFuseRow.domain.isEmpty && (Rows.diskFuseRow.kinds == []) && (Rows.diskFuseRow.pinned == Rows.diskFuseRow.pinnedBy) && (Rows.diskFuseRow.veiled == (Try.f17.params.toList ++ Rows.diskFuseSpec.plain.varTypes Try.prog ++ Try.f17.resultTypes.toList).any (Try.prog.veiledRec ·)) && Rows.diskFuseRow.veiledFits Try.prog Try.f17.params.toList (Try.f17.params.toList ++ Rows.diskFuseSpec.plain.varTypes Try.prog ++ Try.f17.resultTypes.toList)) = true := by kernel_rfl
theorem closed : joinedFacts Try.prog 17 Try.f17 Rows.diskFuseSpec Rows.diskFuseRow = true :=
  Mine.joined_of wf1 Fx.laidOut Fx.mapsRow tie1 Fx.stops0 Fx.knobs0 inp1 unf1 rec1 nam1 typ1 Fx.plainK short1 Fx.heard Fx.enters Fx.lifts Fx.make vei1
theorem over : Rows.diskFuseRow.holds Try.pinned (OpenSpec.ofChange Rows.diskFuseSpec) :=
  OpenClaim.holds_of_wide 17 Try.f17 rfl rfl rfl rfl rfl rfl rfl ⟨rfl, rfl, rfl, rfl, rfl⟩ rfl rfl rfl rfl rfl (by kernel_rfl) Try.func17 closed
    (of_decide_eq_true (by kernel_rfl)) (by unfold Func.isWrapper; first | (rw [if_pos (by decide +kernel)]; kernel_rfl) | (rw [if_neg (by decide +kernel)]; exact ⟨rfl, rfl⟩))
    (fun os started H enc _ => lifted os started H enc)
theorem proved : Rows.DiskFuseSaid := over
#print axioms proved
end Go.Proofs.Ytobgijpbfmpdaaa.diskFuse
namespace Go.Proofs.Ytobgijpbfmpdaaa
/-- The row, under a short name, for the claim. -/
theorem diskFuse_holds : Rows.DiskFuseSaid := diskFuse.proved
end Go.Proofs.Ytobgijpbfmpdaaa
