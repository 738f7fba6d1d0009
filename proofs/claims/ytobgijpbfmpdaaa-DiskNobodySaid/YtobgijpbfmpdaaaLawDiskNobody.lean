/- DiskNobody: the given row, over the walk of NbW. -/
import Derived.Test.YtobgijpbfmpdaaaRows
import Derived.Test.YtobgijpbfmpdaaaJn
import Derived.Test.YtobgijpbfmpdaaaFxA
import Derived.Test.YtobgijpbfmpdaaaFxE
import Derived.Test.YtobgijpbfmpdaaaFxL
import Derived.Test.YtobgijpbfmpdaaaFxM
import Derived.Test.YtobgijpbfmpdaaaNbW
import Derived.WalkKit
import Derived.ProofKit
import Derived.OpenShut
import Derived.ShutString
import Derived.ChangeOld
import Derived.Below
import Derived.SizedLaws
namespace Go.Proofs.Ytobgijpbfmpdaaa.diskNobody
open Go.ChangeShapes Go.WideShapes Go.ChangeAt Go.RowKit
set_option linter.unusedVariables false
theorem own : ownKnob Try.prog.godebug = none := by kernel_rfl
theorem laidOut : laidOutB Try.prog = true := Fx.laidOut
set_option maxRecDepth 100000 in
theorem lifted (os : Os) (started : os.Started) (H : Type) (enc : TypeId × Value → H) :
    ReturnsInHanded {} Try.checked os 19 .any (Rows.diskNobodySpec.pre6 enc Try.prog Try.f19 Rows.diskNobodyRow.domain false) (Rows.diskNobodySpec.post enc Try.prog Try.f19 false true false false) := by
  refine returnsInHanded_of_change_sized (C := Try.checked) own started (by kernel_rfl) Try.func19
    (ChangeSpec.witness6 (enc := enc) (C := Try.checked) false ⟨#[], #[.string ByteArray.empty, .string ByteArray.empty, .int .i64 0], []⟩ 8 (by kernel_rfl) (by kernel_rfl) (by kernel_rfl) (by kernel_rfl)) ?_
  intro W base args ds gs before hval0 hW hcnd hsz0 _
  have hsz : (DataW.weightsEach Try.prog (Try.f19.params.toList ++ Rows.diskNobodySpec.plain.varTypes Try.prog) (ds ++ gs)).all (· ≤ reachBytes) = true := hsz0
  have hval : ∀ (j : Nat) t v, Try.f19.params[j]? = some t → args[j]? = some v → Value.okWide Try.prog W .any base t v := hval0
  have hW' := hW
  obtain ⟨p, q, hA0, hV, rfl, hfz, hnd⟩ := hW
  have hA : DataW.TrodAll enc Try.prog W 0 (fun _ => true) true Try.f19.params.toList args.toList ds p := hA0
  rw [Try.params19] at hA hval hsz
  obtain ⟨v0, vs0, d0, ds0, p0, q0, hargs, rfl, rfl, h0, r0⟩ := trodAll_cons hA
  obtain ⟨v1, vs1, d1, ds1, p1, q1, rfl, rfl, rfl, h1, r1⟩ := trodAll_cons r0
  obtain ⟨v2, vs2, d2, ds2, p2, q2, rfl, rfl, rfl, h2, r2⟩ := trodAll_cons r1
  obtain ⟨rfl, rfl, rfl⟩ := trodAll_nil r2
  obtain rfl : args = #[v0, v1, v2] := by cases args; simp_all
  obtain ⟨rfl, rfl⟩ := trodVars_none hV
  have lt0 : ∀ x ∈ p0, x.block < W.heap.size := by obtain ⟨m, hm⟩ := h0; exact DataW.trod_lt m _ _ _ hm
  have lt1 : ∀ x ∈ p1, x.block < W.heap.size := by obtain ⟨m, hm⟩ := h1; exact DataW.trod_lt m _ _ _ hm
  have lt2 : ∀ x ∈ p2, x.block < W.heap.size := by obtain ⟨m, hm⟩ := h2; exact DataW.trod_lt m _ _ _ hm
  clear hA0 hval0 hsz0
  refine (NbW.walk W base v0 d0 p0 (hval 0 9 v0 rfl rfl) h0 v1 d1 p1 (hval 1 9 v1 rfl rfl) h1 v2 d2 p2 (hval 2 3 v2 rfl rfl) h2 hsz).mono fun e W' ⟨he, bel⟩ => ?_
  subst he
  exact ⟨_, rfl, _, _, _, [], _, [], hW', trodAll_mk1 (shut_bool Try.underlying4 _), (trodAll_cons_mk (Below.trod laidOut (by kernel_rfl) (of_decide_eq_true (by kernel_rfl)) h0 bel lt0) (trodAll_cons_mk (Below.trod laidOut (by kernel_rfl) (of_decide_eq_true (by kernel_rfl)) h1 bel lt1) (trodAll_cons_mk (Below.trod laidOut (by kernel_rfl) (of_decide_eq_true (by kernel_rfl)) h2 bel lt2) trodAll_mk0))), rfl, bel.frame _, fun h => by cases h⟩
theorem wf1 : Rows.diskNobodyRow.wf (OpenSpec.ofChange Rows.diskNobodySpec) = true := by kernel_rfl
theorem tie1 : (Try.f19.params.all (Try.prog.readableRec ·) && namedTie Try.prog Rows.diskNobodyRow.named Rows.diskNobodySpec.vars && (Rows.diskNobodyRow.stops == []) && (Rows.diskNobodyRow.knobs == [])) = true := by kernel_rfl
theorem inp1 : (Rows.diskNobodyRow.inPlace == Try.prog.inPlace 19) = true := by kernel_rfl
theorem unf1 : (Rows.diskNobodyRow.unfollowed == Try.prog.unfollowed 19) = true := by kernel_rfl
theorem rec1 : (Rows.diskNobodyRow.recurses == Try.prog.recurses 19) = true := by kernel_rfl
theorem nam1 : (Rows.diskNobodyRow.named == Try.prog.varsNamed 19) = true := by kernel_rfl
theorem typ1 : ((Rows.diskNobodyRow.maps == (Try.f19.params.toList ++ Rows.diskNobodySpec.plain.varTypes Try.prog).any (Try.prog.mapsRec ·)) && (Rows.diskNobodyRow.ifaces == (Try.f19.params.toList ++ Rows.diskNobodySpec.plain.varTypes Try.prog).any (Try.prog.ifacesRec ·)) && (Rows.diskNobodyRow.mapsOut == Try.prog.mapsAmong Try.f19.resultTypes.toList) && (Rows.diskNobodyRow.loops == (Try.f19.params.toList ++ Rows.diskNobodySpec.plain.varTypes Try.prog).any (Try.prog.loopsFrom ·)) && (Rows.diskNobodyRow.wideKeys == (Try.f19.params.toList ++ Rows.diskNobodySpec.plain.varTypes Try.prog ++ Try.f19.resultTypes.toList).any (Try.prog.wideKeysFrom ·)) && Rows.diskNobodySpec.vars.all (Try.prog.varReadable ·) && Try.f19.resultTypes.all (fun t => Try.prog.readableRec t && decide (t < Try.prog.types.size)) && (Rows.diskNobodyRow.ifacesOut == Try.f19.resultTypes.toList.any (Try.prog.ifacesRec ·)) && (Rows.diskNobodyRow.loopsOut == Try.f19.resultTypes.toList.any (Try.prog.loopsFrom ·))) = true := by kernel_rfl
theorem short1 : Rows.diskNobodyRow.shortTexts.isNone = true := by kernel_rfl
theorem vei1 : (Rows.diskNobodyRow.domain.isEmpty && (Rows.diskNobodyRow.kinds == []) && (Rows.diskNobodyRow.pinned == Rows.diskNobodyRow.pinnedBy) && (Rows.diskNobodyRow.veiled == (Try.f19.params.toList ++ Rows.diskNobodySpec.plain.varTypes Try.prog ++ Try.f19.resultTypes.toList).any (Try.prog.veiledRec ·)) && Rows.diskNobodyRow.veiledFits Try.prog Try.f19.params.toList (Try.f19.params.toList ++ Rows.diskNobodySpec.plain.varTypes Try.prog ++ Try.f19.resultTypes.toList)) = true := by kernel_rfl
theorem closed : joinedFacts Try.prog 19 Try.f19 Rows.diskNobodySpec Rows.diskNobodyRow = true :=
  Mine.joined_of wf1 Fx.laidOut Fx.mapsRow tie1 Fx.stops0 Fx.knobs0 inp1 unf1 rec1 nam1 typ1 Fx.plainK short1 Fx.heard Fx.enters Fx.lifts Fx.make vei1
theorem over : Rows.diskNobodyRow.holds Try.pinned (OpenSpec.ofChange Rows.diskNobodySpec) :=
  OpenClaim.holds_of_wide 19 Try.f19 rfl rfl rfl rfl rfl rfl rfl ⟨rfl, rfl, rfl, rfl, rfl⟩ rfl rfl rfl rfl rfl (by kernel_rfl) Try.func19 closed
    (of_decide_eq_true (by kernel_rfl)) (by unfold Func.isWrapper; first | (rw [if_pos (by decide +kernel)]; kernel_rfl) | (rw [if_neg (by decide +kernel)]; exact ⟨rfl, rfl⟩))
    (fun os started H enc _ => lifted os started H enc)
theorem proved : Rows.DiskNobodySaid := over
#print axioms proved
end Go.Proofs.Ytobgijpbfmpdaaa.diskNobody
namespace Go.Proofs.Ytobgijpbfmpdaaa
/-- The row, under a short name, for the claim. -/
theorem diskNobody_holds : Rows.DiskNobodySaid := diskNobody.proved
end Go.Proofs.Ytobgijpbfmpdaaa
