/- A twig, as it came in. -/
import Derived.Test.YtobgijpbfmpdaaaOs
import Derived.Test.YtobgijpbfmpdaaaSx
set_option maxRecDepth 100000
set_option linter.unusedVariables false
namespace Go.Proofs.Ytobgijpbfmpdaaa.Os
open Go.ChangeShapes Go.WideShapes Go.ChangeAt Go.RowKit Go.Proofs.YtobgijpbfmpdaaaW.PrintWords Go.Proofs.Ytobgijpbfmpdaaa.PCk Go.Proofs.Ytobgijpbfmpdaaa.Tb
variable {H : Type} {enc : TypeId × Value → H} {W : World}
theorem wf_u8' {n : Int} (h : (Lit.int .u8 n).wf = true) : 0 ≤ n ∧ n < 256 := by
  simp [Lit.wf, IntKind.min, IntKind.max, IntKind.bits, IntKind.signed] at h
  omega
theorem wf_i64 {n : Int} (h : (Lit.int .i64 n).wf = true) : -9223372036854775808 ≤ n ∧ n ≤ 9223372036854775807 := by
  simp [Lit.wf, IntKind.min, IntKind.max, IntKind.bits, IntKind.signed] at h
  omega
theorem opens_twig : Opens W k61 TwOk enc 61 := fun fuel cs x h => by
  obtain ⟨xs, n, _, _, hl, hx, hf⟩ := DataW.trod_struct Try.underlying61 h
  have hc : Try.prog.cellsOf 61 = 4 := by kernel_rfl
  rw [hc] at hl
  match cs, hl with
  | [c0, c1, c2, c3], _ =>
    match xs, hx with
    | [x0, x1, x2, x3], _ =>
      have e1 : ∀ t, t = 5 ∨ t = 3 ∨ t = 2 ∨ t = 9 → Try.prog.cellsOf t = 1 := by
        rintro t (rfl | rfl | rfl | rfl) <;> kernel_rfl
      have h0 := hf 0 _ rfl
      have h1 := hf 1 _ rfl
      have h2 := hf 2 _ rfl
      have h3 := hf 3 _ rfl
      rw [e1 _ (by simp)] at h0
      rw [e1 _ (by simp)] at h1
      rw [e1 _ (by simp)] at h2
      rw [e1 _ (by simp)] at h3
      obtain ⟨a0, k0, q0⟩ := opens_int (W := W) Try.underlying5 _ _ _ h0
      obtain ⟨a1, k1, q1⟩ := opens_int (W := W) Try.underlying3 _ _ _ h1
      obtain ⟨a2, k2, q2⟩ := opens_int (W := W) Try.underlying2 _ _ _ h2
      obtain ⟨a3, k3, q3⟩ := opens_string (W := W) Try.underlying9 _ _ _ h3
      have r0 : [c0] = [.int .u8 a0] := k0
      have r1 : [c1] = [.int .i64 a1] := k1
      have r2 : [c2] = [.int .i64 a2] := k2
      have r3 : [c3] = [.string a3] := k3
      simp only [List.cons.injEq, and_true] at r0 r1 r2 r3
      subst r0 r1 r2 r3
      exact ⟨⟨a0, a1, a2, a3⟩, k61_mk W ⟨a0, a1, a2, a3⟩, wf_u8' q0, wf_i64 q1, wf_i64 q2⟩
end Go.Proofs.Ytobgijpbfmpdaaa.Os
