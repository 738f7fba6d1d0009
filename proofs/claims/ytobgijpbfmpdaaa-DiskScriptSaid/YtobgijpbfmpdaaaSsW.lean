/- DiskScript: the walk of the law, at every input. -/
import Derived.Test.YtobgijpbfmpdaaaSs
set_option maxRecDepth 100000
set_option linter.unusedVariables false
namespace Go.Proofs.Ytobgijpbfmpdaaa.SsW
open Go.ChangeShapes Go.WideShapes Go.ChangeAt Go.RowKit Go.Proofs.YtobgijpbfmpdaaaW.PrintWords Go.Proofs.Ytobgijpbfmpdaaa.PDp Go.Proofs.Ytobgijpbfmpdaaa.Os
variable {H : Type} {enc : TypeId × Value → H} {W : World}
theorem wf_u8 {n : Int} (h : (Lit.int .u8 n).wf = true) : 0 ≤ n ∧ n < 256 := by
  simp [Lit.wf, IntKind.min, IntKind.max, IntKind.bits, IntKind.signed] at h
  omega
theorem wf_i64 {n : Int} (h : (Lit.int .i64 n).wf = true) : n ≤ 9223372036854775807 := by
  simp [Lit.wf, IntKind.min, IntKind.max, IntKind.bits, IntKind.signed] at h
  omega
def StepQ (x : S93) : Prop := Crc.bytesOk x.f3 = true ∧ x.f4 ≤ 9223372036854775807
theorem opens_step : Opens W k93 StepQ enc 93 := fun fuel cs x h => by
  obtain ⟨xs, n, _, _, hl, hx, hf⟩ := DataW.trod_struct Try.underlying93 h
  have hc : Try.prog.cellsOf 93 = 6 := by kernel_rfl
  rw [hc] at hl
  match cs, hl with
  | [c0, c1, c2, c3, c4, c5], _ =>
    match xs, hx with
    | [x0, x1, x2, x3, x4, x5], _ =>
      have e1 : ∀ t, t = 5 ∨ t = 9 ∨ t = 22 ∨ t = 3 ∨ t = 50 → Try.prog.cellsOf t = 1 := by
        rintro t (rfl | rfl | rfl | rfl | rfl) <;> kernel_rfl
      have h0 := hf 0 _ rfl
      have h1 := hf 1 _ rfl
      have h2 := hf 2 _ rfl
      have h3 := hf 3 _ rfl
      have h4 := hf 4 _ rfl
      have h5 := hf 5 _ rfl
      rw [e1 _ (by simp)] at h0
      rw [e1 _ (by simp)] at h1
      rw [e1 _ (by simp)] at h2
      rw [e1 _ (by simp)] at h3
      rw [e1 _ (by simp)] at h4
      rw [e1 _ (by simp)] at h5
      obtain ⟨a0, k0, q0⟩ := opens_int (W := W) Try.underlying5 _ _ _ h0
      obtain ⟨a1, k1, q1⟩ := opens_string (W := W) Try.underlying9 _ _ _ h1
      obtain ⟨a2, k2, q2⟩ := opens_string (W := W) Try.underlying9 _ _ _ h2
      obtain ⟨a3, k3, q3⟩ := opens_slice (W := W) Try.underlying22 (by kernel_rfl) (opens_int Try.underlying5) _ _ _ h3
      obtain ⟨a4, k4, q4⟩ := opens_int (W := W) Try.underlying3 _ _ _ h4
      obtain ⟨a5, k5, q5⟩ := opens_slice (W := W) Try.underlying50 (by kernel_rfl) (opens_int Try.underlying3) _ _ _ h5
      obtain ⟨A3, n3, s3, l3, g3⟩ := k3
      obtain ⟨A5, n5, s5, l5, g5⟩ := k5
      have r0 : [c0] = [.int .u8 a0] := k0
      have r1 : [c1] = [.string a1] := k1
      have r2 : [c2] = [.string a2] := k2
      have r3 : [c3] = [.slice A3 a3.length n3] := s3
      have r4 : [c4] = [.int .i64 a4] := k4
      have r5 : [c5] = [.slice A5 a5.length n5] := s5
      simp only [List.cons.injEq, and_true] at r0 r1 r2 r3 r4 r5
      subst r0 r1 r2 r3 r4 r5
      exact ⟨⟨a0, a1, a2, a3, a4, a5⟩, k93_mk W ⟨a0, a1, a2, a3, a4, a5⟩ l3 g3 l5 g5, Crc.bytesOk_of fun y hy => wf_u8 (q3 y hy), wf_i64 q4⟩
theorem walk (W : World) (base : Nat) (v0 : Value) (d0 : DataW H) (p0 : List MemPlace) (o0 : Value.okWide Try.prog W .any base 87 v0) (h0 : DataW.Trod enc Try.prog W 0 (fun _ => true) true 87 v0 d0 p0)
    (hsz : (DataW.weightsEach Try.prog [87] [d0]).all (· ≤ reachBytes) = true) :
    Calls Try.prog 18 #[v0] W fun e w' => e = .returned (.bool true) ∧ Below W.heap.size W w' := by
  obtain ⟨A, c, xs, rfl, hc, hC, hQ⟩ := Os.open_slice Try.underlying87 (by kernel_rfl) opens_step o0 h0
  exact Rk.script xs A c W hC hc (fun x hx => hQ x hx)
end Go.Proofs.Ytobgijpbfmpdaaa.SsW
