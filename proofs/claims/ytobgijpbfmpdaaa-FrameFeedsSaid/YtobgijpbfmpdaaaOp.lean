/- A slice of slices of bytes that came in, as the walks read it. -/
import Derived.Test.YtobgijpbfmpdaaaSpQ
import Derived.Deep.Matrix
set_option linter.unusedVariables false
namespace Go.Proofs.Ytobgijpbfmpdaaa.Op
open Go.RowKit Go.Proofs.YtobgijpbfmpdaaaW.PrintWords
open Go.Proofs.Ytobgijpbfmpdaaa.Crc (bytesOk)
theorem byte_wf {x : Int} (h : (Lit.int .u8 x).wf = true) : 0 ≤ x ∧ x < 256 := by
  simp [Lit.wf, IntKind.min, IntKind.max, IntKind.bits, IntKind.signed] at h
  omega
theorem rows_C (W : World) (x : Addr) (len cap : Nat) (A : Nat → Option Addr) (L C : Nat → Nat) (Z : Nat → List Int) (hl : len ≤ cap) (hm : cap ≤ maxLen)
    (h : ∀ r, r < cap → W.cell? (x.add r) = some (.slice (A r) (L r) (C r)) ∧ L r ≤ C r ∧ C r ≤ maxLen ∧ (Z r).length = C r ∧ (∀ n ∈ Z r, (Lit.int .u8 n).wf = true) ∧ (A r = none → C r = 0) ∧
        ∀ a', A r = some a' → 0 ≤ a'.block ∧ ∀ c, c < C r → W.cell? (a'.add c) = some (.int .u8 ((Z r).getD c 0))) :
    ∃ bs : List (List Int), bs.length = len ∧ Kd.C (Kd.slice 5 (Kd.int .u8)) W (some x) bs.length bs ∧ ∀ b ∈ bs, bytesOk b = true := by
  have hmx : (maxLen : Nat) ≤ 9223372036854775807 := by decide
  refine ⟨(List.range len).map fun r => (Z r).take (L r), by simp, ⟨rfl, by simp; omega, fun _ => ⟨x, rfl, fun j p hj => ?_⟩⟩, ?_⟩
  · have hjl : j < len := by
      have := (List.getElem?_eq_some_iff.1 hj).1
      simpa using this
    have hp : p = (Z j).take (L j) := by
      rw [List.getElem?_map, List.getElem?_range hjl] at hj
      simpa using hj.symm
    obtain ⟨h1, h2, h3, h4, h5, h6, h7⟩ := h j (by omega)
    have hpl : p.length = L j := by rw [hp, List.length_take]; omega
    refine ⟨[.slice (A j) (L j) (C j)], rfl, ⟨A j, C j, by rw [hpl], by omega, ?_⟩, fun i u hu => ?_⟩
    · refine Kd.C_of_reads (d := (0 : Int)) (h1 := fun _ => rfl) ⟨rfl, by omega, fun hpos => ?_⟩
      cases hA : A j with
      | none => have := h6 hA; omega
      | some a' =>
        refine ⟨a', rfl, fun c hc => ?_⟩
        rw [(h7 a' hA).2 c (by omega), hp]
        simp only [List.getD_eq_getElem?_getD]
        rw [List.getElem?_take_of_lt (by omega)]
    · cases i with
      | zero =>
        have : u = .slice (A j) (L j) (C j) := by simpa using hu.symm
        rw [this]
        show W.cell? (x.add (j * 1 + 0)) = _
        rw [Nat.mul_one, Nat.add_zero]
        exact h1
      | succ i => simp at hu
  · intro b hb
    obtain ⟨r, hr, rfl⟩ := List.mem_map.1 hb
    have hrl := List.mem_range.1 hr
    exact Crc.bytesOk_take (Crc.bytesOk_of fun y hy => byte_wf ((h r (by omega)).2.2.2.2.1 y hy)) _
end Go.Proofs.Ytobgijpbfmpdaaa.Op
