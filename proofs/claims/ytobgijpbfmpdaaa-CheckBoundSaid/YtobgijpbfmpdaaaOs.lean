/- What came in, opened kind by kind. -/
import Derived.Test.YtobgijpbfmpdaaaMb
import Derived.WalkKit
import Derived.ProofKit
import Derived.OpenShut
import Derived.SizedLaws
set_option maxRecDepth 100000
set_option linter.unusedVariables false
namespace Go.Proofs.Ytobgijpbfmpdaaa.Os
open Go.ChangeShapes Go.WideShapes Go.ChangeAt Go.RowKit Go.Proofs.YtobgijpbfmpdaaaW.PrintWords
variable {H : Type} {enc : TypeId × Value → H} {W : World}
/-- Cells that read as some datum of type t hold an element of kind d. -/
def Opens (W : World) {α : Type} (d : Kd α) (Q : α → Prop) (enc : TypeId × Value → H) (t : TypeId) : Prop :=
  ∀ (fuel : Nat) (cs : List Value) (x : DataW H × List MemPlace), DataW.trod enc Try.prog W 0 (fun _ => true) true fuel t cs = some x → ∃ a, d.K W a cs ∧ Q a
theorem opens_int {k : IntKind} {t : TypeId} (ht : Try.prog.underlying t = some (.int k)) : Opens W (Kd.int k) (fun n => (Lit.int k n).wf = true) enc t := fun fuel cs x h => by
  obtain ⟨n, h1, _, hw⟩ := DataW.trod_int ht h
  exact ⟨n, h1, hw⟩
theorem opens_string {t : TypeId} (ht : Try.prog.underlying t = some .string) : Opens W Kd.string (fun s => s.size ≤ maxLen) enc t := fun fuel cs x h => by
  obtain ⟨s, h1, _, hs⟩ := DataW.trod_string ht h
  exact ⟨s, h1, hs⟩
theorem opens_slice {α : Type} {d : Kd α} {Q : α → Prop} {t e : TypeId} (ht : Try.prog.underlying t = some (.slice e)) (hc : Try.prog.cellsOf e = d.sz) (ho : Opens W d Q enc e) : Opens W (Kd.slice e d) (fun xs => ∀ x ∈ xs, Q x) enc t := fun fuel cs x h => by
  rcases DataW.trod_slice ht h with ⟨rfl, _⟩ | ⟨a, len, cap, elems, rest, n, _, rfl, _, _, hl, hm, hlen, hel, _, _⟩
  · exact ⟨[], ⟨none, 0, rfl, Nat.le_refl _, Kd.C_nil _ _⟩, by simp⟩
  · have hx : ∀ i, i < len → ∃ p, (∃ c, c.length = d.sz ∧ d.K W p c ∧ ∀ j u, c[j]? = some u → W.cell? (a.add (i * d.sz + j)) = some u) ∧ Q p := fun i hi => by
      have h1 := hel i hi
      rw [List.getElem?_eq_getElem (by omega)] at h1
      obtain ⟨c, hc1, hc2⟩ := Option.bind_eq_some_iff.1 h1
      obtain ⟨p, hp, hq⟩ := ho _ _ _ hc2
      obtain ⟨_, hcl, hcc⟩ := World.cells?_some hc1
      rw [hc] at hcl hcc
      refine ⟨p, ⟨c, hcl, hp, fun j u hj => ?_⟩, hq⟩
      have hjl : j < c.length := (List.getElem?_eq_some_iff.1 hj).1
      rw [← Addr.add_add, hcc j (by omega), hj]
    refine ⟨List.ofFn (fun i : Fin len => Classical.choose (hx i i.2)), ⟨some a, cap, by simp, by simpa using hl, ⟨rfl, ?_, fun _ => ⟨a, rfl, fun j p hj => ?_⟩⟩⟩, ?_⟩
    · have : (maxLen : Nat) ≤ 9223372036854775807 := by decide
      simp; omega
    · have hjl : j < len := by have := (List.getElem?_eq_some_iff.1 hj).1; simpa using this
      rw [List.getElem?_ofFn, dif_pos hjl] at hj
      injection hj with hj
      have := (Classical.choose_spec (hx j hjl)).1
      rw [hj] at this
      exact this
    · intro p hp
      obtain ⟨i, rfl⟩ := List.mem_ofFn.1 hp
      exact (Classical.choose_spec (hx i i.2)).2
/-- A slice that came in. -/
theorem open_slice {α : Type} {d : Kd α} {Q : α → Prop} {t e : TypeId} (ht : Try.prog.underlying t = some (.slice e)) (hc : Try.prog.cellsOf e = d.sz) (ho : Opens W d Q enc e) {base : Nat} {v : Value} {x : DataW H} {p : List MemPlace}
    (hv : Value.okWide Try.prog W .any base t v) (h : DataW.Trod enc Try.prog W 0 (fun _ => true) true t v x p) : ∃ (A : Option Addr) (c : Nat) (xs : List α), v = .slice A xs.length c ∧ xs.length ≤ c ∧ d.C W A xs.length xs ∧ ∀ y ∈ xs, Q y := by
  obtain ⟨a0, len0, cap0, rfl⟩ := okWide_slice ht hv
  obtain ⟨fuel, hf⟩ := h
  obtain ⟨xs, ⟨A, c, h1, h2, h3⟩, hq⟩ := opens_slice ht hc ho _ _ _ hf
  simp [Value.cells] at h1
  obtain ⟨rfl, rfl, rfl⟩ := h1
  exact ⟨_, _, xs, rfl, h2, h3, hq⟩
end Go.Proofs.Ytobgijpbfmpdaaa.Os
