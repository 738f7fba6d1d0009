/- One tree alone; the small tree. -/
import Derived.Test.YtobgijpbfmpdaaaSo
set_option linter.unusedVariables false
set_option linter.unusedSimpArgs false
set_option maxRecDepth 100000
namespace Go.Proofs.Ytobgijpbfmpdaaa.Ck
open Go.RowKit Go.Proofs.YtobgijpbfmpdaaaW.PrintWords Go.Proofs.YtobgijpbfmpdaaaW.PrintLast Go.Proofs.YtobgijpbfmpdaaaW.PrintMore
open Go.Proofs.Ytobgijpbfmpdaaa.Fm Go.Proofs.Ytobgijpbfmpdaaa.Mp Go.Proofs.Ytobgijpbfmpdaaa.PCk Go.Proofs.Ytobgijpbfmpdaaa.Tb
set_option maxHeartbeats 16000000
theorem uniq : ∀ (f : Nat) (T T' : Tr) (r r' : List S61), Arity f T → Arity f T' → flat T ++ r = flat T' ++ r' → T = T' ∧ r = r'
  | 0, T, _, _, _, h, _, _ => by cases T; exact h.elim
  | f + 1, .node x ks, .node x' ks', r, r', h, h', e => by
    simp only [flat, List.cons_append] at e
    injection e with e1 e2
    subst e1
    have hl : ks.length = ks'.length := by have := h.1; have := h'.1; omega
    have hlist : ∀ (l l' : List Tr) (r r' : List S61), l.length = l'.length → (∀ k ∈ l, Arity f k) → (∀ k ∈ l', Arity f k) → flats l ++ r = flats l' ++ r' → l = l' ∧ r = r' := by
      intro l
      induction l with
      | nil =>
        intro l' r r' hl _ _ e
        cases l' with
        | nil => exact ⟨rfl, e⟩
        | cons a b => simp at hl
      | cons a b ih =>
        intro l' r r' hl ha ha' e
        cases l' with
        | nil => simp at hl
        | cons a' b' =>
          simp only [flats, List.append_assoc] at e
          obtain ⟨e1, e2⟩ := uniq f a a' _ _ (ha a (List.mem_cons_self ..)) (ha' a' (List.mem_cons_self ..)) e
          obtain ⟨e3, e4⟩ := ih b' r r' (by simpa using hl) (fun k hk => ha k (List.mem_cons_of_mem _ hk)) (fun k hk => ha' k (List.mem_cons_of_mem _ hk)) e2
          exact ⟨by rw [e1, e3], e4⟩
    obtain ⟨e3, e4⟩ := hlist ks ks' r r' hl h.2 h'.2 e2
    exact ⟨by rw [e3], e4⟩
theorem one_tree {T T' : Tr} (h : right ownB T = true) (h' : right ownB T' = true) (e : flat T = flat T') : T = T' := by
  have ha := arity_of (flat T).length T h (Nat.le_refl _)
  have ha' := arity_of (flat T).length T' h' (by rw [e]; exact Nat.le_refl _)
  exact (uniq _ T T' [] [] ha ha' (by rw [e])).1
def t0 : Tr := .node ⟨1, 2, 0, ⟨#[102]⟩⟩ [.node ⟨2, 0, 0, ⟨#[112]⟩⟩ [], .node ⟨3, 1, 0, ⟨#[]⟩⟩ [.node ⟨4, 1, 0, ⟨#[97]⟩⟩ [.node ⟨26, 0, 0, ⟨#[112]⟩⟩ []]]]
theorem t0_small : prompterlaw11_small.f = some (flat t0) := rfl
theorem t0_right : right ownB t0 = true := by decide +kernel
theorem t0_check : (checkP (flat t0)).2 = 0 := by decide +kernel
theorem t0_ok : ∀ x ∈ flat t0, TwOk x := by
  intro x hx
  simp only [t0, flat, flats, List.mem_cons, List.mem_append, List.append_nil, List.not_mem_nil, or_false] at hx
  rcases hx with rfl | rfl | rfl | rfl | rfl <;> unfold TwOk <;> decide
theorem t0_slots : (slT t0 init).1.fault = 0 ∧ (slT t0 init).1.out = [-1, 0, -1, 1, 0] := by decide +kernel
end Go.Proofs.Ytobgijpbfmpdaaa.Ck
