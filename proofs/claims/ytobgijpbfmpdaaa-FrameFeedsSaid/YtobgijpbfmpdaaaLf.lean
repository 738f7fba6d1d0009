/- In a round of a range over a function, the operations of a region that defers nothing are walked as everywhere. -/
import Derived.RangeFuncNested
import Derived.RangeFuncBound
import Derived.RangeFuncCalls
import Derived.RangeFuncLeaves
import Derived.OwnWalkIn
import Derived.TacticsInMore
set_option linter.unusedVariables false
namespace Go.Proofs.Ytobgijpbfmpdaaa.Mine
open Go.RowKit
theorem wpListIn_of_wpList {P : Program} {ops : Array Oper} {Q : Exit → Act → World → Prop} (hQ : ¬ LetsOut Q) (r n : Nat) : ∀ (l : List Oper), (∀ o ∈ l, ∀ c, o.op ≠ .defer c) → ∀ (a : Act) (w : World), wpList P ops Q l a w → wpListIn (Fence.wide.inRound r) n P ops Q l a w := by
  intro l
  induction l with
  | nil => intro _ a w h; exact h
  | cons o l ih =>
    intro hd a w h
    have ih' := ih (fun o ho => hd o (List.mem_cons_of_mem _ ho))
    simp only [wpList] at h
    simp only [wpListIn]
    split at h
    · rename_i hw
      rw [if_pos hw]
      rcases h with h | h
      · refine ⟨fun f _ => trivial, ?_⟩
        have hs : Oper.semAt (some r) a.eval o = execOp a.eval o := Oper.semAt_some r _ o (hd o List.mem_cons_self)
        show o.uponIn (Fence.wide.inRound r) n P a _ Q ((o.semAt (some r) a.eval).run P w)
        rw [hs]
        unfold Oper.wp at h
        generalize (execOp a.eval o).run P w = res at h
        cases res with
        | ok x w' =>
          cases x with
          | value v => exact ih' _ _ h
          | skip => exact ih' _ _ h
          | defer d => exact ih' _ _ h
          | enter f args =>
            refine ⟨fun h => by simp [Fence.wide] at h, CallsIn.inRound r ((callsIn_wide (n := n - 1)).2 (Calls.mono h ?_))⟩
            intro e w'' h2
            cases e with
            | returned v => exact ih' _ _ h2
            | panicked c => exact h2
            | outgrown => exact h2
          | row row args => exact ⟨fun h => by simp [Fence.wide] at h, fun c cs _ => let ⟨v, w2, r2, s⟩ := h c cs; ⟨v, w2, ih' _ _ r2, stepsIn_wide.2 s⟩⟩
          | round l f t as b => exact h.elim
          | _ => exact h.elim
        | halt x w' => cases x <;> exact h
      · exact (hQ h.2).elim
    · rename_i hw
      rw [if_neg hw]
      exact ⟨fun f _ => trivial, ih' _ _ h⟩
end Go.Proofs.Ytobgijpbfmpdaaa.Mine
