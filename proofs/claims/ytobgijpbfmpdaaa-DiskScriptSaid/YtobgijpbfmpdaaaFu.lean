/- Two disks side by side. -/
import Derived.Test.YtobgijpbfmpdaaaFz
import Derived.Test.YtobgijpbfmpdaaaOs
set_option linter.unusedVariables false
set_option maxRecDepth 100000
namespace Go.Proofs.Ytobgijpbfmpdaaa.Ls
open Go.RowKit Go.Proofs.YtobgijpbfmpdaaaW.PrintWords Go.Proofs.YtobgijpbfmpdaaaW.PrintLast Go.Proofs.YtobgijpbfmpdaaaW.PrintMore
open Go.Proofs.Ytobgijpbfmpdaaa.Fm Go.Proofs.Ytobgijpbfmpdaaa.Mp Go.Proofs.Ytobgijpbfmpdaaa.Dk Go.Proofs.Ytobgijpbfmpdaaa.PDp
/-- Blocks that are neither disk's own. -/
def Sy (B g1 b1 g2 b2 : Nat) : Nat → Prop := fun q => B ≤ q ∧ q ≠ g1 ∧ q ≠ b1 ∧ q ≠ g2 ∧ q ≠ b2
structure Two (W0 W : World) (B g1 b1 g2 b2 : Nat) (off1 : Bool) (z1 : Int) (F1 : Fls) (off2 : Bool) (z2 : Int) (F2 : Fls) : Prop where
  D1 : Dsk W g1 b1 F1.length off1 z1 F1 (Sy B g1 b1 g2 b2)
  D2 : Dsk W g2 b2 F2.length off2 z2 F2 (Sy B g1 b1 g2 b2)
  HB : Below B W0 W
  ho : B ≤ g1 ∧ B ≤ b1 ∧ B ≤ g2 ∧ B ≤ b2 ∧ g1 ≠ g2 ∧ g1 ≠ b2 ∧ b1 ≠ g2 ∧ b1 ≠ b2
section
variable {W0 W W1 : World} {B g1 b1 g2 b2 : Nat} {off1 off1' : Bool} {z1 z1' : Int} {F1 F1' : Fls} {off2 off2' : Bool} {z2 z2' : Int} {F2 F2' : Fls}
theorem Two.lt (h : Two W0 W B g1 b1 g2 b2 off1 z1 F1 off2 z2 F2) : g1 < W.heap.size ∧ b1 < W.heap.size ∧ g2 < W.heap.size ∧ b2 < W.heap.size := ⟨h.D1.glt, h.D1.blt, h.D2.glt, h.D2.blt⟩
theorem Two.fresh (h : Two W0 W B g1 b1 g2 b2 off1 z1 F1 off2 z2 F2) (k : Nat) (hk : W.heap.size ≤ k) : Sy B g1 b1 g2 b2 k := by
  have h1 := h.lt
  have h2 := h.ho
  exact ⟨by omega, by omega, by omega, by omega, by omega⟩
theorem Two.size (h : Two W0 W B g1 b1 g2 b2 off1 z1 F1 off2 z2 F2) : B ≤ W.heap.size := by
  have h1 := h.lt
  have h2 := h.ho
  omega
theorem Two.below (h : Two W0 W B g1 b1 g2 b2 off1 z1 F1 off2 z2 F2) (hb : Below W.heap.size W W1) : Two W0 W1 B g1 b1 g2 b2 off1 z1 F1 off2 z2 F2 :=
  ⟨h.D1.below hb, h.D2.below hb, below_then h.HB h.size hb, h.ho⟩
theorem Two.one (h : Two W0 W B g1 b1 g2 b2 off1 z1 F1 off2 z2 F2) {n : Nat} (hD : Dsk W1 g1 b1 n off1' z1' F1' (Sy B g1 b1 g2 b2)) (hk : Kb (fun k => k = g1 ∨ k = b1) W W1) : Two W0 W1 B g1 b1 g2 b2 off1' z1' F1' off2 z2 F2 := by
  have h2 := h.ho
  exact ⟨hD.tight, h.D2.kb hk (by omega) (by omega) (fun k hq => by have := hq.2; omega), h.HB.trans (hk.to_below h.size (fun k e => by omega)), h2⟩
theorem Two.two (h : Two W0 W B g1 b1 g2 b2 off1 z1 F1 off2 z2 F2) {n : Nat} (hD : Dsk W1 g2 b2 n off2' z2' F2' (Sy B g1 b1 g2 b2)) (hk : Kb (fun k => k = g2 ∨ k = b2) W W1) : Two W0 W1 B g1 b1 g2 b2 off1 z1 F1 off2' z2' F2' := by
  have h2 := h.ho
  exact ⟨h.D1.kb hk (by omega) (by omega) (fun k hq => by have := hq.2; omega), hD.tight, h.HB.trans (hk.to_below h.size (fun k e => by omega)), h2⟩
/-- .. and a step's copy in block q. -/
structure TwoQ (W0 W : World) (B g1 b1 g2 b2 q : Nat) (o : Obj) (off1 : Bool) (z1 : Int) (F1 : Fls) (off2 : Bool) (z2 : Int) (F2 : Fls) : Prop where
  st : Two W0 W B g1 b1 g2 b2 off1 z1 F1 off2 z2 F2
  hq : W.heap[q]? = some o
  ne : q ≠ g1 ∧ q ≠ b1 ∧ q ≠ g2 ∧ q ≠ b2
variable {q : Nat} {o : Obj}
theorem Two.mid (h : Two W0 W B g1 b1 g2 b2 off1 z1 F1 off2 z2 F2) {W1 : World} (o : Obj) (hb : Below W.heap.size W W1) (hq : W1.heap[W.heap.size]? = some o) : TwoQ W0 W1 B g1 b1 g2 b2 W.heap.size o off1 z1 F1 off2 z2 F2 :=
  ⟨h.below hb, hq, by have := h.lt; omega⟩
theorem TwoQ.below (h : TwoQ W0 W B g1 b1 g2 b2 q o off1 z1 F1 off2 z2 F2) (hb : Below W.heap.size W W1) : TwoQ W0 W1 B g1 b1 g2 b2 q o off1 z1 F1 off2 z2 F2 := ⟨h.st.below hb, blk_below h.hq hb, h.ne⟩
theorem TwoQ.one (h : TwoQ W0 W B g1 b1 g2 b2 q o off1 z1 F1 off2 z2 F2) {n : Nat} (hD : Dsk W1 g1 b1 n off1' z1' F1' (Sy B g1 b1 g2 b2)) (hk : Kb (fun k => k = g1 ∨ k = b1) W W1) : TwoQ W0 W1 B g1 b1 g2 b2 q o off1' z1' F1' off2 z2 F2 :=
  ⟨h.st.one hD hk, hk.blk h.hq (by have := h.ne; omega), h.ne⟩
theorem TwoQ.two (h : TwoQ W0 W B g1 b1 g2 b2 q o off1 z1 F1 off2 z2 F2) {n : Nat} (hD : Dsk W1 g2 b2 n off2' z2' F2' (Sy B g1 b1 g2 b2)) (hk : Kb (fun k => k = g2 ∨ k = b2) W W1) : TwoQ W0 W1 B g1 b1 g2 b2 q o off1 z1 F1 off2' z2' F2' :=
  ⟨h.st.two hD hk, hk.blk h.hq (by have := h.ne; omega), h.ne⟩
end
end Go.Proofs.Ytobgijpbfmpdaaa.Ls
