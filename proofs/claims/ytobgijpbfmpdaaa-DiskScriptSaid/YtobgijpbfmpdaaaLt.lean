/- DiskLasts: the state that its loop carries. -/
import Derived.Test.YtobgijpbfmpdaaaLs
import Derived.Test.YtobgijpbfmpdaaaOs
import Derived.Test.YtobgijpbfmpdaaaCr
set_option linter.unusedVariables false
set_option maxRecDepth 100000
namespace Go.Proofs.Ytobgijpbfmpdaaa.Ls
open Go.RowKit Go.Proofs.YtobgijpbfmpdaaaW.PrintWords Go.Proofs.YtobgijpbfmpdaaaW.PrintLast Go.Proofs.YtobgijpbfmpdaaaW.PrintMore
open Go.Proofs.Ytobgijpbfmpdaaa.Fm Go.Proofs.Ytobgijpbfmpdaaa.Mp Go.Proofs.Ytobgijpbfmpdaaa.Dk Go.Proofs.Ytobgijpbfmpdaaa.PDp
/-- Blocks that are neither the disk's own nor the row's. -/
def Sx (B g b : Nat) (v : Value) : Nat → Prop := fun q => B ≤ q ∧ q ≠ g ∧ q ≠ b ∧ some q ≠ v.ownBlock
structure Sta (W0 W : World) (B g b : Nat) (d : Cont) (al : List Int) (v : Value) (A4 : Option Addr) (sr : List Int) : Prop where
  HD : Dsk W g b 1 false (-1) [([102], d)] (Sx B g b v)
  HR : Kd.R (Kd.int .u8) 5 W B (fun q => q ≠ g ∧ q ≠ b) v al
  HF : Kd.F (Kd.int .u8) W (Sx B g b v) A4 sr.length sr
  HB : Below B W0 W
  hg : B ≤ g ∧ B ≤ b
section
variable {W0 W W1 : World} {B g b : Nat} {d d' : Cont} {al sr : List Int} {v : Value} {A4 : Option Addr}
theorem Sta.fresh (h : Sta W0 W B g b d al v A4 sr) (k : Nat) (hk : W.heap.size ≤ k) : Sx B g b v k := by
  have h1 := h.HD.glt
  have h2 := h.HD.blt
  have h3 := h.HB.size
  have h4 := h.hg
  refine ⟨by omega, by omega, by omega, fun e => ?_⟩
  have := Kd.own_of_R h.HR
  have hlt := own_lt this k e.symm
  omega
theorem Sta.dsk (h : Sta W0 W B g b d al v A4 sr) {n : Nat} (hD : Dsk W1 g b n false (-1) [([102], d')] (Sx B g b v)) (hk : Kb (fun k => k = g ∨ k = b) W W1) : Sta W0 W1 B g b d' al v A4 sr := by
  refine ⟨hD.tight, Kd.R_step h.HR (fun k hq hlt => hk.block k hlt (fun e => by rcases e with e | e; exact hq.1 e; exact hq.2 e)), Kd.F_step h.HF (fun k hq hlt => hk.block k hlt (fun e => by rcases e with e | e; exact hq.2.1 e; exact hq.2.2.1 e)), ?_, h.hg⟩
  have h4 := h.hg
  exact h.HB.trans (hk.to_below (B := B) (by have := h.HD.glt; omega) (fun k e => by omega))
theorem Sta.below (h : Sta W0 W B g b d al v A4 sr) (hb : Below W.heap.size W W1) : Sta W0 W1 B g b d al v A4 sr :=
  ⟨h.HD.below hb, Kd.R_below h.HR hb, Kd.F_below h.HF hb, below_then h.HB (by have h4 := h.hg; have := h.HD.glt; omega) hb, h.hg⟩
theorem Sta.drawn (h : Sta W0 W B g b d al v A4 sr) (hb : Drawn0 W W1) : Sta W0 W1 B g b d al v A4 sr := h.below hb.below
theorem Sta.app (h : Sta W0 W B g b d al v A4 sr) {v1 : Value} {al1 : List Int} (hR : Kd.R (Kd.int .u8) 5 W1 B (fun q => q ≠ g ∧ q ≠ b) v1 al1) (hB : Below B W0 W1) (hg : W.grownBy W1 v.ownBlock)
    (hat : v1.ownBlock = v.ownBlock ∨ ∃ k, v1.ownBlock = some k ∧ W.heap.size ≤ k) : Sta W0 W1 B g b d al1 v1 A4 sr := by
  have hS : ∀ k, Sx B g b v k → k < W.heap.size → Sx B g b v1 k := fun k hk hlt => ⟨hk.1, hk.2.1, hk.2.2.1, by
    rcases hat with hat | ⟨q, hq, hle⟩
    · rw [hat]; exact hk.2.2.2
    · rw [hq]; intro e; injection e with e; omega⟩
  have hgo : ∀ k, v.ownBlock = some k → k ≠ g ∧ k ≠ b := h.HR.1
  refine ⟨?_, hR, ?_, hB, h.hg⟩
  · have h1 := h.HD.mono (S' := fun k => Sx B g b v k ∧ k < W.heap.size) (fun k hk hlt => ⟨hk, hlt⟩) (fun k hk => ⟨hk.1.2.1, hk.1.2.2.1⟩)
    have h2 := h1.kb (Kb.grown hg) (fun e => (hgo g e.symm).1 rfl) (fun e => (hgo b e.symm).2 rfl) (fun k hk => hk.1.2.2.2)
    exact h2.mono (fun k hk _ => hS k hk.1 hk.2) (fun k hk => ⟨hk.2.1, hk.2.2.1⟩)
  · exact Kd.F_mono (Kd.F_grown (Kd.F_bound h.HF) hg (fun k hk => hk.1.2.2.2)) (fun k hk => hS k hk.1 hk.2)
theorem Sta.cut {A : Option Addr} {n c m : Nat} (h : Sta W0 W B g b d al (.slice A n c) A4 sr) (hm : m ≤ al.length) : Sta W0 W B g b d (al.take m) (.slice A m c) A4 sr :=
  have he : Sx B g b (.slice A m c) = Sx B g b (.slice A n c) := by cases A <;> rfl
  ⟨he ▸ h.HD, Kd.R_take h.HR hm, he ▸ h.HF, h.HB, h.hg⟩
/-- A copy by way of a string. -/
theorem copy {x : List Int} {A : Option Addr} {c : Nat} (W : World) (hC : Kd.C (Kd.int .u8) W A x.length x) (hbx : Crc.bytesOk x = true) (hl : x.length ≤ 1000000) :
    ∃ (b0 : Nat) (s : ByteArray) (w1 : World) (c1 : Nat), b0 = W.heap.size ∧ (convert 22 9 (.slice A x.length c)).run Try.prog W = .ok (.string s) W ∧ (convert 9 22 (.string s)).run Try.prog W = .ok (.slice (some ⟨b0, 0, none⟩) x.length c1) w1 ∧
      Below W.heap.size W w1 ∧ Kd.F (Kd.int .u8) w1 (fun k => k = b0) (some ⟨b0, 0, none⟩) x.length x ∧ x.length ≤ c1 := by
  have h1 := Kd.C_string (P := Try.prog) Try.underlying22 Try.underlying5 Try.underlying9 (c := c) hC
  have h2 := print_bytes (P := Try.prog) 9 22 5 Try.underlying9 Try.underlying22 Try.underlying5 (strOfNums x) W
  have hb : bytesOf (strOfNums x) = x := by
    rw [bytesOf, strOfNums_data, List.map_map]
    refine (List.map_congr_left (fun y hy => ?_)).trans (List.map_id x)
    have := Crc.bytesOk_mem hbx y hy
    simp
    omega
  have hs : (strOfNums x).size = x.length := by rw [← bytesOf_length, hb]
  have hsz := Lib.bytesWorld_size W 5 (strOfNums x)
  have hF : Kd.F (Kd.int .u8) (Lib.bytesWorld W 5 (strOfNums x)) (fun k => k = W.heap.size) (some ⟨W.heap.size, 0, none⟩) x.length x := fun W' hW' => by
    have hr : ReadsInt W' .u8 (some ⟨W.heap.size, 0, none⟩) (strOfNums x).size (bytesOf (strOfNums x)) := by
      refine ⟨bytesOf_length _, by omega, fun _ => ⟨_, rfl, fun j hj => ?_⟩⟩
      have h3 := (bytes_reads W 5 (strOfNums x) (by omega)).2.2 (by omega)
      obtain ⟨ad, e, h4⟩ := h3
      injection e with e
      subst e
      rw [← h4 j hj]
      exact World.cell?_of_block (hW' _ (by rw [add_block]) (by rw [add_block]; show W.heap.size < _; omega))
    rw [hs, hb] at hr
    exact Kd.C_of_reads (h1 := fun _ => rfl) hr
  rw [hs] at h2
  exact ⟨_, _, _, _, rfl, h1, h2, bytes_below (Below.refl _ _) (Nat.le_refl _) _ _, hF, grownCap_ge _ _ _ _⟩
theorem Sta.copied (h : Sta W0 W B g b d al v A4 sr) (hb : Below W.heap.size W W1) {A : Option Addr} {x : List Int} {b0 : Nat} (h0 : b0 = W.heap.size) (hF : Kd.F (Kd.int .u8) W1 (fun k => k = b0) A x.length x) : Sta W0 W1 B g b d al v A x :=
  let h1 := h.below hb
  ⟨h1.HD, h1.HR, Kd.F_mono hF (fun k hk => h.fresh k (by omega)), h1.HB, h1.hg⟩
/-- .. and a step's copy in block q. -/
structure Mid (W0 W : World) (B g b q : Nat) (o : Obj) (d : Cont) (al : List Int) (v : Value) (A4 : Option Addr) (sr : List Int) : Prop where
  st : Sta W0 W B g b d al v A4 sr
  hq : W.heap[q]? = some o
  ne : q ≠ g ∧ q ≠ b ∧ ∀ k, v.ownBlock = some k → k ≠ q
variable {q : Nat} {o : Obj}
theorem Sta.mid (h : Sta W0 W B g b d al v A4 sr) (o : Obj) : Mid W0 (W.alloc o) B g b W.heap.size o d al v A4 sr :=
  ⟨h.below (below_alloc (Below.refl _ _) _), blk_new _ _, by have := h.HD.glt; omega, by have := h.HD.blt; omega, fun k hk => by have := own_lt (Kd.own_of_R h.HR) k hk; omega⟩
theorem Mid.dsk (h : Mid W0 W B g b q o d al v A4 sr) {n : Nat} (hD : Dsk W1 g b n false (-1) [([102], d')] (Sx B g b v)) (hk : Kb (fun k => k = g ∨ k = b) W W1) : Mid W0 W1 B g b q o d' al v A4 sr :=
  ⟨h.st.dsk hD hk, hk.blk h.hq (fun e => by rcases e with e | e; exact h.ne.1 e; exact h.ne.2.1 e), h.ne⟩
theorem Mid.below (h : Mid W0 W B g b q o d al v A4 sr) (hb : Below W.heap.size W W1) : Mid W0 W1 B g b q o d al v A4 sr := ⟨h.st.below hb, blk_below h.hq hb, h.ne⟩
theorem Mid.app (h : Mid W0 W B g b q o d al v A4 sr) {v1 : Value} {al1 : List Int} (hR : Kd.R (Kd.int .u8) 5 W1 B (fun q => q ≠ g ∧ q ≠ b) v1 al1) (hB : Below B W0 W1) (hg : W.grownBy W1 v.ownBlock)
    (hat : v1.ownBlock = v.ownBlock ∨ ∃ k, v1.ownBlock = some k ∧ W.heap.size ≤ k) : Mid W0 W1 B g b q o d al1 v1 A4 sr := by
  refine ⟨h.st.app hR hB hg hat, (Kb.grown hg).blk h.hq (fun e => h.ne.2.2 q e.symm rfl), h.ne.1, h.ne.2.1, fun k hk => ?_⟩
  rcases hat with hat | ⟨k1, h1, h2⟩
  · exact h.ne.2.2 k (hat ▸ hk)
  · rw [h1] at hk
    injection hk with hk
    have := blk_lt h.hq
    omega
theorem Mid.cut {A : Option Addr} {n c m : Nat} (h : Mid W0 W B g b q o d al (.slice A n c) A4 sr) (hm : m ≤ al.length) : Mid W0 W B g b q o d (al.take m) (.slice A m c) A4 sr :=
  ⟨h.st.cut hm, h.hq, h.ne.1, h.ne.2.1, fun k hk => h.ne.2.2 k (by cases A <;> exact hk)⟩
theorem Mid.copied (h : Mid W0 W B g b q o d al v A4 sr) (hb : Below W.heap.size W W1) {A : Option Addr} {x : List Int} {b0 : Nat} (h0 : b0 = W.heap.size) (hF : Kd.F (Kd.int .u8) W1 (fun k => k = b0) A x.length x) : Mid W0 W1 B g b q o d al v A x :=
  ⟨h.st.copied hb h0 hF, blk_below h.hq hb, h.ne⟩
end
end Go.Proofs.Ytobgijpbfmpdaaa.Ls
