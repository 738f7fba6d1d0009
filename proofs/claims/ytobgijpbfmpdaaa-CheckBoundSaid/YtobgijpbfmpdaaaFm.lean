/- Memory: worlds that differ in some blocks alone; rows that are written over. -/
import Derived.Test.YtobgijpbfmpdaaaMb
import Derived.Test.YtobgijpbfmpdaaaWShare
import Derived.Lib.ConvBytes
set_option linter.unusedVariables false
set_option linter.unusedSimpArgs false
namespace Go.Proofs.Ytobgijpbfmpdaaa.Fm
open Go.RowKit Go.Proofs.YtobgijpbfmpdaaaW.PrintWords
/-- All blocks of W but those of S are as they were. -/
structure Kb (S : Nat → Prop) (W W' : World) : Prop where
  os : W'.os = W.os
  tape : W'.tape = W.tape
  output : W'.output = W.output
  size : W.heap.size ≤ W'.heap.size
  block : ∀ k, k < W.heap.size → ¬ S k → W'.heap[k]? = W.heap[k]?
section
variable {S S' : Nat → Prop} {W W1 W2 : World}
theorem Kb.refl (S : Nat → Prop) (W : World) : Kb S W W := ⟨rfl, rfl, rfl, Nat.le_refl _, fun _ _ _ => rfl⟩
theorem Kb.mono (h : Kb S W W1) (hs : ∀ k, k < W.heap.size → S k → S' k) : Kb S' W W1 := ⟨h.os, h.tape, h.output, h.size, fun k hk hn => h.block k hk (fun e => hn (hs k hk e))⟩
theorem Kb.trans (h : Kb S W W1) (h' : Kb S W1 W2) : Kb S W W2 :=
  ⟨h'.os.trans h.os, h'.tape.trans h.tape, h'.output.trans h.output, Nat.le_trans h.size h'.size, fun k hk hn => (h'.block k (Nat.lt_of_lt_of_le hk h.size) hn).trans (h.block k hk hn)⟩
theorem Kb.below {B : Nat} (h : Below B W W1) : Kb (fun k => B ≤ k) W W1 := ⟨h.os, h.tape, h.output, h.size, fun k _ hn => h.block k (by omega)⟩
theorem Kb.of_below (S : Nat → Prop) (h : Below W.heap.size W W1) : Kb S W W1 := ⟨h.os, h.tape, h.output, h.size, fun k hk _ => h.block k hk⟩
theorem Kb.grown {row : Option Nat} (h : W.grownBy W1 row) : Kb (fun k => some k = row) W W1 := ⟨h.os, h.tape, h.output, h.size, fun k hk hn => h.block k hk hn⟩
theorem Kb.drewN (S : Nat → Prop) (W : World) (n : Nat) : Kb S W (W.drewN n) := ⟨rfl, rfl, rfl, Nat.le_refl _, fun _ _ _ => rfl⟩
theorem Kb.set (S : Nat → Prop) (W : World) (p : Addr) (v : Value) (hp : S p.block) : Kb S W (W.setCell p v) := by
  have h := (Below.refl 0 W).setCell (p := p) (Nat.zero_le _) v
  exact ⟨h.os, h.tape, h.output, h.size, fun k _ hn => Below.heap_setCell W p v k (fun e => hn (e ▸ hp))⟩
theorem Kb.to_below {B : Nat} (h : Kb S W W1) (hB : B ≤ W.heap.size) (hs : ∀ k, S k → B ≤ k) : Below B W W1 :=
  ⟨h.os, h.tape, h.output, h.size, fun k hk => h.block k (by omega) (fun e => by have := hs k e; omega)⟩
theorem Kb.blk {k : Nat} {o : Obj} (h : Kb S W W1) (hb : W.heap[k]? = some o) (hn : ¬ S k) : W1.heap[k]? = some o := (h.block k (blk_lt hb) hn).trans hb
end
/-- A block of bytes of which n may be written. -/
def InRow (W : World) (b n : Nat) : Prop := ∃ cs m1 m2, W.heap[b]? = some (.cells cs 5 (m1, m2)) ∧ n ≤ cs.size ∧ (n ≤ m1 ∨ m2 = 0)
section
variable {W : World} {b n : Nat}
theorem InRow.cell (h : InRow W b n) {j : Nat} (hj : j < n) : ∃ u, W.cell? ⟨b, j, none⟩ = some u := by
  obtain ⟨cs, m1, m2, hb, hn, _⟩ := h
  exact ⟨cs[j]'(by omega), by simp [World.cell?, hb, Array.getElem?_eq_getElem (show j < cs.size by omega)]⟩
theorem InRow.frozen (h : InRow W b n) {j : Nat} (hj : j < n) : W.frozen? ⟨b, j, none⟩ = false := by
  obtain ⟨cs, m1, m2, hb, hn, hm⟩ := h
  simp only [World.frozen?, hb]
  rcases hm with hm | hm
  · have : ¬ m1 ≤ j := by omega
    simp [this]
  · subst hm; simp
theorem InRow.set (h : InRow W b n) (p : Addr) (v : Value) : InRow (W.setCell p v) b n := by
  obtain ⟨cs, m1, m2, hb, hn, hm⟩ := h
  by_cases hp : b = p.block
  · subst hp
    refine ⟨if p.spot.isSome then cs else cs.setIfInBounds p.off v, m1, m2, ?_, by split <;> simp [hn], hm⟩
    simp only [World.setCell, Array.getElem?_modify]
    simp [hb]
  · exact ⟨cs, m1, m2, (Below.heap_setCell W p v b hp).trans hb, hn, hm⟩
theorem InRow.kb {S : Nat → Prop} {W1 : World} (h : InRow W b n) (hk : Kb S W W1) (hs : ¬ S b) : InRow W1 b n := by
  obtain ⟨cs, m1, m2, hb, hn, hm⟩ := h
  exact ⟨cs, m1, m2, hk.blk hb hs, hn, hm⟩
end
theorem inRow_bytes (W : World) (s : ByteArray) : InRow (Lib.bytesWorld W 5 s) W.heap.size s.size := by
  refine ⟨_, _, _, Lib.bytesWorld_at_new W 5 s, ?_, .inl ?_⟩ <;> (unfold Lib.bytesCells; simp)
  all_goals (show s.size ≤ s.data.size + _; have : s.data.size = s.size := rfl; omega)
/-- A slice of slices of bytes whose bytes may be written; L: how long they are. -/
structure Rowy (W : World) (ok : Nat → Prop) (g0 : Nat) (L : List Nat) : Prop where
  outer : ∃ cs : Array Value, W.heap[g0]? = some (.cells cs 22 (0, 0)) ∧ ∀ (k n : Nat), L[k]? = some n → ∃ (Ak : Option Addr) (ck : Nat), cs[k]? = some (Value.slice Ak n ck) ∧ (0 < n → ∃ b : Nat, Ak = some ⟨b, 0, none⟩ ∧ ok b ∧ InRow W b n)
theorem InRow.ne {W : World} {g0 b n : Nat} {cs : Array Value} (h : InRow W b n) (hg : W.heap[g0]? = some (.cells cs 22 (0, 0))) : g0 ≠ b := by
  obtain ⟨ds, m1, m2, hb, _⟩ := h
  rintro rfl
  rw [hg] at hb
  injection hb with hb
  injection hb with _ hb _
  exact absurd hb (by decide)
theorem Rowy.put {W : World} {ok : Nat → Prop} {g0 : Nat} {L : List Nat} (h : Rowy W ok g0 L) {b n : Nat} (hb : InRow W b n) (j : Nat) (v : Value) : Rowy (W.setCell ⟨b, j, none⟩ v) ok g0 L := by
  obtain ⟨cs, hg, hk⟩ := h.outer
  refine ⟨cs, (Below.heap_setCell W ⟨b, j, none⟩ v g0 (hb.ne hg)).trans hg, fun k n hn => ?_⟩
  obtain ⟨Ak, ck, h1, h2⟩ := hk k n hn
  refine ⟨Ak, ck, h1, fun hp => ?_⟩
  obtain ⟨b', h3, h4, h5⟩ := h2 hp
  exact ⟨b', h3, h4, h5.set _ _⟩
theorem Rowy.kb {S ok : Nat → Prop} {W W1 : World} {g0 : Nat} {L : List Nat} (h : Rowy W ok g0 L) (hk : Kb S W W1) (hg : ¬ S g0) (hs : ∀ k, ok k → ¬ S k) : Rowy W1 ok g0 L := by
  obtain ⟨cs, hb, he⟩ := h.outer
  refine ⟨cs, hk.blk hb hg, fun k n hn => ?_⟩
  obtain ⟨Ak, ck, h1, h2⟩ := he k n hn
  refine ⟨Ak, ck, h1, fun hp => ?_⟩
  obtain ⟨b', h3, h4, h5⟩ := h2 hp
  exact ⟨b', h3, h4, h5.kb hk (hs _ h4)⟩
theorem Rowy.of_R {W : World} {base : Nat} {ok : Nat → Prop} {v : Value} {ls : List (List Int)} (h : Kd.R (Kd.slice 5 (Kd.int .u8)) 22 W base ok v ls) (hp : 0 < ls.length) :
    ∃ g0 c, v = .slice (some ⟨g0, 0, none⟩) ls.length c ∧ ok g0 ∧ Rowy W ok g0 (ls.map List.length) := by
  obtain ⟨g0, c, hv, hb1, hb2, cells, hcells⟩ := Kd.R_form h hp
  subst hv
  refine ⟨g0, c, rfl, h.1 g0 rfl, cells, hcells, fun k n hn => ?_⟩
  rw [List.getElem?_map] at hn
  obtain ⟨x, hx, rfl⟩ := Option.map_eq_some_iff.1 hn
  have hkl : k < ls.length := (List.getElem?_eq_some_iff.1 hx).1
  obtain ⟨cs, hl, hM, hc⟩ := Kd.R_getA h [] (k : Int) (by omega) (by omega)
  rw [Int.toNat_natCast, show ls.getD k [] = x by rw [List.getD_eq_getElem?_getD, hx]; rfl] at hM
  obtain ⟨u, hcs, hR⟩ := hM
  subst hcs
  have h0 := hc 0 u rfl
  rw [Int.toNat_natCast, show (Kd.slice 5 (Kd.int .u8)).sz = 1 from rfl, Nat.mul_one, Nat.add_zero, add_plain, blk_cell hcells] at h0
  obtain ⟨Ak, ck, hu⟩ := Kd.R_slice hR
  subst hu
  refine ⟨Ak, ck, h0, fun hpx => ?_⟩
  obtain ⟨b, cap, hb, _, _, ds, hds⟩ := Kd.R_form hR hpx
  injection hb with hA _ _
  subst hA
  refine ⟨b, rfl, (hR.1 b rfl).1, ds, 0, 0, hds, ?_, .inr rfl⟩
  rcases Nat.lt_or_ge ds.size x.length with hlt | hge
  · have := (Kd.R_celln (0 : Int) hR ((x.length - 1 : Nat) : Int) (by omega) (by omega)).1
    rw [Int.toNat_natCast, blk_cell hds, Array.getElem?_eq_none (by omega)] at this
    cases this
  · exact hge
end Go.Proofs.Ytobgijpbfmpdaaa.Fm
