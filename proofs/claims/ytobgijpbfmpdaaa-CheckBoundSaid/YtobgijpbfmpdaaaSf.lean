/- check.Slots' walk: a frame's state. -/
import Derived.Test.YtobgijpbfmpdaaaSe
set_option linter.unusedVariables false
set_option linter.unusedSimpArgs false
set_option maxRecDepth 100000
namespace Go.Proofs.Ytobgijpbfmpdaaa.Ck
open Go.RowKit Go.Proofs.YtobgijpbfmpdaaaW.PrintWords Go.Proofs.YtobgijpbfmpdaaaW.PrintLast Go.Proofs.YtobgijpbfmpdaaaW.PrintMore
open Go.Proofs.Ytobgijpbfmpdaaa.Fm Go.Proofs.Ytobgijpbfmpdaaa.Mp Go.Proofs.Ytobgijpbfmpdaaa.PCk
set_option maxHeartbeats 4000000
def strK (l : List Ky) : List ByteArray := l.map fun k => ⟨k.toArray⟩
structure Fr (B0 T b S M O N F E K : Nat) (A : Option Addr) (c : Nat) (ts : List S61) (W0 We : World) (v0 : Value) (x : S61) (xb : Nat) (wr : World) (s : St) (v : Value) (cnt : Nat) (vm : Value) (mine : List Ky) : Prop where
  sv : Sv B0 T b S M O N F E K A c ts W0 wr s v cnt
  x : wr.heap[xb]? = some (.cells #[.int .u8 x.f0, .int .i64 x.f1, .int .i64 x.f2, .string x.f3] 61 (0, 0))
  mi : Kd.string.R 9 wr We.heap.size (fun _ => True) vm (strK mine)
  xb : We.heap.size ≤ xb
  lt : K < We.heap.size
  kb : Kb (Chg M O N F b v0) We wr
  V : Mv v0 We v
section
variable {B0 T b S M O N F E K : Nat} {A : Option Addr} {c : Nat} {ts : List S61} {W0 We : World} {v0 : Value} {x : S61} {xb : Nat} {wr w6 : World} {s s' : St} {v : Value} {cnt cnt' : Nat} {vm vm' : Value} {mine : List Ky}
theorem Fr.box (h : Fr B0 T b S M O N F E K A c ts W0 We v0 x xb wr s v cnt vm mine) {q : Nat} (hq : Bxs T b S M O N F E K q) : q < We.heap.size := by
  have h1 := h.lt
  have h2 := h.sv.ne
  unfold Bxs at hq
  omega
theorem chg_box {q : Nat} (h : Chg M O N F b v q) : Bxs T b S M O N F E K q ∨ some q = v.ownBlock := by
  unfold Chg at h
  unfold Bxs
  rcases h with h | h | h | h | h | h
  · left; omega
  · left; omega
  · left; omega
  · left; omega
  · left; omega
  · right; exact h
theorem Fr.after (h : Fr B0 T b S M O N F E K A c ts W0 We v0 x xb wr s v cnt vm mine) (ha : Aft B0 T b S M O N F E K A c ts W0 wr v s' cnt' w6) :
    ∃ v', Fr B0 T b S M O N F E K A c ts W0 We v0 x xb w6 s' v' cnt' vm mine := by
  obtain ⟨v', h1, h2, h3⟩ := ha
  have hx : ¬ Chg M O N F b v xb := fun e => (chg_box (T := T) (S := S) (E := E) (K := K) e).elim (fun e => by have := h.box e; have := h.xb; omega) (Kd.R_ne h.sv.R h.x (by decide))
  refine ⟨v', h1, h2.blk h.x hx, ?_, h.xb, h.lt, chg_trans h.kb h.V h2, h.V.trans h.kb.size h3⟩
  have hm := Kd.R_bound (Kd.R_apartR h.mi h.sv.R (by decide))
  exact Kd.R_mono (Kd.R_step hm (fun q hq hlt => h2.block q hlt (fun e => (chg_box (T := T) (S := S) (E := E) (K := K) e).elim (fun e => by have := h.box e; have := hq.2.1; omega) hq.1.2))) (fun _ _ => trivial)
theorem Fr.app (h : Fr B0 T b S M O N F E K A c ts W0 We v0 x xb wr s v cnt vm mine) {k : Ky} (hR : Kd.string.R 9 w6 We.heap.size (fun _ => True) vm' (strK mine ++ [⟨k.toArray⟩])) (hg : wr.grownBy w6 vm.ownBlock) :
    Fr B0 T b S M O N F E K A c ts W0 We v0 x xb w6 s v cnt vm' (mine ++ [k]) := by
  have hk := Kb.grown hg
  have hb : ∀ q, q < We.heap.size → some q ≠ vm.ownBlock := fun q hq e => by have := Kd.R_base h.mi q e.symm; omega
  have hbx : ∀ q, Bxs T b S M O N F E K q → ¬ some q = vm.ownBlock := fun q hq => hb q (h.box hq)
  have hx : some xb ≠ vm.ownBlock := Kd.R_ne h.mi h.x (by decide)
  have hn := h.sv.ne
  refine ⟨h.sv.step hk (hbx _ (by unfold Bxs; simp)) (hbx _ (by unfold Bxs; simp)) (hbx _ (by unfold Bxs; simp)) (hbx _ (by unfold Bxs; simp)) (fun q e => by have := Kd.R_base h.mi q e.symm; have := h.lt; omega)
    (hk.blk h.sv.n (hbx _ (by unfold Bxs; simp))) (hk.blk h.sv.m (hbx _ (by unfold Bxs; simp))) (hk.blk h.sv.f (hbx _ (by unfold Bxs; simp))) (hk.blk h.sv.o (hbx _ (by unfold Bxs; simp))) (Kd.R_over h.sv.R h.mi (by decide) hg) (h.sv.own.kb hk (hbx _ (by unfold Bxs; simp))),
    hk.blk h.x hx, ?_, h.xb, h.lt, kb_trans' h.kb hk (fun q hlt e => absurd e (hb q hlt)), h.V⟩
  unfold strK at hR ⊢
  rw [List.map_append]
  exact hR
theorem Fr.seen (h : Fr B0 T b S M O N F E K A c ts W0 We v0 x xb wr s v cnt vm mine) {m : List (Ky × Int)} (hk : Kb (fun q => q = b) wr w6) (ho : Own w6 b cnt' (sV m)) :
    Fr B0 T b S M O N F E K A c ts W0 We v0 x xb w6 { s with seen := m } v cnt' vm mine := by
  obtain ⟨v', hf⟩ := h.after ⟨v, h.sv.seen hk ho, chgB hk, .inl rfl⟩
  have hb : b < We.heap.size := h.box (by unfold Bxs; simp)
  have hx : xb ≠ b := by have := h.xb; omega
  exact ⟨h.sv.seen hk ho, hk.blk h.x hx, Kd.R_mono (Kd.R_step (Kd.R_bound h.mi) (fun q hq hlt => hk.block q hlt (by have := hq.2.1; omega))) (fun _ _ => trivial), h.xb, h.lt, h.kb.trans (chgB hk), h.V⟩
end
end Go.Proofs.Ytobgijpbfmpdaaa.Ck
