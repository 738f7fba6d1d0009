/- check.Slots: the state of its closures. -/
import Derived.Test.YtobgijpbfmpdaaaWt
set_option linter.unusedVariables false
set_option linter.unusedSimpArgs false
set_option maxRecDepth 100000
namespace Go.Proofs.Ytobgijpbfmpdaaa.Ck
open Go.RowKit Go.Proofs.YtobgijpbfmpdaaaW.PrintWords Go.Proofs.YtobgijpbfmpdaaaW.PrintLast Go.Proofs.YtobgijpbfmpdaaaW.PrintMore
open Go.Proofs.Ytobgijpbfmpdaaa.Fm Go.Proofs.Ytobgijpbfmpdaaa.Mp Go.Proofs.Ytobgijpbfmpdaaa.PCk
set_option maxHeartbeats 4000000
def Bxs (T b S M O N F E K k : Nat) : Prop := k = T ∨ k = b ∨ k = S ∨ k = M ∨ k = O ∨ k = N ∨ k = F ∨ k = E ∨ k = K
def Chg (M O N F b : Nat) (v : Value) (k : Nat) : Prop := k = M ∨ k = O ∨ k = N ∨ k = F ∨ k = b ∨ some k = v.ownBlock
def Mv (v : Value) (W : World) (v' : Value) : Prop := v'.ownBlock = v.ownBlock ∨ ∃ q, v'.ownBlock = some q ∧ W.heap.size ≤ q
def inV (i : Int) : Value := .int .i64 i
def sV (m : List (Ky × Int)) : List (Ky × Value) := m.map fun p => (p.1, inV p.2)
theorem get_sV (m : List (Ky × Int)) (k : Ky) : Mp.get (sV m) k = (Mp.get m k).map inV := by
  unfold sV Mp.get
  rw [List.find?_map]
  cases h : List.find? ((fun p : Ky × Value => p.1 == k) ∘ fun p : Ky × Int => (p.1, inV p.2)) m with
  | none => rw [show List.find? (fun p => p.1 == k) m = none from h]; rfl
  | some p => rw [show List.find? (fun p => p.1 == k) m = some p from h]; rfl
theorem del_sV (m : List (Ky × Int)) (k : Ky) : del (sV m) k = sV (del m k) := by
  unfold sV del
  rw [List.filter_map]
  rfl
theorem ins_sV (x : Ky × Int) : ∀ m, ins (x.1, inV x.2) (sV m) = sV (ins x m)
  | [] => rfl
  | y :: r => by
    have ih := ins_sV x r
    unfold sV at ih ⊢
    rw [List.map_cons]
    unfold ins
    dsimp only
    by_cases h : bytesBefore x.1 y.1 = true
    · rw [if_pos h, if_pos h]; rfl
    · rw [if_neg h, if_neg h, ih]; rfl
theorem put_sV (m : List (Ky × Int)) (k : Ky) (i : Int) : put (sV m) k (inV i) = sV (put m k i) := by
  unfold put
  rw [del_sV, ← ins_sV]
structure Sv (B0 T b S M O N F E K : Nat) (A : Option Addr) (c : Nat) (ts : List S61) (W0 W : World) (s : St) (v : Value) (cnt : Nat) : Prop where
  t : W.heap[T]? = some (.cells #[.slice A ts.length c] 53 (0, 0))
  n : W.heap[N]? = some (.cells #[.int .i64 s.next] 3 (0, 0))
  m : W.heap[M]? = some (.cells #[.int .i64 s.made] 3 (0, 0))
  e : W.heap[E]? = some (.cells #[.func (.func 89) #[] #[.pointer (some ⟨S, 0, none⟩), .pointer (some ⟨F, 0, none⟩), .pointer (some ⟨M, 0, none⟩), .pointer (some ⟨O, 0, none⟩)]] 130 (0, 0))
  sm : W.heap[S]? = some (.cells #[.map (some b)] 128 (0, 0))
  f : W.heap[F]? = some (.cells #[.int .i64 s.fault] 25 (0, 0))
  o : W.heap[O]? = some (.cells #[v] 50 (0, 0))
  k : W.heap[K]? = some (.cells #[.func (.func 90) #[] #[.pointer (some ⟨T, 0, none⟩), .pointer (some ⟨N, 0, none⟩), .pointer (some ⟨M, 0, none⟩), .pointer (some ⟨E, 0, none⟩), .pointer (some ⟨S, 0, none⟩), .pointer (some ⟨F, 0, none⟩), .pointer (some ⟨O, 0, none⟩), .pointer (some ⟨K, 0, none⟩)]] 131 (0, 0))
  C : Kd.F k61 W (fun q => q < B0) A ts.length ts
  R : (Kd.int .i64).R 3 W B0 (fun q => ¬ Bxs T b S M O N F E K q) v s.out
  own : Own W b cnt (sV s.seen)
  B : Below B0 W0 W
  ne : B0 ≤ T ∧ T < b ∧ b < S ∧ S < M ∧ M < O ∧ O < N ∧ N < F ∧ F < E ∧ E < K
section
variable {B0 T b S M O N F E K : Nat} {A : Option Addr} {c : Nat} {ts : List S61} {W0 W W1 W2 : World} {s s' : St} {v v' : Value} {cnt cnt' : Nat}
theorem Sv.lt (h : Sv B0 T b S M O N F E K A c ts W0 W s v cnt) : K < W.heap.size ∧ B0 ≤ W.heap.size := by
  have h1 := blk_lt h.k
  have h2 := h.ne
  omega
theorem Sv.row (h : Sv B0 T b S M O N F E K A c ts W0 W s v cnt) {k : Nat} (hk : Bxs T b S M O N F E K k) : some k ≠ v.ownBlock := fun e => h.R.1 k e.symm hk
theorem Sv.step (h : Sv B0 T b S M O N F E K A c ts W0 W s v cnt) {X : Nat → Prop} (hk : Kb X W W1) (hT : ¬ X T) (hE : ¬ X E) (hS : ¬ X S) (hK : ¬ X K) (hB : ∀ k, X k → B0 ≤ k)
    (n' : W1.heap[N]? = some (.cells #[.int .i64 s'.next] 3 (0, 0))) (m' : W1.heap[M]? = some (.cells #[.int .i64 s'.made] 3 (0, 0)))
    (f' : W1.heap[F]? = some (.cells #[.int .i64 s'.fault] 25 (0, 0))) (o' : W1.heap[O]? = some (.cells #[v'] 50 (0, 0)))
    (R' : (Kd.int .i64).R 3 W1 B0 (fun q => ¬ Bxs T b S M O N F E K q) v' s'.out) (own' : Own W1 b cnt' (sV s'.seen)) : Sv B0 T b S M O N F E K A c ts W0 W1 s' v' cnt' :=
  ⟨hk.blk h.t hT, n', m', hk.blk h.e hE, hk.blk h.sm hS, f', o', hk.blk h.k hK, Kd.F_step h.C (fun q hq hlt => hk.block q hlt (fun hx => by have := hB q hx; omega)), R', own', h.B.trans (hk.to_below h.lt.2 hB), h.ne⟩
theorem Sv.below (h : Sv B0 T b S M O N F E K A c ts W0 W s v cnt) (hb : Below W.heap.size W W1) : Sv B0 T b S M O N F E K A c ts W0 W1 s v cnt :=
  h.step (Kb.of_below (fun _ => False) hb) id id id id (fun _ e => e.elim) (blk_below h.n hb) (blk_below h.m hb) (blk_below h.f hb) (blk_below h.o hb) (Kd.R_below h.R hb) (h.own.kb (Kb.of_below (fun _ => False) hb) id)
theorem Sv.more (h : Sv B0 T b S M O N F E K A c ts W0 W s v cnt) (hc : cnt ≤ cnt') : Sv B0 T b S M O N F E K A c ts W0 W s v cnt' :=
  ⟨h.t, h.n, h.m, h.e, h.sm, h.f, h.o, h.k, h.C, h.R, h.own.more hc, h.B, h.ne⟩
theorem kset (W : World) (P : Nat) (x : Value) : Kb (fun q => q = P) W (W.setCell ⟨P, 0, none⟩ x) := Kb.set _ _ _ _ rfl
theorem Sv.setN (h : Sv B0 T b S M O N F E K A c ts W0 W s v cnt) (j : Nat) : Sv B0 T b S M O N F E K A c ts W0 (W.setCell ⟨N, 0, none⟩ (.int .i64 j)) { s with next := j } v cnt := by
  have hk := kset W N (.int .i64 j)
  have hn := h.ne
  exact h.step hk (by omega) (by omega) (by omega) (by omega) (fun q e => by omega) (blk_put h.n 0 _ rfl) (hk.blk h.m (by omega)) (hk.blk h.f (by omega)) (hk.blk h.o (by omega)) (Kd.R_far h.R (fun q hq e => hq (by have e : q = N := e; unfold Bxs; omega)) _) (h.own.kb hk (by omega))
theorem Sv.setM (h : Sv B0 T b S M O N F E K A c ts W0 W s v cnt) (j : Nat) : Sv B0 T b S M O N F E K A c ts W0 (W.setCell ⟨M, 0, none⟩ (.int .i64 j)) { s with made := j } v cnt := by
  have hk := kset W M (.int .i64 j)
  have hn := h.ne
  exact h.step hk (by omega) (by omega) (by omega) (by omega) (fun q e => by omega) (hk.blk h.n (by omega)) (blk_put h.m 0 _ rfl) (hk.blk h.f (by omega)) (hk.blk h.o (by omega)) (Kd.R_far h.R (fun q hq e => hq (by have e : q = M := e; unfold Bxs; omega)) _) (h.own.kb hk (by omega))
theorem Sv.setF (h : Sv B0 T b S M O N F E K A c ts W0 W s v cnt) (j : Int) : Sv B0 T b S M O N F E K A c ts W0 (W.setCell ⟨F, 0, none⟩ (.int .i64 j)) { s with fault := j } v cnt := by
  have hk := kset W F (.int .i64 j)
  have hn := h.ne
  exact h.step hk (by omega) (by omega) (by omega) (by omega) (fun q e => by omega) (hk.blk h.n (by omega)) (hk.blk h.m (by omega)) (blk_put h.f 0 _ rfl) (hk.blk h.o (by omega)) (Kd.R_far h.R (fun q hq e => hq (by have e : q = F := e; unfold Bxs; omega)) _) (h.own.kb hk (by omega))
theorem Sv.app (h : Sv B0 T b S M O N F E K A c ts W0 W s v cnt) {x : Int} (hR : (Kd.int .i64).R 3 W1 B0 (fun q => ¬ Bxs T b S M O N F E K q) v' (s.out ++ [x])) (hg : W.grownBy W1 v.ownBlock) :
    Sv B0 T b S M O N F E K A c ts W0 (W1.setCell ⟨O, 0, none⟩ v') { s with out := s.out ++ [x] } v' cnt ∧ Kb (Chg M O N F b v) W (W1.setCell ⟨O, 0, none⟩ v') := by
  have hk1 := Kb.grown hg
  have hk2 := kset W1 O v'
  have hn := h.ne
  have hk : Kb (fun q => some q = v.ownBlock ∨ q = O) W (W1.setCell ⟨O, 0, none⟩ v') := (hk1.mono (fun q _ e => .inl e)).trans (hk2.mono (fun q _ e => .inr e))
  have hx : ∀ q, Bxs T b S M O N F E K q → q ≠ O → ¬ (some q = v.ownBlock ∨ q = O) := fun q hq hne e => e.elim (h.row hq) hne
  have ho1 : W1.heap[O]? = some (.cells #[v] 50 (0, 0)) := hk1.blk h.o (h.row (by unfold Bxs; omega))
  refine ⟨h.step hk (hx T (by unfold Bxs; omega) (by omega)) (hx E (by unfold Bxs; omega) (by omega)) (hx S (by unfold Bxs; omega) (by omega)) (hx K (by unfold Bxs; omega) (by omega)) (fun q e => e.elim (fun e => Kd.R_base h.R q e.symm) (fun e => by omega))
    (hk.blk h.n (hx N (by unfold Bxs; omega) (by omega))) (hk.blk h.m (hx M (by unfold Bxs; omega) (by omega))) (hk.blk h.f (hx F (by unfold Bxs; omega) (by omega))) (blk_put ho1 0 _ rfl)
    (Kd.R_far hR (fun q hq e => hq (by have e : q = O := e; unfold Bxs; omega)) _) (h.own.kb hk (hx b (by unfold Bxs; omega) (by omega))), hk.mono (fun q _ e => ?_)⟩
  unfold Chg
  rcases e with e | e
  · exact .inr (.inr (.inr (.inr (.inr e))))
  · exact .inr (.inl e)
theorem Sv.seen (h : Sv B0 T b S M O N F E K A c ts W0 W s v cnt) {m : List (Ky × Int)} (hk : Kb (fun q => q = b) W W1) (ho : Own W1 b cnt' (sV m)) : Sv B0 T b S M O N F E K A c ts W0 W1 { s with seen := m } v cnt' := by
  have hn := h.ne
  exact h.step hk (by omega) (by omega) (by omega) (by omega) (fun q e => by omega) (hk.blk h.n (by omega)) (hk.blk h.m (by omega)) (hk.blk h.f (by omega)) (hk.blk h.o (by omega)) (Kd.R_step h.R (fun q hq hlt => hk.block q hlt (fun e => hq (by unfold Bxs; omega)))) ho
theorem chgN (W : World) (x : Value) : Kb (Chg M O N F b v) W (W.setCell ⟨N, 0, none⟩ x) := (kset W N x).mono (fun q _ e => .inr (.inr (.inl e)))
theorem chgM (W : World) (x : Value) : Kb (Chg M O N F b v) W (W.setCell ⟨M, 0, none⟩ x) := (kset W M x).mono (fun q _ e => .inl e)
theorem chgF (W : World) (x : Value) : Kb (Chg M O N F b v) W (W.setCell ⟨F, 0, none⟩ x) := (kset W F x).mono (fun q _ e => .inr (.inr (.inr (.inl e))))
theorem chgB (hk : Kb (fun q => q = b) W W1) : Kb (Chg M O N F b v) W W1 := hk.mono (fun q _ e => .inr (.inr (.inr (.inr (.inl e)))))
theorem kb_trans' {X Y : Nat → Prop} (h1 : Kb X W W1) (h2 : Kb Y W1 W2) (h : ∀ q, q < W.heap.size → Y q → X q) : Kb X W W2 :=
  ⟨h2.os.trans h1.os, h2.tape.trans h1.tape, h2.output.trans h1.output, Nat.le_trans h1.size h2.size, fun q hlt hn => (h2.block q (Nat.lt_of_lt_of_le hlt h1.size) (fun e => hn (h q hlt e))).trans (h1.block q hlt hn)⟩
theorem chg_trans (h1 : Kb (Chg M O N F b v) W W1) (hv : Mv v W v') (h2 : Kb (Chg M O N F b v') W1 W2) : Kb (Chg M O N F b v) W W2 :=
  kb_trans' h1 h2 (fun q hlt hq => by
    rcases hq with e | e | e | e | e | e
    · exact .inl e
    · exact .inr (.inl e)
    · exact .inr (.inr (.inl e))
    · exact .inr (.inr (.inr (.inl e)))
    · exact .inr (.inr (.inr (.inr (.inl e))))
    · rcases hv with h | ⟨r, h, hle⟩
      · exact .inr (.inr (.inr (.inr (.inr (e.trans h)))))
      · rw [h] at e; injection e with e; omega)
theorem Mv.refl (v : Value) (W : World) : Mv v W v := .inl rfl
theorem Mv.trans {v2 : Value} (h1 : Mv v W v') (hs : W.heap.size ≤ W1.heap.size) (h2 : Mv v' W1 v2) : Mv v W v2 := by
  rcases h2 with h | ⟨r, h, hle⟩
  · rcases h1 with h' | ⟨r, h', hle⟩
    · exact .inl (h.trans h')
    · exact .inr ⟨r, h.trans h', hle⟩
  · exact .inr ⟨r, h, by omega⟩
end
end Go.Proofs.Ytobgijpbfmpdaaa.Ck
