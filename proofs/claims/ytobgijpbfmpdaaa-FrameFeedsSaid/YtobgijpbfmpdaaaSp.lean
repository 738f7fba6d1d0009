/- frame.Split: what it computes, by the walk of its range over a function. -/
import Derived.Test.YtobgijpbfmpdaaaFrP
import Derived.Test.YtobgijpbfmpdaaaRf
import Derived.Test.YtobgijpbfmpdaaaLf
import Derived.RangeFuncNested
import Derived.RangeFuncBound
import Derived.RangeFuncCalls
import Derived.RangeFuncLeaves
import Derived.OwnWalkIn
import Derived.TacticsInMore
set_option linter.unusedVariables false
set_option linter.unusedSimpArgs false
namespace Go.Proofs.Ytobgijpbfmpdaaa.Sp
attribute [local go_sem] Oper.semAt_some
open Go.RowKit Go.Proofs.Ytobgijpbfmpdaaa.PFr Go.Proofs.YtobgijpbfmpdaaaW.PrintWords Go.Proofs.YtobgijpbfmpdaaaW.PrintLast Go.Proofs.YtobgijpbfmpdaaaW.PrintMore
open Go.Proofs.Ytobgijpbfmpdaaa.Crc (readP bytesOk)
/-- The bodies, how many bytes they have, and what is wrong behind them. -/
def splitL (b : List Int) : Nat → List (List Int) → Int → List (List Int) × Int × Int
  | 0, l, n => (l, n, 0)
  | k + 1, l, n =>
    if n < (b.length : Int) then
      if (readP (b.drop n.toNat)).2.2 = 0 then splitL b k (l ++ [(readP (b.drop n.toNat)).1]) (n + (readP (b.drop n.toNat)).2.1)
      else (l, n, (readP (b.drop n.toNat)).2.2)
    else (l, n, 0)
theorem read_ok {l : List Int} (h : (readP l).2.2 = 0) (hb : bytesOk l = true) : 12 ≤ (readP l).2.1 ∧ (readP l).2.1 ≤ l.length := by
  rcases FrP.readP_body h with h1 | h1
  · obtain ⟨h2, h3, h4, h5, h6⟩ := h1
    rw [h6]
    omega
  · rw [hb] at h1; cases h1
theorem splitL_fuel (b : List Int) (hb : bytesOk b = true) (hm : b.length ≤ 1000000) : ∀ (k k' : Nat) (l : List (List Int)) (n : Int), 0 ≤ n → b.length - n.toNat ≤ k → b.length - n.toNat ≤ k' → splitL b k l n = splitL b k' l n := by
  intro k
  induction k with
  | zero =>
    intro k' l n h0 h1 h2
    have hn : ¬ n < (b.length : Int) := by omega
    cases k' with
    | zero => rfl
    | succ k' => rw [splitL, splitL, if_neg hn]
  | succ k ih =>
    intro k' l n h0 h1 h2
    by_cases hn : n < (b.length : Int)
    · cases k' with
      | zero => omega
      | succ k' =>
        rw [splitL, splitL, if_pos hn, if_pos hn]
        by_cases hz : (readP (b.drop n.toNat)).2.2 = 0
        · rw [if_pos hz, if_pos hz]
          have h3 := read_ok hz (Crc.bytesOk_drop hb _)
          exact ih _ _ _ (by omega) (by omega) (by omega)
        · rw [if_neg hz, if_neg hz]
    · cases k' with
      | zero => rw [splitL, splitL, if_neg hn]
      | succ k' => rw [splitL, splitL, if_neg hn, if_neg hn]
theorem keeps_drew (W : World) : KeepsOthers W W.drew := ⟨Nat.le_refl _, fun _ _ h _ => h⟩
theorem keeps_drewN (W : World) (m : Nat) : KeepsOthers W (W.drewN m) := ⟨Nat.le_refl _, fun _ _ h _ => h⟩
theorem keeps_below {W W' : World} (h : Below W.heap.size W W') : KeepsOthers W W' := ⟨h.size, fun k o hk _ => (h.block k (Array.getElem?_eq_some_iff.1 hk).1).trans hk⟩
/-- Split's cells: the bodies, the number, the error, and the boxes that the iterator reads them by. -/
structure St (w : World) (s0 : Nat) (A0 : Option Addr) (c0 : Nat) (l0 : List Int) (W : World) (v : Value) (n e : Int) : Prop where
  k0 : W.heap[s0]? = some (.cells #[v] 35 (0, 0))
  k1 : W.heap[s0 + 1]? = some (.cells #[.int .i64 n] 3 (0, 0))
  k2 : W.heap[s0 + 2]? = some (.cells #[.int .i64 e] 25 (0, 0))
  k3 : W.heap[s0 + 3]? = some (.cells #[.slice A0 l0.length c0] 22 (0, 0))
  k4 : W.heap[s0 + 4]? = some (.cells #[.pointer (some ⟨s0 + 1, 0, none⟩)] 125 (0, 0))
  k5 : W.heap[s0 + 5]? = some (.cells #[.pointer (some ⟨s0 + 2, 0, none⟩)] 126 (0, 0))
  below : Below w.heap.size w W
section
variable {w : World} {s0 : Nat} {A0 : Option Addr} {c0 : Nat} {l0 : List Int} {W : World} {v : Value} {n e : Int}
theorem St.step (h : St w s0 A0 c0 l0 W v n e) {W' : World} (hb : Below W.heap.size W W') : St w s0 A0 c0 l0 W' v n e :=
  ⟨blk_below h.k0 hb, blk_below h.k1 hb, blk_below h.k2 hb, blk_below h.k3 hb, blk_below h.k4 hb, blk_below h.k5 hb, below_step h.below hb⟩
theorem St.stepB (h : St w s0 A0 c0 l0 W v n e) {W' : World} (hb : Below (s0 + 8) W W') (hs : w.heap.size ≤ s0 := by omega) : St w s0 A0 c0 l0 W' v n e :=
  ⟨(hb.block _ (by omega)).trans h.k0, (hb.block _ (by omega)).trans h.k1, (hb.block _ (by omega)).trans h.k2, (hb.block _ (by omega)).trans h.k3, (hb.block _ (by omega)).trans h.k4, (hb.block _ (by omega)).trans h.k5, h.below.trans (hb.mono (by omega))⟩
theorem St.drew (h : St w s0 A0 c0 l0 W v n e) : St w s0 A0 c0 l0 W.drew v n e := ⟨h.k0, h.k1, h.k2, h.k3, h.k4, h.k5, below_drew h.below⟩
theorem St.drewN (h : St w s0 A0 c0 l0 W v n e) (m : Nat) : St w s0 A0 c0 l0 (W.drewN m) v n e := ⟨h.k0, h.k1, h.k2, h.k3, h.k4, h.k5, pw_below_drewN h.below m⟩
theorem St.setN (h : St w s0 A0 c0 l0 W v n e) (hs : w.heap.size ≤ s0) (n' : Int) : St w s0 A0 c0 l0 (W.setCell ⟨s0 + 1, 0, none⟩ (.int .i64 n')) v n' e :=
  ⟨blk_far h.k0 (by simp) _, blk_put h.k1 0 _ rfl, blk_far h.k2 (by simp) _, blk_far h.k3 (by simp) _, blk_far h.k4 (by simp) _, blk_far h.k5 (by simp) _, h.below.setCell (by simp; omega) _⟩
theorem St.setE (h : St w s0 A0 c0 l0 W v n e) (hs : w.heap.size ≤ s0) (e' : Int) : St w s0 A0 c0 l0 (W.setCell ⟨s0 + 2, 0, none⟩ (.int .i64 e')) v n e' :=
  ⟨blk_far h.k0 (by simp) _, blk_far h.k1 (by simp) _, blk_put h.k2 0 _ rfl, blk_far h.k3 (by simp) _, blk_far h.k4 (by simp) _, blk_far h.k5 (by simp) _, h.below.setCell (by simp; omega) _⟩
theorem St.setV (h : St w s0 A0 c0 l0 W v n e) (hs : w.heap.size ≤ s0) (v' : Value) : St w s0 A0 c0 l0 (W.setCell ⟨s0, 0, none⟩ v') v' n e :=
  ⟨blk_put h.k0 0 _ rfl, blk_far h.k1 (by simp) _, blk_far h.k2 (by simp) _, blk_far h.k3 (by simp) _, blk_far h.k4 (by simp) _, blk_far h.k5 (by simp) _, h.below.setCell (by simp; omega) _⟩
theorem St.grown (h : St w s0 A0 c0 l0 W v n e) {W' : World} {row : Option Nat} (hg : W.grownBy W' row) (hr : ∀ r, row = some r → s0 + 6 ≤ r) (hs : w.heap.size ≤ s0) : St w s0 A0 c0 l0 W' v n e := by
  have ne : ∀ j, j < 6 → some (s0 + j) ≠ row := fun j hj e => by have := hr _ e.symm; omega
  exact ⟨blk_grown h.k0 hg (ne 0 (by omega)), blk_grown h.k1 hg (ne 1 (by omega)), blk_grown h.k2 hg (ne 2 (by omega)), blk_grown h.k3 hg (ne 3 (by omega)), blk_grown h.k4 hg (ne 4 (by omega)), blk_grown h.k5 hg (ne 5 (by omega)),
    h.below.grown hg h.below.size (fun k e => by have := hr _ e; omega)⟩
end
abbrev Bod := Value × List Int
/-- Between two rounds. -/
def I (w : World) (s0 : Nat) (A0 : Option Addr) (c0 : Nat) (l0 : List Int) (pre : List Bod) (W : World) : Prop :=
  ∃ v n, St w s0 A0 c0 l0 W v n 0 ∧ Kd.S (Kd.slice 5 (Kd.int .u8)) 22 W (s0 + 8) (fun _ => True) v (pre.map (·.2)) ∧
    0 ≤ n ∧ n ≤ l0.length ∧ (pre.length : Int) ≤ n ∧ splitL l0 (l0.length - n.toNat) (pre.map (·.2)) n = splitL l0 l0.length [] 0
/-- Where a body is handed out. -/
def Ib (w : World) (s0 : Nat) (A0 : Option Addr) (c0 : Nat) (l0 : List Int) (px : List Bod × Bod) (W : World) : Prop :=
  ∃ v n, St w s0 A0 c0 l0 W v n 0 ∧ Kd.S (Kd.slice 5 (Kd.int .u8)) 22 W (s0 + 8) (fun k => True ∧ some k ≠ px.2.1.ownBlock) v (px.1.map (·.2)) ∧
    Kd.R (Kd.int .u8) 5 W (s0 + 8) (fun _ => True) px.2.1 px.2.2 ∧
    0 ≤ n ∧ n ≤ l0.length ∧ (px.1.length : Int) + 1 ≤ n ∧ splitL l0 (l0.length - n.toNat) ((px.1 ++ [px.2]).map (·.2)) n = splitL l0 l0.length [] 0
def Dn (w : World) (s0 : Nat) (A0 : Option Addr) (c0 : Nat) (l0 : List Int) (_ : Unit) (W : World) : Prop :=
  ∃ v, St w s0 A0 c0 l0 W v (splitL l0 l0.length [] 0).2.1 (splitL l0 l0.length [] 0).2.2 ∧ Kd.S (Kd.slice 5 (Kd.int .u8)) 22 W (s0 + 8) (fun _ => True) v (splitL l0 l0.length [] 0).1
theorem S_own {W W' : World} {row : Option Nat} {base : Nat} {ok : Nat → Prop} {v : Value} {xs : List (List Int)} (h : Kd.S (Kd.slice 5 (Kd.int .u8)) 22 W base ok v xs) (hg : W.grownBy W' row)
    (hr : ∀ r, row = some r → ∃ o : Obj, W.heap[r]? = some o ∧ o.isCells = false) : Kd.S (Kd.slice 5 (Kd.int .u8)) 22 W' base ok v xs :=
  Kd.S_mono (Kd.S_grown (Kd.S_bound h) hg (fun k hk e => by
    obtain ⟨_, _, _, q, _, cells, hc⟩ := hk
    obtain ⟨o, ho, hcc⟩ := hr k e.symm
    rw [hc] at ho; cases ho; cases hcc)) (fun k hk => hk.1)
theorem R_own {W W' : World} {row : Option Nat} {base : Nat} {ok : Nat → Prop} {v : Value} {xs : List Int} (h : Kd.R (Kd.int .u8) 5 W base ok v xs) (hg : W.grownBy W' row)
    (hr : ∀ r, row = some r → ∃ o : Obj, W.heap[r]? = some o ∧ o.isCells = false) : Kd.R (Kd.int .u8) 5 W' base ok v xs :=
  Kd.R_mono (Kd.R_grown (Kd.R_bound h) hg (fun k hk e => by
    obtain ⟨_, _, _, q, _, cells, hc⟩ := hk
    obtain ⟨o, ho, hcc⟩ := hr k e.symm
    rw [hc] at ho; cases ho; cases hcc)) (fun k hk => hk.1)
theorem I_own {w : World} {s0 : Nat} {A0 : Option Addr} {c0 : Nat} {l0 : List Int} (hs : w.heap.size ≤ s0) : OwnFrom (s0 + 6) (I w s0 A0 c0 l0) := by
  rintro pre W W' row ⟨v, n, h1, h2, h3⟩ hg hr
  exact ⟨v, n, h1.grown hg (fun r e => (hr r e).1) hs, S_own h2 hg (fun r e => (hr r e).2), h3⟩
theorem Ib_own {w : World} {s0 : Nat} {A0 : Option Addr} {c0 : Nat} {l0 : List Int} (hs : w.heap.size ≤ s0) : OwnFrom (s0 + 6) (Ib w s0 A0 c0 l0) := by
  rintro px W W' row ⟨v, n, h1, h2, h3, h4⟩ hg hr
  exact ⟨v, n, h1.grown hg (fun r e => (hr r e).1) hs, S_own h2 hg (fun r e => (hr r e).2), R_own h3 hg (fun r e => (hr r e).2), h4⟩
theorem Dn_own {w : World} {s0 : Nat} {A0 : Option Addr} {c0 : Nat} {l0 : List Int} (hs : w.heap.size ≤ s0) : OwnFrom (s0 + 6) (Dn w s0 A0 c0 l0) := by
  rintro u W W' row ⟨v, h1, h2⟩ hg hr
  exact ⟨v, h1.grown hg (fun r e => (hr r e).1) hs, S_own h2 hg (fun r e => (hr r e).2)⟩
theorem gate_region {P : Program} {Q : Exit → Act → World → Prop} {a : Act} {w : World} {ops : Array Oper} {b : Bool} (id : Nat) (h : (Code.region id ops b).wpIn Fence.wide 3 P Q a w) : (Code.region id ops b).wp P Q a w := wpIn_wide.1 h
set_option maxHeartbeats 8000000 in
set_option maxRecDepth 100000 in
/-- The iterator. -/
theorem iter (w : World) (s0 : Nat) (hs : w.heap.size ≤ s0) (A0 : Option Addr) (c0 : Nat) (l0 : List Int) (hr0 : Kd.C (Kd.int .u8) w A0 l0.length l0) (hc0 : l0.length ≤ c0) (hbo : bytesOk l0 = true) (hml : l0.length ≤ 1000000)
    (l : Nat) (Rp : World → Prop) (hRk : ∀ A B, KeepsOthers A B → Rp A → Rp B) (hsz : ∀ A, Rp A → s0 + 8 ≤ A.heap.size)
    (hY : ∀ (pre : List Bod) (x : Bod) (W1 : World), Ib w s0 A0 c0 l0 (pre, x) W1 → Rp W1 → YieldAt Fence.wide 2 Try.prog l #[x.1] W1 fun e W' => e = .returned (.bool true) ∧ I w s0 A0 c0 l0 (pre ++ [x]) W' ∧ Rp W')
    (W : World) (h0 : I w s0 A0 c0 l0 [] W) (hR0 : Rp W) :
    Calls Try.prog 138 #[.func (.yield l) #[] #[], .pointer (some ⟨s0 + 4, 0, none⟩), .pointer (some ⟨s0 + 3, 0, none⟩), .pointer (some ⟨s0 + 5, 0, none⟩)] W fun e W' => (∃ v, e = .returned v) ∧ Dn w s0 A0 c0 l0 () W' ∧ Rp W' := by
  have HC := Aside0.mk hr0
  have HI0 := Aside0.mk h0
  have HR0 := Aside0.mk hR0
  clear hr0 h0 hR0
  go_enter Try.func138, Try.ntmps138
  go_wp2
  go_loopg [5] l0.length (fun kk v5 wr => ∃ (pre : List Bod) (v : Value) (n : Int), Aside0 (kk = l0.length - pre.length) ∧ Aside0 (St w s0 A0 c0 l0 wr v n 0) ∧ Aside0 (Kd.S (Kd.slice 5 (Kd.int .u8)) 22 wr (s0 + 8) (fun _ => True) v (pre.map (·.2))) ∧ Aside0 (Rp wr) ∧
    Aside0 (0 ≤ n ∧ n ≤ l0.length ∧ (pre.length : Int) ≤ n ∧ splitL l0 (l0.length - n.toNat) (pre.map (·.2)) n = splitL l0 l0.length [] 0))
  case atStart =>
    obtain ⟨v, n, h1, h2, h3⟩ := HI0.out
    exact ⟨[], v, n, ⟨rfl⟩, ⟨h1⟩, ⟨h2⟩, ⟨HR0.out⟩, ⟨h3⟩⟩
  case round =>
    obtain ⟨pre, v, n, hkk, HS, HV, HRp, HN⟩ := hrel
    obtain ⟨bodies, hbd⟩ : ∃ bodies, bodies = pre.map (·.2) := ⟨_, rfl⟩
    rw [← hbd] at HV HN
    have k1 : wr.cell? ⟨s0 + 1, 0, none⟩ = some (.int .i64 n) := by rw [blk_cell HS.out.k1]; rfl
    have k3 : wr.cell? ⟨s0 + 3, 0, none⟩ = some (.slice A0 l0.length c0) := by rw [blk_cell HS.out.k3]; rfl
    have k4 : wr.cell? ⟨s0 + 4, 0, none⟩ = some (.pointer (some ⟨s0 + 1, 0, none⟩)) := by rw [blk_cell HS.out.k4]; rfl
    by_cases hlt : n < (l0.length : Int)
    · have hltb : decide (n < (l0.length : Int)) = true := decide_eq_true hlt
      have Hlt := Aside0.mk hlt
      clear hlt
      have hn0 : 0 ≤ n := HN.out.1
      have hnl : n ≤ l0.length := HN.out.2.1
      obtain ⟨Ad, m, hm, hcut, hC', hmc', hml'⟩ := Mine.cut_drop A0 c0 l0 n hn0 hnl hc0
      have hmE := Aside0.mk hm
      have hC := Aside0.mk (hC' w HC.out)
      have hmc := Aside0.mk hmc'
      have hmL := Aside0.mk hml'
      have hnn := Aside0.mk (And.intro hn0 hnl)
      have hbm : bytesOk m = true := by rw [hm]; exact Crc.bytesOk_drop hbo _
      obtain ⟨r1, r2, r3, hrP⟩ : ∃ r1 r2 r3, readP m = (r1, r2, r3) := ⟨_, _, _, rfl⟩
      have hread : Aside0 (frame_Read.f m = some (r1, r2, r3)) := ⟨by rw [FrP.read_f m hbm (by omega), hrP]⟩
      have hrE := Aside0.mk hrP
      have hbmE := Aside0.mk hbm
      have hmlE := Aside0.mk hml
      have hboE := Aside0.mk hbo
      clear hm hC' hmc' hml' hn0 hnl hrP hbm hml hbo
      go_wp2_with (first | (go_quiet (fail)))
      generalize hwq : wr.drewN _ = wq
      have HS' := Aside0.mk (show St w s0 A0 c0 l0 wq v n 0 by rw [← hwq]; exact HS.out.drewN _)
      have HV' := Aside0.mk (show Kd.S (Kd.slice 5 (Kd.int .u8)) 22 wq (s0 + 8) (fun _ => True) v bodies by rw [← hwq]; exact Kd.S_drewN HV.out _)
      have HR' := Aside0.mk (hRk wr wq (by rw [← hwq]; exact keeps_drewN wr _) HRp.out)
      clear k1 k3 k4 hwq HS HV HRp
      have HS := HS'
      have HV := HV'
      have HRp := HR'
      clear HS' HV' HR'
      clear wr
      obtain ⟨wr, hwr⟩ : ∃ wr, wr = wq := ⟨_, rfl⟩
      subst hwr
      have k1 : wr.cell? ⟨s0 + 1, 0, none⟩ = some (.int .i64 n) := by rw [blk_cell HS.out.k1]; rfl
      have k3 : wr.cell? ⟨s0 + 3, 0, none⟩ = some (.slice A0 l0.length c0) := by rw [blk_cell HS.out.k3]; rfl
      have k4 : wr.cell? ⟨s0 + 4, 0, none⟩ = some (.pointer (some ⟨s0 + 1, 0, none⟩)) := by rw [blk_cell HS.out.k4]; rfl
      refine start_ (n := 13) (S := fun w' => w'.cell? ⟨s0 + 3, 0, none⟩ = some (.slice A0 l0.length c0) ∧ w'.cell? ⟨s0 + 4, 0, none⟩ = some (.pointer (some ⟨s0 + 1, 0, none⟩)) ∧ w'.cell? ⟨s0 + 1, 0, none⟩ = some (.int .i64 n)) (ds := []) #[false, false, false, false, false, false, false, false, false, false, false, false, false] (by kernel_rfl) rfl rfl ⟨k3, k4, k1⟩ (fun hHeld => ?_)
      generalize hwd : wr.drew = wd at hHeld ⊢
      have HSd := Aside0.mk (show St w s0 A0 c0 l0 wd v n 0 by rw [← hwd]; exact HS.out.drew)
      have HVd := Aside0.mk (show Kd.S (Kd.slice 5 (Kd.int .u8)) 22 wd (s0 + 8) (fun _ => True) v bodies by rw [← hwd]; exact Kd.S_drew HV.out)
      have HRd := Aside0.mk (hRk wr wd (by rw [← hwd]; exact keeps_drew wr) HRp.out)
      have HCd := Aside0.mk (show Kd.C (Kd.int .u8) wd Ad m.length m from Kd.C_below hC.out HSd.out.below)
      refine take_ (i := 0) (N := some 15) (v := ?_) (a' := ?_) #[true, false, false, false, false, false, false, false, false, false, false, false, false] rfl rfl (by kernel_rfl) (fun _ _ _ h => h) (Or.inl ⟨by rfl, ?_⟩) hHeld ?_ ?_
      rotate_left
      · intro w' hS_
        obtain ⟨s1_, s2_, s3_⟩ := hS_
        go_simp
        with_reducible rfl
      rotate_left
      · simp only [Act.put, List.setIfInBounds_toArray, List.set_cons_zero, List.set_cons_succ, i64_w, i32_w]
        rfl
      refine take_ (i := 1) (N := some 16) (v := ?_) (a' := ?_) #[true, true, false, false, false, false, false, false, false, false, false, false, false] rfl rfl (by kernel_rfl) (fun _ _ _ h => h) (Or.inl ⟨by rfl, ?_⟩) hHeld ?_ ?_
      rotate_left
      · intro w' hS_
        obtain ⟨s1_, s2_, s3_⟩ := hS_
        go_simp
        with_reducible rfl
      rotate_left
      · simp only [Act.put, List.setIfInBounds_toArray, List.set_cons_zero, List.set_cons_succ, i64_w, i32_w]
        rfl
      refine pure_ (i := 2) (N := some 17) (v := ?_) (a' := ?_) #[true, true, true, false, false, false, false, false, false, false, false, false, false] rfl rfl (by kernel_rfl) (fun _ _ _ h => h) (Or.inl ⟨by rfl, ?_⟩) ?_ ?_
      rotate_left
      · intro w'
        go_simp
        with_reducible rfl
      rotate_left
      · simp only [Act.put, List.setIfInBounds_toArray, List.set_cons_zero, List.set_cons_succ, i64_w, i32_w]
        rfl
      refine take_ (i := 3) (N := some 18) (v := ?_) (a' := ?_) #[true, true, true, true, false, false, false, false, false, false, false, false, false] rfl rfl (by kernel_rfl) (fun _ _ _ h => h) (Or.inl ⟨by rfl, ?_⟩) hHeld ?_ ?_
      rotate_left
      · intro w' hS_
        obtain ⟨s1_, s2_, s3_⟩ := hS_
        go_simp
        with_reducible rfl
      rotate_left
      · simp only [Act.put, List.setIfInBounds_toArray, List.set_cons_zero, List.set_cons_succ, i64_w, i32_w]
        rfl
      refine pure_ (i := 4) (N := some 19) (v := ?_) (a' := ?_) #[true, true, true, true, true, false, false, false, false, false, false, false, false] rfl rfl (by kernel_rfl) (fun _ _ _ h => h) (Or.inl ⟨by rfl, ?_⟩) ?_ ?_
      rotate_left
      · intro w'
        go_simp
        with_reducible rfl
      rotate_left
      · simp only [Act.put, List.setIfInBounds_toArray, List.set_cons_zero, List.set_cons_succ, i64_w, i32_w]
        rfl
      refine one_ (i := 5) (N := some 20) #[true, true, true, true, true, true, false, false, false, false, false, false, false] rfl rfl (by kernel_rfl) (by decide) (fun K hK => ?_)
      refine goes_ Try.func27 (by kernel_rfl) rfl #[.slice Ad m.length (c0 - n.toNat)] (by rfl) rfl rfl (by (try simp only [List.map_toArray, List.map_cons, List.map_nil]); first | done | rfl) ?_
      refine (frame_Read.calls Ad (c0 - n.toNat) m r1 r2 r3 _ HCd.out hmc.out hread.out).mono ?_
      rintro e w5 ⟨v5, rfl, ho, hb⟩
      refine ⟨_, rfl, ?_⟩
      have HS5 := Aside0.mk (HSd.out.step hb)
      have HV5 := Aside0.mk (Kd.S_elder' HVd.out (Kd.R_base ho) hb)
      have HR5 := Aside0.mk (hRk wd w5 (keeps_below hb) HRd.out)
      have HO5 := Aside0.mk (Kd.R_lower (base' := s0 + 8) (Kd.R_apart' (Kd.R_lower ho (hsz _ HRd.out)) (Kd.S_typed HV5.out) (by decide)) (Nat.le_refl _))
      clear ho hb
      refine hK.out _ _ ⟨by rw [blk_cell HS5.out.k3]; rfl, by rw [blk_cell HS5.out.k4]; rfl, by rw [blk_cell HS5.out.k1]; rfl⟩ (fun hHeld => ?_)
      clear hK K
      refine norm_ (a' := ?_) ?_ ?_
      rotate_left
      · show Act.put _ (some 20) _ = _
        simp only [Act.put, List.setIfInBounds_toArray, List.set_cons_zero, List.set_cons_succ, i64_w, i32_w]
        rfl
      refine pure_ (i := 6) (N := some 14) (v := ?_) (a' := ?_) #[true, true, true, true, true, true, true, false, false, false, false, false, false] rfl rfl (by kernel_rfl) (fun _ _ _ h => h) (Or.inl ⟨by rfl, ?_⟩) ?_ ?_
      rotate_left
      · intro w'
        go_simp
        with_reducible rfl
      rotate_left
      · simp only [Act.put, List.setIfInBounds_toArray, List.set_cons_zero, List.set_cons_succ, i64_w, i32_w]
        rfl
      refine pure_ (i := 7) (N := some 21) (v := ?_) (a' := ?_) #[true, true, true, true, true, true, true, true, false, false, false, false, false] rfl rfl (by kernel_rfl) (fun _ _ _ h => h) (Or.inl ⟨by rfl, ?_⟩) ?_ ?_
      rotate_left
      · intro w'
        go_simp
        with_reducible rfl
      rotate_left
      · simp only [Act.put, List.setIfInBounds_toArray, List.set_cons_zero, List.set_cons_succ, i64_w, i32_w]
        rfl
      refine pure_ (i := 8) (N := some 22) (v := ?_) (a' := ?_) #[true, true, true, true, true, true, true, true, true, false, false, false, false] rfl rfl (by kernel_rfl) (fun _ _ _ h => h) (Or.inl ⟨by rfl, ?_⟩) ?_ ?_
      rotate_left
      · intro w'
        go_simp
        with_reducible rfl
      rotate_left
      · simp only [Act.put, List.setIfInBounds_toArray, List.set_cons_zero, List.set_cons_succ, i64_w, i32_w]
        rfl
      refine pure_ (i := 9) (N := some 23) (v := ?_) (a' := ?_) #[true, true, true, true, true, true, true, true, true, true, false, false, false] rfl rfl (by kernel_rfl) (fun _ _ _ h => h) (Or.inl ⟨by rfl, ?_⟩) ?_ ?_
      rotate_left
      · intro w'
        go_simp
        with_reducible rfl
      rotate_left
      · simp only [Act.put, List.setIfInBounds_toArray, List.set_cons_zero, List.set_cons_succ, i64_w, i32_w]
        rfl
      refine pure_ (i := 10) (N := some 5) (v := ?_) (a' := ?_) #[true, true, true, true, true, true, true, true, true, true, true, false, false] rfl rfl (by kernel_rfl) (fun _ _ _ h => h) (Or.inl ⟨by rfl, ?_⟩) ?_ ?_
      rotate_left
      · intro w'
        go_simp
        with_reducible rfl
      rotate_left
      · simp only [Act.put, List.setIfInBounds_toArray, List.set_cons_zero, List.set_cons_succ, i64_w, i32_w]
        rfl
      refine pure_ (i := 11) (N := some 6) (v := ?_) (a' := ?_) #[true, true, true, true, true, true, true, true, true, true, true, true, false] rfl rfl (by kernel_rfl) (fun _ _ _ h => h) (Or.inl ⟨by rfl, ?_⟩) ?_ ?_
      rotate_left
      · intro w'
        go_simp
        with_reducible rfl
      rotate_left
      · simp only [Act.put, List.setIfInBounds_toArray, List.set_cons_zero, List.set_cons_succ, i64_w, i32_w]
        rfl
      refine pure_ (i := 12) (N := some 7) (v := ?_) (a' := ?_) #[true, true, true, true, true, true, true, true, true, true, true, true, true] rfl rfl (by kernel_rfl) (fun _ _ _ h => h) (Or.inl ⟨by rfl, ?_⟩) ?_ ?_
      rotate_left
      · intro w'
        go_simp
        with_reducible rfl
      rotate_left
      · simp only [Act.put, List.setIfInBounds_toArray, List.set_cons_zero, List.set_cons_succ, i64_w, i32_w]
        rfl
      refine done_ (by kernel_rfl) ?_
      clear hHeld k1 k3 k4 HS HV HRp HSd HVd HRd HCd
      have k1 : w5.cell? ⟨s0 + 1, 0, none⟩ = some (.int .i64 n) := by rw [blk_cell HS5.out.k1]; rfl
      have k2 : w5.cell? ⟨s0 + 2, 0, none⟩ = some (.int .i64 0) := by rw [blk_cell HS5.out.k2]; rfl
      have f2 : w5.frozen? ⟨s0 + 2, 0, none⟩ = false := blk_frozen HS5.out.k2 0
      have k5 : w5.cell? ⟨s0 + 5, 0, none⟩ = some (.pointer (some ⟨s0 + 2, 0, none⟩)) := by rw [blk_cell HS5.out.k5]; rfl
      by_cases hz : r3 = 0
      · subst hz
        have HS6 := Aside0.mk (HS5.out.setE hs 0)
        have hb := hrE.out
        have hb2 := read_ok (by rw [hb]) hbmE.out
        rw [hb] at hb2
        dsimp only at hb2
        have hn1 := hnn.out
        have hml1 := hmL.out
        have hb3 : 12 ≤ r2 ∧ n + r2 ≤ l0.length := by omega
        have hN7 := Aside0.mk hb3
        have hwrap : IntKind.i64.wrap (n + r2) = n + r2 := IntWalk.i64_in _ ⟨by omega, by have := hmlE.out; omega⟩
        have HS7 := Aside0.mk (HS6.out.setN hs (n + r2))
        have HV7 := Aside0.mk (show Kd.S (Kd.slice 5 (Kd.int .u8)) 22 ((w5.setCell ⟨s0 + 2, 0, none⟩ (.int .i64 0)).setCell ⟨s0 + 1, 0, none⟩ (.int .i64 (n + r2))) (s0 + 8) (fun k => True ∧ some k ≠ v5.ownBlock) v bodies from
          Kd.S_set (Kd.S_set HV5.out HS5.out.k2 (by decide) 0 _) HS6.out.k1 (by decide) 0 _)
        have HO7 := Aside0.mk (show Kd.R (Kd.int .u8) 5 ((w5.setCell ⟨s0 + 2, 0, none⟩ (.int .i64 0)).setCell ⟨s0 + 1, 0, none⟩ (.int .i64 (n + r2))) (s0 + 8) (fun _ => True) v5 r1 from
          Kd.R_mono (Kd.R_set (Kd.R_set HO5.out HS5.out.k2 (by decide) 0 _) HS6.out.k1 (by decide) 0 _) (fun _ _ => trivial))
        have HR7 := Aside0.mk (hRk _ _ ((KeepsOthers.setCell w5 ⟨s0 + 2, 0, none⟩ (.int .i64 0)).trans (KeepsOthers.setCell _ ⟨s0 + 1, 0, none⟩ (.int .i64 (n + r2)))) HR5.out)
        have k1' : (w5.setCell ⟨s0 + 2, 0, none⟩ (.int .i64 0)).cell? ⟨s0 + 1, 0, none⟩ = some (.int .i64 n) := by rw [blk_cell HS6.out.k1]; rfl
        have f1' : (w5.setCell ⟨s0 + 2, 0, none⟩ (.int .i64 0)).frozen? ⟨s0 + 1, 0, none⟩ = false := blk_frozen HS6.out.k1 0
        have k4' : (w5.setCell ⟨s0 + 2, 0, none⟩ (.int .i64 0)).cell? ⟨s0 + 4, 0, none⟩ = some (.pointer (some ⟨s0 + 1, 0, none⟩)) := by rw [blk_cell HS6.out.k4]; rfl
        have hsp : splitL l0 (l0.length - (n + r2).toNat) (bodies ++ [r1]) (n + r2) = splitL l0 l0.length [] 0 := by
          have hsp0 := HN.out.2.2.2
          obtain ⟨d, hd⟩ : ∃ d, l0.length - n.toNat = d + 1 := ⟨l0.length - n.toNat - 1, by have := Hlt.out; omega⟩
          rw [hd, splitL, if_pos Hlt.out, ← hmE.out, hb, if_pos rfl] at hsp0
          rw [← hsp0]
          exact splitL_fuel l0 hboE.out hmlE.out _ _ _ _ (by omega) (by omega) (by omega)
        obtain ⟨fn, tmps, assign, body, hy, hRd⟩ := hY pre (v5, r1) _ ⟨v, n + r2, HS7.out, by rw [← hbd]; exact HV7.out, HO7.out, by omega, by omega, by have := HN.out.2.2.1; show (pre.length : Int) + 1 ≤ n + r2; omega, by rw [List.map_append, ← hbd]; exact hsp⟩ HR7.out
        have hRd' := Aside0.mk hRd
        dsimp only at hy
        have hspE := Aside0.mk hsp
        clear hRd hsp hb hb2 hb3 hn1 hml1
        simp only [Exit.then]
        go_step
        refine (wpIn_wide (n := 3)).1 ?_
        gi_wp2
        refine hRd'.out.mono ?_
        rintro e w8 ⟨rfl, hI8, hR8⟩
        have HI8 := Aside0.mk hI8
        have HR8 := Aside0.mk hR8
        clear hI8 hR8
        gi_wp2
        go_roundg (l0.length - (pre.length + 1))
        case measure => have := hkk.out; have := HN.out.2.2.1; have := Hlt.out; omega
        case rel =>
          obtain ⟨v', n', h1, h2, h3⟩ := HI8.out
          exact ⟨pre ++ [(v5, r1)], v', n', ⟨by simp⟩, ⟨h1⟩, ⟨h2⟩, ⟨HR8.out⟩, ⟨h3⟩⟩
      · have hzb : (r3 != 0) = true := bne_iff_ne.mpr hz
        have HS6 := Aside0.mk (HS5.out.setE hs r3)
        have HV6 := Aside0.mk (show Kd.S (Kd.slice 5 (Kd.int .u8)) 22 (w5.setCell ⟨s0 + 2, 0, none⟩ (.int .i64 r3)) (s0 + 8) (fun _ => True) v bodies from
          Kd.S_mono (Kd.S_set HV5.out HS5.out.k2 (by decide) 0 _) (fun _ _ => trivial))
        have HR6 := Aside0.mk (hRk _ _ (KeepsOthers.setCell w5 ⟨s0 + 2, 0, none⟩ (.int .i64 r3)) HR5.out)
        have hsp : splitL l0 l0.length [] 0 = (bodies, n, r3) := by
          have hsp0 := HN.out.2.2.2
          obtain ⟨d, hd⟩ : ∃ d, l0.length - n.toNat = d + 1 := ⟨l0.length - n.toNat - 1, by have := Hlt.out; have := hnn.out; omega⟩
          rw [hd, splitL, if_pos Hlt.out, ← hmE.out, hrE.out, if_neg hz] at hsp0
          exact hsp0.symm
        have hspE := Aside0.mk hsp
        clear hsp hz
        go_wp2
        first | (refine bodyPost_ret (results_none rfl _ _ _) rfl ?_) | trace_state
        refine ⟨⟨_, rfl⟩, ⟨v, ?_, ?_⟩, HR6.out⟩
        · rw [hspE.out]; exact HS6.out
        · rw [hspE.out]; exact HV6.out
    · have hltb : decide (n < (l0.length : Int)) = false := decide_eq_false hlt
      have hsp : splitL l0 l0.length [] 0 = (bodies, n, 0) := by
        have hsp0 := HN.out.2.2.2
        have hd : l0.length - n.toNat = 0 := by omega
        rw [hd, splitL] at hsp0
        exact hsp0.symm
      have hspE := Aside0.mk hsp
      clear hsp hlt
      go_wp2_with (first | (go_quiet (fail)))
      go_end0
      refine ⟨⟨_, rfl⟩, ⟨v, ?_, ?_⟩, hRk wr _ (keeps_drewN wr _) HRp.out⟩
      · rw [hspE.out]; exact HS.out.drewN _
      · rw [hspE.out]; exact Kd.S_drewN HV.out _
theorem frames_calls (A : Option Addr) (n c : Nat) (p q : Addr) (w : World) : Calls Try.prog 86 #[.slice A n c, .pointer (some p), .pointer (some q)] w fun e w' =>
    e = .returned (.func (.func 138) #[] #[.pointer (some ⟨w.heap.size + 1, 0, none⟩), .pointer (some ⟨w.heap.size, 0, none⟩), .pointer (some ⟨w.heap.size + 2, 0, none⟩)]) ∧
    w' = ((w.alloc (.cells #[.slice A n c] 22)).alloc (.cells #[.pointer (some p)] 125)).alloc (.cells #[.pointer (some q)] 126) := by
  go_enter Try.func86, Try.ntmps86
  go_wp2
  go_ret
  exact ⟨rfl, rfl⟩
set_option maxHeartbeats 8000000 in
set_option maxRecDepth 100000 in
theorem calls (A0 : Option Addr) (c0 : Nat) (l0 : List Int) (w : World) (hr0 : Kd.C (Kd.int .u8) w A0 l0.length l0) (hc0 : l0.length ≤ c0) (hbo : bytesOk l0 = true) (hml : l0.length ≤ 1000000) :
    Calls Try.prog 29 #[.slice A0 l0.length c0] w fun e w' => ∃ v0_ : Value, e = .returned (.tuple #[v0_, .int .i64 (splitL l0 l0.length [] 0).2.1, .int .i64 (splitL l0 l0.length [] 0).2.2]) ∧
      Kd.S (Kd.slice 5 (Kd.int .u8)) 22 w' w.heap.size (fun _ => True) v0_ (splitL l0 l0.length [] 0).1 ∧ Below w.heap.size w w' := by
  refine (callsIn_wide (n := 4)).1 (callsIn_of_wp_marks Try.func29 rfl trivial (wpIn_wide.2 ?_) rfl)
  simp only [Try.ntmps29, List.size_toArray, List.length_cons, List.length_nil, Nat.reduceAdd, Nat.reduceSub, Array.replicate_succ, Array.replicate_zero, List.push_toArray, List.append_toArray, List.nil_append, List.cons_append]
  go_wp2_with (first | ((with_reducible refine gate_callee (f := 86) rfl ?_); refine goesL_ (some 7) rfl rfl Try.func86 (by kernel_rfl) rfl #[.slice A0 l0.length c0, .pointer (some ⟨w.heap.size + 1, 0, none⟩), .pointer (some ⟨w.heap.size + 2, 0, none⟩)] rfl (by (try simp only [List.map_toArray, List.map_cons, List.map_nil]); first | done | rfl) ?_; refine (frames_calls A0 l0.length c0 _ _ _).mono ?_; rintro e w1 ⟨rfl, hw1⟩; refine ⟨_, rfl, ?_⟩; have HW1 := Aside0.mk hw1; clear hw1))
  simp only [Act.put, List.setIfInBounds_toArray, List.set_cons_zero, List.set_cons_succ, World.size_alloc, Nat.add_assoc, Nat.reduceAdd]
  have HS1 : Aside0 (St w w.heap.size A0 c0 l0 w1 (.slice none 0 0) 0 0) := ⟨by
    have hw1 := HW1.out
    try simp only [World.size_alloc, Nat.add_assoc, Nat.reduceAdd] at hw1
    subst hw1
    refine ⟨?_, ?_, ?_, ?_, ?_, ?_, ?_⟩
    · exact blk_alloc (blk_alloc (blk_alloc (blk_alloc (blk_alloc (blk_new w _) _) _) _) _) _
    · have := blk_new (w.alloc (.cells #[.slice none 0 0] 35)) (.cells #[.int .i64 0] 3)
      rw [World.size_alloc] at this
      exact blk_alloc (blk_alloc (blk_alloc (blk_alloc this _) _) _) _
    · have := blk_new ((w.alloc (.cells #[.slice none 0 0] 35)).alloc (.cells #[.int .i64 0] 3)) (.cells #[.int .i64 0] 25)
      rw [World.size_alloc, World.size_alloc] at this
      exact blk_alloc (blk_alloc (blk_alloc this _) _) _
    · have := blk_new (((w.alloc (.cells #[.slice none 0 0] 35)).alloc (.cells #[.int .i64 0] 3)).alloc (.cells #[.int .i64 0] 25)) (.cells #[.slice A0 l0.length c0] 22)
      rw [World.size_alloc, World.size_alloc, World.size_alloc] at this
      exact blk_alloc (blk_alloc this _) _
    · have := blk_new ((((w.alloc (.cells #[.slice none 0 0] 35)).alloc (.cells #[.int .i64 0] 3)).alloc (.cells #[.int .i64 0] 25)).alloc (.cells #[.slice A0 l0.length c0] 22)) (.cells #[.pointer (some ⟨w.heap.size + 1, 0, none⟩)] 125)
      rw [World.size_alloc, World.size_alloc, World.size_alloc, World.size_alloc] at this
      exact blk_alloc this _
    · have := blk_new (((((w.alloc (.cells #[.slice none 0 0] 35)).alloc (.cells #[.int .i64 0] 3)).alloc (.cells #[.int .i64 0] 25)).alloc (.cells #[.slice A0 l0.length c0] 22)).alloc (.cells #[.pointer (some ⟨w.heap.size + 1, 0, none⟩)] 125)) (.cells #[.pointer (some ⟨w.heap.size + 2, 0, none⟩)] 126)
      rw [World.size_alloc, World.size_alloc, World.size_alloc, World.size_alloc, World.size_alloc] at this
      exact this
    · exact below_alloc (below_alloc (below_alloc (below_alloc (below_alloc (below_alloc (Below.refl _ _) _) _) _) _) _) _⟩
  have hw1s : w1.heap.size = w.heap.size + 6 := by rw [HW1.out]; simp only [World.size_alloc]
  have HCr := Aside0.mk hr0
  have Hbo := Aside0.mk hbo
  have Hml := Aside0.mk hml
  have Hw1s := Aside0.mk hw1s
  clear hr0 hbo hml HW1
  refine (wpIn_wide (n := 4)).1 (Mine.wpIn_rangeFunc_st (F := Fence.wide) (n := 4) (α := Bod) (encs := fun x => #[x.1]) (gf := 138) (lb := #[.pointer (some ⟨w.heap.size + 4, 0, none⟩), .pointer (some ⟨w.heap.size + 3, 0, none⟩), .pointer (some ⟨w.heap.size + 5, 0, none⟩)])
    rfl (by decide) rfl trivial (fun args w => enters_ Try.func138 (by kernel_rfl) rfl args w) (fun _ => rfl) (I w w.heap.size A0 c0 l0) (Ib w w.heap.size A0 c0 l0) (Dn w w.heap.size A0 c0 l0)
    (by rw [hw1s]; exact I_own (Nat.le_refl _)) (by rw [hw1s]; exact Ib_own (Nat.le_refl _)) (by rw [hw1s]; exact Dn_own (Nat.le_refl _)) ?start
    (fun x => { tmps := #[.slice A0 l0.length c0, undef, .pointer (some ⟨w.heap.size, 0, none⟩), .pointer (some ⟨w.heap.size + 1, 0, none⟩), .pointer (some ⟨w.heap.size + 2, 0, none⟩), x.1, .slice A0 l0.length c0,
      .func (.func 138) #[] #[.pointer (some ⟨w.heap.size + 4, 0, none⟩), .pointer (some ⟨w.heap.size + 3, 0, none⟩), .pointer (some ⟨w.heap.size + 5, 0, none⟩)], x.1, undef, undef, undef, undef, undef, undef, undef], defers := [] }) ?assign ?body ?iter ?done)
  case start => exact ⟨_, 0, HS1.out, Kd.S_nil _ _ _ _ _, Int.le_refl _, by omega, Int.le_refl _, rfl⟩
  case assign =>
    intro l x W K hK
    gi_wp2
    exact hK
  case iter =>
    intro l Rp W hRk hsz hY h0 hR0
    exact callsIn_wide.2 (iter w w.heap.size (Nat.le_refl _) A0 c0 l0 HCr.out hc0 Hbo.out Hml.out l Rp hRk (fun A hA => by have := hsz A hA; have := Hw1s.out; omega) hY W h0 hR0)
  case body =>
    rintro l pre ⟨xv, xl⟩ W hlt ⟨v, n, hS, hV, hX, hn0, hnl, hpl, hsp⟩
    dsimp only at hV hX hpl
    obtain ⟨Ao, co, hxe⟩ := Kd.R_slice hX
    subst hxe
    have HS := Aside0.mk hS
    have HV := Aside0.mk hV
    have HX := Aside0.mk hX
    have HN := Aside0.mk (And.intro hn0 (And.intro hnl (And.intro hpl hsp)))
    have Hlt := Aside0.mk (show w.heap.size + 8 ≤ W.heap.size by have := Hw1s.out; omega)
    clear hS hV hX hn0 hnl hpl hsp hlt
    refine wpIn_block ?_
    refine wpIn_region_lit ?_
    refine Mine.wpListIn_of_wpList (by rintro ⟨a, w, h⟩; cases h.1) l 2 _ (by intro o ho c e; simp only [List.mem_cons, List.not_mem_nil, or_false] at ho; rcases ho with rfl | rfl | rfl | rfl | rfl <;> cases e) _ _ ?_
    have k0 : W.cell? ⟨w.heap.size, 0, none⟩ = some v := by rw [blk_cell HS.out.k0]; rfl
    obtain ⟨bodies, hbd⟩ : ∃ bodies, bodies = pre.map (·.2) := ⟨_, rfl⟩
    have Hbd := Aside0.mk hbd
    have HV' := Aside0.mk (show Kd.S (Kd.slice 5 (Kd.int .u8)) 22 W (w.heap.size + 8) (fun k => True ∧ some k ≠ (Value.slice Ao xl.length co).ownBlock) v bodies by rw [hbd]; exact HV.out)
    have hbl : bodies.length = pre.length := by rw [hbd, List.length_map]
    have Hbl := Aside0.mk hbl
    clear hbd HV hbl
    have HAp := Aside0.mk (Kd.R_mono (ok' := fun k_ => True ∧ some k_ ≠ (v : Value).ownBlock) (Kd.R_apart' HX.out (Kd.S_typed HV'.out) (by decide)) (fun k_ hk => ⟨trivial, hk.2⟩))
    generalize hQ : Exit.inBlock 1 (fun e (_ : Act) W' => e = Exit.normal ∧ KeepsOthers W W' ∧ I w w.heap.size A0 c0 l0 (pre ++ [(Value.slice Ao xl.length co, xl)]) W') = Qx
    have HQ := Aside0.mk hQ
    clear hQ
    go_wp2_with (first
      | ((with_reducible refine gate_builtin (b := .append) (xs := #[.tmp 9, .tmp 11]) rfl ?_); at_builtin; refine Kd.S_append (Kd.slice 5 (Kd.int .u8)) (w0 := W) (w.heap.size + 8) rfl (.tmp 9) (.tmp 11) 35 22 (.slice none 0 0) 24 rfl Try.underlying35 info22 rfl (by decide) (by omega) v bodies xl [.slice Ao xl.length co] (fun _ => True) (fun k_ => some k_ = (.slice Ao xl.length co : Value).ownBlock) rfl rfl ?aP (fun k_ hk_ => HAp.out.1 k_ hk_.symm) ?aF ?aO ?aB ?aS ?aL ?_; (case aP => exact Kd.M_row (Kd.R_mono (Kd.R_tight rfl HAp.out) (fun _ h_ => h_))); (case aF => exact (fun _ _ => trivial)); (case aO => exact Kd.S_mono HV'.out (fun k_ hk => ⟨trivial, fun e_ => hk.2 e_⟩)); (case aB => exact Below.refl _ _); (case aS => exact Hlt.out); (case aL => have := HN.out; have := Hbl.out; have := Hml.out; omega); intro v1 w2 ho hb hg hat; obtain ⟨A1, c1, e1⟩ := Kd.S_slice ho; subst e1; have HS2 := Aside0.mk (HS.out.stepB hb); have HV2 := Aside0.mk ho; have HG := Aside0.mk hg; clear ho hb hg hat; have k02 : w2.cell? ⟨w.heap.size, 0, none⟩ = some v := (by rw [blk_cell HS2.out.k0]; rfl); have f02 : w2.frozen? ⟨w.heap.size, 0, none⟩ = false := blk_frozen HS2.out.k0 0))
    rw [← HQ.out]
    show Exit.normal = Exit.normal ∧ _
    refine ⟨rfl, (KeepsOthers.of_grownBy HG.out (fun j o e ho => ?_)).trans (KeepsOthers.setCell _ _ _), _, n, HS2.out.setV (Nat.le_refl _) _, ?_, HN.out.1, HN.out.2.1, ?_, HN.out.2.2.2⟩
    · obtain ⟨cells, hc⟩ := Kd.S_typed HV'.out j e
      rw [hc] at ho; cases ho; rfl
    · rw [List.map_append, ← Hbd.out]
      have h9 := Kd.S_set HV2.out HS2.out.k0 (by decide) 0 (Value.slice A1 (bodies.length + 1) c1)
      rw [show (bodies ++ [xl]).length = bodies.length + 1 by simp] at h9
      exact h9
    · have := HN.out.2.2.1
      simp only [List.length_append, List.length_cons, List.length_nil]
      omega
  case done =>
    rintro D W hD ⟨v, hS, hV⟩ hK
    obtain ⟨A1, c1, hve⟩ := Kd.S_slice hV
    subst hve
    have HS := Aside0.mk hS
    have HV := Aside0.mk hV
    have HK := Aside0.mk hK
    have HD := Aside0.mk hD
    have k0 : W.cell? ⟨w.heap.size, 0, none⟩ = some (.slice A1 (splitL l0 l0.length [] 0).1.length c1) := by rw [blk_cell HS.out.k0]; rfl
    have k1 : W.cell? ⟨w.heap.size + 1, 0, none⟩ = some (.int .i64 (splitL l0 l0.length [] 0).2.1) := by rw [blk_cell HS.out.k1]; rfl
    have k2 : W.cell? ⟨w.heap.size + 2, 0, none⟩ = some (.int .i64 (splitL l0 l0.length [] 0).2.2) := by rw [blk_cell HS.out.k2]; rfl
    have f0 : W.frozen? ⟨w.heap.size, 0, none⟩ = false := blk_frozen HS.out.k0 0
    have f1 : W.frozen? ⟨w.heap.size + 1, 0, none⟩ = false := blk_frozen HS.out.k1 0
    have f2 : W.frozen? ⟨w.heap.size + 2, 0, none⟩ = false := blk_frozen HS.out.k2 0
    clear hS hV hK hD
    simp only [Exit.inBlock, Exit.then]
    go_step
    go_step
    go_region
    have HS4 := Aside0.mk (((HS.out.setV (Nat.le_refl _) (.slice A1 (splitL l0 l0.length [] 0).1.length c1)).setN (Nat.le_refl _) (splitL l0 l0.length [] 0).2.1).setE (Nat.le_refl _) (splitL l0 l0.length [] 0).2.2).drew
    have HK4 := Aside0.mk (((((KeepsOthers.setCell W ⟨w.heap.size, 0, none⟩ (.slice A1 (splitL l0 l0.length [] 0).1.length c1)).trans (KeepsOthers.setCell _ ⟨w.heap.size + 1, 0, none⟩ (.int .i64 (splitL l0 l0.length [] 0).2.1))).trans (KeepsOthers.setCell _ ⟨w.heap.size + 2, 0, none⟩ (.int .i64 (splitL l0 l0.length [] 0).2.2))).trans (keeps_drew _)).same _ _ HK.out rfl)
    have HV4 := Aside0.mk (Kd.S_drew (Kd.S_set (Kd.S_set (Kd.S_set HV.out HS.out.k0 (by decide) 0 (.slice A1 (splitL l0 l0.length [] 0).1.length c1)) (HS.out.setV (Nat.le_refl _) (.slice A1 (splitL l0 l0.length [] 0).1.length c1)).k1 (by decide) 0 (.int .i64 (splitL l0 l0.length [] 0).2.1)) ((HS.out.setV (Nat.le_refl _) (.slice A1 (splitL l0 l0.length [] 0).1.length c1)).setN (Nat.le_refl _) (splitL l0 l0.length [] 0).2.1).k2 (by decide) 0 (.int .i64 (splitL l0 l0.length [] 0).2.2)))
    clear k0 k1 k2 f0 f1 f2 HS HV HK
    revert HS4 HK4 HV4
    generalize (((W.setCell ⟨w.heap.size, 0, none⟩ (.slice A1 (splitL l0 l0.length [] 0).1.length c1)).setCell ⟨w.heap.size + 1, 0, none⟩ (.int .i64 (splitL l0 l0.length [] 0).2.1)).setCell ⟨w.heap.size + 2, 0, none⟩ (.int .i64 (splitL l0 l0.length [] 0).2.2)).drew = W4
    intro HS4 HK4 HV4
    go_wp2
    refine ⟨by simp, .inl ⟨_, _, rfl, run_takeDeferred HK4.out, ?_⟩⟩
    have hg := grownBy_putObj' W4 D (.deferred none)
    have hS5 := HS4.out.grown hg (fun r e => by cases e; have := HD.out; have := Hw1s.out; omega) (Nat.le_refl _)
    have hV5 := S_own HV4.out hg (fun r e => by cases e; exact ⟨_, HK4.out, rfl⟩)
    have k0 : (W4.putObj D (.deferred none)).cell? ⟨w.heap.size, 0, none⟩ = some (.slice A1 (splitL l0 l0.length [] 0).1.length c1) := by rw [blk_cell hS5.k0]; rfl
    have k1 : (W4.putObj D (.deferred none)).cell? ⟨w.heap.size + 1, 0, none⟩ = some (.int .i64 (splitL l0 l0.length [] 0).2.1) := by rw [blk_cell hS5.k1]; rfl
    have k2 : (W4.putObj D (.deferred none)).cell? ⟨w.heap.size + 2, 0, none⟩ = some (.int .i64 (splitL l0 l0.length [] 0).2.2) := by rw [blk_cell hS5.k2]; rfl
    refine ⟨.tuple #[.slice A1 (splitL l0 l0.length [] 0).1.length c1, .int .i64 (splitL l0 l0.length [] 0).2.1, .int .i64 (splitL l0 l0.length [] 0).2.2], ?_, _, rfl, Kd.S_lower hV5 (by omega), hS5.below⟩
    clear hV5 hS5 hg HS4 HK4 HV4
    have hres : Try.f29.results = #[.cell 2 35, .cell 3 3, .cell 4 25] := rfl
    simp only [results, hres]
    go_simp
end Go.Proofs.Ytobgijpbfmpdaaa.Sp
