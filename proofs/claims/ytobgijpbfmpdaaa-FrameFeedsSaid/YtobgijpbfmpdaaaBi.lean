/- FrameBack: what holds between two pieces, and what a piece turns. -/
import Derived.Test.YtobgijpbfmpdaaaOp
set_option linter.unusedVariables false
namespace Go.Proofs.Ytobgijpbfmpdaaa.Bi
open Go.RowKit Go.Proofs.Ytobgijpbfmpdaaa.PFr Go.Proofs.YtobgijpbfmpdaaaW.PrintWords
open Go.Proofs.Ytobgijpbfmpdaaa.Crc (readP bytesOk)
open Go.Proofs.Ytobgijpbfmpdaaa.SpQ Go.Proofs.Ytobgijpbfmpdaaa.Fd
section
variable {α : Type} {d : Kd α} {e base : Nat} {ok : Nat → Prop} {W W' : World} {g : Nat} {o : Option Nat} {v : Value} {xs : List α}
/-- A row that lies beyond the reader, apart from what it held. -/
theorem R_upd (h : d.R e W base (fun k => some k ≠ o) v xs) (hb : g < base) (hu : Upd W.heap.size W W' g o) : d.R e W' base (fun k => some k ≠ o) v xs :=
  Kd.R_mono (Kd.R_step (Kd.R_bound h) (fun k hk hlt => hu.block k hlt (by have := hk.2.1; omega) hk.1)) (fun k hk => hk.1)
/-- A row that lies ahead of the reader. -/
theorem R_upd_lt (h : d.R e W base (fun k => k < g) v xs) (ho : ∀ k, o = some k → g < k) (hu : Upd W.heap.size W W' g o) : d.R e W' base (fun k => k < g) v xs :=
  Kd.R_step h (fun k hk hlt => hu.block k hlt (by omega) (fun e => by have := ho k e.symm; omega))
end
structure Inv (w : World) (g : Nat) (v6 : Value) (all : List Int) (W : World) (n : Nat) (gv lv : Value) : Prop where
  hall : Kd.R (Kd.int .u8) 5 W w.heap.size (fun k => k < g) v6 all
  hg : W.heap[g]? = some (.cells #[.bool true, lv, .int .i64 (spl (all.take n)).2.1, .int .i64 0] 43 (0, 0))
  hl : Kd.R (Kd.int .u8) 5 W (g + 1) (fun _ => True) lv ((all.take n).drop (spl (all.take n)).2.1.toNat)
  hgot : Kd.R (Kd.slice 5 (Kd.int .u8)) 22 W (g + 1) (fun k => some k ≠ lv.ownBlock) gv (spl (all.take n)).1
  below : Below w.heap.size w W
  lo : w.heap.size ≤ g
  hi : g < W.heap.size
theorem piece (all : List Int) (n m1 : Nat) (hn : n ≤ m1) (ht : m1 ≤ all.length) (hb : bytesOk all = true) (hm : all.length ≤ 1000000) :
    ∃ z, z = (all.take n).drop (spl (all.take n)).2.1.toNat ++ (all.take m1).drop n ∧ bytesOk z = true ∧ z.length ≤ all.length ∧
      (spl (all.take m1)).1 = (spl (all.take n)).1 ++ (spl z).1 ∧ (spl (all.take m1)).2.1 = (spl (all.take n)).2.1 + (spl z).2.1 ∧ (spl (all.take m1)).2.2 = (spl z).2.2 ∧
      z.drop (spl z).2.1.toNat = (all.take m1).drop (spl (all.take m1)).2.1.toNat ∧ 0 ≤ (spl (all.take n)).2.1 ∧ (spl (all.take n)).2.1 ≤ n ∧ 0 ≤ (spl z).2.1 := by
  have hx : all.take n ++ (all.take m1).drop n = all.take m1 := by
    have h1 : (all.take m1).take n = all.take n := by rw [List.take_take]; congr 1; omega
    rw [← h1]; exact List.take_append_drop n (all.take m1)
  have hbn := Crc.bytesOk_take hb n
  have hbt := Crc.bytesOk_take hb m1
  have hln : (all.take n).length = n := by rw [List.length_take]; omega
  have hlt : (all.take m1).length = m1 := by rw [List.length_take]; omega
  have hr : 0 ≤ (spl (all.take n)).2.1 ∧ (spl (all.take n)).2.1 ≤ ((all.take n).length : Int) := splitL_n (all.take n) hbn (all.take n).length [] 0 (Int.le_refl _) (by omega)
  have hmore := spl_more (all.take n) ((all.take m1).drop n) (by rw [hx]; exact hbt) (by rw [hx, hlt]; omega)
  rw [hx] at hmore
  obtain ⟨z, hz⟩ : ∃ z, z = (all.take n).drop (spl (all.take n)).2.1.toNat ++ (all.take m1).drop n := ⟨_, rfl⟩
  rw [← hz] at hmore
  have hzd : z = (all.take m1).drop (spl (all.take n)).2.1.toNat := by
    have h0 : (all.take n ++ (all.take m1).drop n).drop (spl (all.take n)).2.1.toNat = (all.take n).drop (spl (all.take n)).2.1.toNat ++ (all.take m1).drop n := List.drop_append_of_le_length (by omega)
    rw [hx] at h0
    rw [hz, h0]
  have hbz : bytesOk z = true := by rw [hzd]; exact Crc.bytesOk_drop hbt _
  have hzl : z.length ≤ all.length := by rw [hzd, List.length_drop]; omega
  have hrz : 0 ≤ (spl z).2.1 ∧ (spl z).2.1 ≤ (z.length : Int) := splitL_n z hbz z.length [] 0 (Int.le_refl _) (by omega)
  have e1 : (spl (all.take m1)).1 = (spl (all.take n)).1 ++ (spl z).1 := by rw [hmore]
  have e2 : (spl (all.take m1)).2.1 = (spl (all.take n)).2.1 + (spl z).2.1 := by rw [hmore]
  have e3 : (spl (all.take m1)).2.2 = (spl z).2.2 := by rw [hmore]
  refine ⟨z, hz, hbz, hzl, e1, e2, e3, ?_, hr.1, by have := hr.2; omega, hrz.1⟩
  rw [e2]
  have hd : (all.take m1).drop ((spl (all.take n)).2.1 + (spl z).2.1).toNat = z.drop (spl z).2.1.toNat := by
    conv => rhs; rw [hzd]
    rw [List.drop_drop]
    congr 1
    rw [← hzd]
    have := hr.1; have := hrz.1
    omega
  exact hd.symm
theorem to_eq (c : Int) (n len : Nat) (h : n ≤ len) (hl : len ≤ 1000000) : ∃ m1 : Nat, n ≤ m1 ∧ m1 ≤ len ∧ wrap64 ((n : Int) + wrap64 ((IntKind.u64.wrap c).tmod (IntKind.u64.wrap (wrap64 (wrap64 ((len : Int) - n) + 1))))) = m1 ∧ ¬ IntKind.u64.wrap (wrap64 (wrap64 ((len : Int) - n) + 1)) = 0 := by
  have e1 : wrap64 ((len : Int) - n) = (len : Int) - n := Mine.wrap64_in (by omega) (by omega)
  have e2 : wrap64 ((len : Int) - n + 1) = (len : Int) - n + 1 := Mine.wrap64_in (by omega) (by omega)
  have e3 : IntKind.u64.wrap ((len : Int) - n + 1) = (len : Int) - n + 1 := by rw [IntKind.wrap_u64]; omega
  have hc : 0 ≤ IntKind.u64.wrap c := by rw [IntKind.wrap_u64]; omega
  rw [e1, e2, e3, Int.tmod_eq_emod_of_nonneg hc]
  have h0 := Int.emod_nonneg (IntKind.u64.wrap c) (b := (len : Int) - n + 1) (by omega)
  have h1 := Int.emod_lt_of_pos (IntKind.u64.wrap c) (b := (len : Int) - n + 1) (by omega)
  generalize IntKind.u64.wrap c % ((len : Int) - n + 1) = q at h0 h1
  rw [Mine.wrap64_in (x := q) (by omega) (by omega), Mine.wrap64_in (by omega) (by omega)]
  exact ⟨n + q.toNat, by omega, by omega, by omega, by omega⟩
/-- Behind a Feed. -/
structure FedP (w : World) (g : Nat) (v6 : Value) (all : List Int) (wr W' : World) (n m1 : Nat) (gv v lv' : Value) (ms : List (List Int)) : Prop where
  hms : (spl (all.take m1)).1 = (spl (all.take n)).1 ++ ms
  hall : Kd.R (Kd.int .u8) 5 W' w.heap.size (fun k => k < g) v6 all
  hg : W'.heap[g]? = some (.cells #[.bool true, lv', .int .i64 (spl (all.take m1)).2.1, .int .i64 0] 43 (0, 0))
  hl : Kd.R (Kd.int .u8) 5 W' wr.heap.size (fun _ => True) lv' ((all.take m1).drop (spl (all.take m1)).2.1.toNat)
  hgot : Kd.R (Kd.slice 5 (Kd.int .u8)) 22 W' (g + 1) (fun k => k < wr.heap.size) gv (spl (all.take n)).1
  hm : Kd.R (Kd.slice 5 (Kd.int .u8)) 22 W' wr.heap.size (fun k => some k ≠ lv'.ownBlock) v ms
  below : Below w.heap.size w W'
  lo : w.heap.size ≤ g
  hi : g < wr.heap.size
  sz : wr.heap.size ≤ W'.heap.size
theorem fed {w : World} {g : Nat} {v6 : Value} {all : List Int} {wr : World} {n : Nat} {gv lv : Value} (HI : Inv w g v6 all wr n gv lv) {m1 : Nat} (hn : n ≤ m1) (hm : m1 ≤ all.length) (hb : bytesOk all = true) (hl : all.length ≤ 4000)
    (hpre : (spl (all.take m1)).2.2 = 0 ∨ (spl (all.take m1)).2.2 = 4) (Am : Option Addr) (c : Nat) (b : List Int) (hbe : b = (all.take m1).drop n) (hC : Kd.C (Kd.int .u8) wr Am b.length b) (hbc : b.length ≤ c) :
    Calls Try.prog 32 #[.pointer (some ⟨g, 0, none⟩), .slice Am b.length c] wr fun e W' => ∃ v lv' ms, e = .returned (.tuple #[v, .int .i64 0]) ∧ FedP w g v6 all wr W' n m1 gv v lv' ms := by
  obtain ⟨z, hz, hbz, hzl, p1, p2, p3, p4, p5, p6, p7⟩ := piece all n m1 hn hm hb (by omega)
  have hlb : (all.take n).drop (spl (all.take n)).2.1.toNat ++ b = z := by rw [hz, hbe]
  have h := Fd.feed g ((all.take n).drop (spl (all.take n)).2.1.toNat) b lv (spl (all.take n)).2.1 Am c (g + 1) wr HI.hg HI.hl (by have := HI.hi; omega) hC hbc (by rw [hlb]; exact hbz) (by rw [hlb]; omega) p5 (by omega)
  rw [hlb] at h
  have he : (if (Sp.splitL z z.length [] 0).2.2 = 4 then (0 : Int) else (Sp.splitL z z.length [] 0).2.2) = 0 := by
    rw [p3] at hpre
    rcases hpre with h1 | h1
    · rw [if_neg (by rw [h1]; decide)]; exact h1
    · rw [if_pos h1]
  rw [he] at h
  refine h.mono ?_
  rintro e W' ⟨v, lv', rfl, hS, hG, hR, hU⟩
  have hlo : ∀ k, lv.ownBlock = some k → g < k := fun k hk => by have := Kd.R_base HI.hl k hk; omega
  refine ⟨v, lv', (spl z).1, rfl, p1, R_upd_lt HI.hall hlo hU, ?_, ?_, ?_, ?_, ?_, HI.lo, HI.hi, hU.size⟩
  · rw [hG, p2]
  · rw [← p4]; exact hR
  · exact Kd.R_mono (Kd.R_step (Kd.R_bound HI.hgot) (fun k hk hlt => hU.block k hlt (by have := hk.2.1; omega) hk.1)) (fun k hk => hk.2.2.1)
  · exact Kd.R_mono (Kd.S_R hS) (fun k hk => hk.2)
  · exact ⟨hU.os.trans HI.below.os, hU.tape.trans HI.below.tape, hU.output.trans HI.below.output, Nat.le_trans HI.below.size hU.size,
      fun k hk => (hU.block k (by have := HI.lo; have := HI.hi; omega) (by have := HI.lo; omega) (fun e => by have := hlo k e.symm; have := HI.lo; omega)).trans (HI.below.block k hk)⟩
section
variable {w : World} {g : Nat} {v6 : Value} {all : List Int} {wr W' : World} {n m1 : Nat} {gv v lv' : Value} {ms : List (List Int)}
theorem FedP.got_lt (h : FedP w g v6 all wr W' n m1 gv v lv' ms) : ∀ k, gv.ownBlock = some k → g + 1 ≤ k ∧ k < wr.heap.size := fun k hk => ⟨Kd.R_base h.hgot k hk, h.hgot.1 k hk⟩
theorem FedP.app (h : FedP w g v6 all wr W' n m1 gv v lv' ms) : ∃ Am cm, ∃ okp : Nat → Prop, v = .slice Am ms.length cm ∧ ms.length ≤ cm ∧
    ReadsRow ((Kd.slice 5 (Kd.int .u8)).M W' (g + 1) okp) 1 W' Am ms.length ms ∧ (∀ k, okp k → some k ≠ lv'.ownBlock ∧ some k ≠ gv.ownBlock) ∧
    Kd.R (Kd.slice 5 (Kd.int .u8)) 22 W' (g + 1) (fun k => some k ≠ lv'.ownBlock) gv (spl (all.take n)).1 := by
  have hb := Kd.R_bound h.hm
  obtain ⟨Am, cm, hv, hle, hr⟩ := OwnRow.reads hb.2
  refine ⟨Am, cm, _, hv, hle, hr.imp_ (Below.refl _ _) (fun p cs hp => (Kd.slice 5 (Kd.int .u8)).M_lower (by have := h.hi; omega) hp), fun k hk => ⟨hk.1.1, fun e => ?_⟩, Kd.R_mono h.hgot (fun k hk e => ?_)⟩
  · have h1 := hk.1.2.1
    have h2 := (h.got_lt k e.symm).2
    omega
  · have := Kd.R_base h.hl k e.symm
    omega
theorem FedP.inv (h : FedP w g v6 all wr W' n m1 gv v lv' ms) {v1 : Value} {w1 : World} (ho : Kd.R (Kd.slice 5 (Kd.int .u8)) 22 w1 (g + 1) (fun k => some k ≠ lv'.ownBlock) v1 ((spl (all.take n)).1 ++ ms))
    (hb : Below (g + 1) W' w1) (hgr : W'.grownBy w1 gv.ownBlock) : Inv w g v6 all w1 m1 v1 lv' := by
  refine ⟨Kd.R_grown h.hall hgr (fun k hk e => ?_), blk_grown h.hg hgr (fun e => ?_), ?_, ?_, ?_, h.lo, ?_⟩
  · have := (h.got_lt k e.symm).1; omega
  · have := (h.got_lt g e.symm).1; omega
  · exact Kd.R_lower (Kd.R_mono (Kd.R_grown (Kd.R_bound h.hl) hgr (fun k hk e => by have := hk.2.1; have := (h.got_lt k e.symm).2; omega)) (fun _ _ => trivial)) (by have := h.hi; omega)
  · rw [h.hms]; exact ho
  · exact h.below.trans (hb.mono (by have := h.lo; omega))
  · have := h.hi; have := h.sz; have := hb.size; omega
end
theorem Inv.later {w w2 : World} {g : Nat} {v6 : Value} {all : List Int} {wr : World} {n : Nat} {gv lv : Value} (h : Inv w g v6 all wr n gv lv) (hb : Below wr.heap.size wr w2) : Inv w g v6 all w2 n gv lv :=
  ⟨Kd.R_below h.hall hb, blk_below h.hg hb, Kd.R_below h.hl hb, Kd.R_below h.hgot hb, below_step h.below hb, h.lo, by have := h.hi; have := hb.size; omega⟩
/-- What is seen of a reader: its cells, in numbers of their own. -/
theorem seen {w : World} {g : Nat} {v6 : Value} {all : List Int} {wr : World} {n : Nat} {gv lv : Value} (h : Inv w g v6 all wr n gv lv) {T : Int} {L : Nat} (hT : T = (spl (all.take n)).2.1) (hL : L = ((all.take n).drop T.toNat).length) :
    ∃ A c, wr.cell? ⟨g, 1, none⟩ = some (.slice A L c) ∧ wr.cell? ⟨g, 2, none⟩ = some (.int .i64 T) := by
  obtain ⟨A, c, e⟩ := Kd.R_slice h.hl
  have hg := h.hg
  rw [e, ← hT, ← hL] at hg
  exact ⟨A, c, by rw [blk_cell hg]; rfl, by rw [blk_cell hg]; rfl⟩
theorem seenF {w : World} {g : Nat} {v6 : Value} {all : List Int} {wr W' : World} {n m1 : Nat} {gv v lv : Value} {ms : List (List Int)} (h : FedP w g v6 all wr W' n m1 gv v lv ms) {T : Int} {L : Nat} (hT : T = (spl (all.take m1)).2.1) (hL : L = ((all.take m1).drop T.toNat).length) :
    ∃ A c, W'.cell? ⟨g, 1, none⟩ = some (.slice A L c) ∧ W'.cell? ⟨g, 2, none⟩ = some (.int .i64 T) := by
  obtain ⟨A, c, e⟩ := Kd.R_slice h.hl
  have hg := h.hg
  rw [e, ← hT, ← hL] at hg
  exact ⟨A, c, by rw [blk_cell hg]; rfl, by rw [blk_cell hg]; rfl⟩
/-- What the numbers of a beginning are. -/
theorem nums_of (all : List Int) (m1 : Nat) (hb : bytesOk all = true) (hl : all.length ≤ 4000) (hm : m1 ≤ all.length) (hpre : (spl (all.take m1)).2.2 = 0 ∨ (spl (all.take m1)).2.2 = 4) :
    ∃ (T : Int) (L : Nat) (E : Int), T = (spl (all.take m1)).2.1 ∧ L = ((all.take m1).drop T.toNat).length ∧ E = (spl (all.take m1)).2.2 ∧ wrap64 ((L : Int) + T) = m1 ∧ ((E = 0 ∧ L = 0 ∧ wrap64 T = m1) ∨ (E = 4 ∧ ¬ L = 0)) := by
  have hbt := Crc.bytesOk_take hb m1
  have hlt : (all.take m1).length = m1 := by rw [List.length_take]; omega
  have hr : 0 ≤ (spl (all.take m1)).2.1 ∧ (spl (all.take m1)).2.1 ≤ ((all.take m1).length : Int) := splitL_n (all.take m1) hbt (all.take m1).length [] 0 (Int.le_refl _) (by omega)
  have he : (spl (all.take m1)).2.2 = 0 ↔ (spl (all.take m1)).2.1 = ((all.take m1).length : Int) := splitL_end (all.take m1) hbt (all.take m1).length [] 0 (Int.le_refl _) (by omega) (by omega)
  rw [hlt] at hr he
  refine ⟨_, _, _, rfl, rfl, rfl, ?_, ?_⟩
  · rw [List.length_drop, hlt, Mine.wrap64_in (by omega) (by omega)]; omega
  · rw [List.length_drop, hlt]
    rcases hpre with h | h
    · have := he.1 h
      exact .inl ⟨h, by omega, by rw [Mine.wrap64_in (by omega) (by omega)]; omega⟩
    · refine .inr ⟨h, ?_⟩
      have : ¬ (spl (all.take m1)).2.1 = (m1 : Int) := fun e => by have := he.2 e; omega
      omega
theorem splitL_len (b : List Int) : ∀ (k : Nat) (l : List (List Int)) (n : Int), (Sp.splitL b k l n).1.length ≤ l.length + k := by
  intro k
  induction k with
  | zero => intro l n; simp [Sp.splitL]
  | succ k ih =>
    intro l n
    unfold Sp.splitL
    (repeat' split) <;> first | (simp; done) | (simp only []; omega) | skip
    all_goals first | (refine Nat.le_trans (ih _ _) ?_; simp; omega) | (simp; omega)
theorem spl_len (x : List Int) : (spl x).1.length ≤ x.length := by
  have := splitL_len x x.length [] 0
  simpa using this
theorem info_bs : (Try.prog.info? 22).map (fun i => (i.zero, i.size, i.bytes)) = some (some (.slice none 0 0), 1, 24) := by kernel_rfl
section
variable {ops : Array Oper} {rest : List Oper} {o : Oper} {a : Act} {Q : Exit → Act → World → Prop}
/-- 'append(xs, ys...)' of slices of bytes: what FedP gives goes in. -/
theorem FedP.append {w : World} {g : Nat} {v6 : Value} {all : List Int} {wr W' : World} {n m1 : Nat} {gv v lv' : Value} {ms : List (List Int)} (hP : FedP w g v6 all wr W' n m1 gv v lv' ms) (hgd : o.guard = none) (s x : Operand)
    (ho : o.op = .call { callee := .builtin .append, args := #[s, x], argTypes := #[35, 35] }) (hs : a.eval s = gv) (hx : a.eval x = v) (hl : all.length ≤ 4000)
    (h : ∀ v1 w1, Inv w g v6 all w1 m1 v1 lv' → wpList Try.prog ops Q rest (a.put o.dst v1) w1) : wpList Try.prog ops Q (o :: rest) a W' := by
  obtain ⟨Am, cm, okp, rfl, hmc, hRR, hokp, hgot⟩ := hP.app
  have hlen : (spl (all.take n)).1.length + ms.length ≤ all.length := by
    have h1 := spl_len (all.take m1)
    have h2 := List.length_take_le m1 all
    have h3 := List.length_take_le' m1 all
    rw [hP.hms, List.length_append] at h1
    omega
  refine Kd.R_append_rows (Kd.slice 5 (Kd.int .u8)) (w0 := W') (g + 1) hgd s x 35 22 (.slice none 0 0) 24 ho Try.underlying35 info_bs rfl (by decide) (by decide) gv _ ms Am ms.length cm _ okp hs hx hgot hRR (fun _ _ h => h) hokp
    (fun k hk e => ?_) (Below.refl _ _) (by have := hP.hi; have := hP.sz; omega) ?_ (fun v1 w1 h1 h2 h3 _ => h v1 w1 (hP.inv h1 h2 h3))
  · have := ((Kd.R_bound hP.hl).1 k e.symm).2.2.1
    omega
  · omega
end
end Go.Proofs.Ytobgijpbfmpdaaa.Bi
