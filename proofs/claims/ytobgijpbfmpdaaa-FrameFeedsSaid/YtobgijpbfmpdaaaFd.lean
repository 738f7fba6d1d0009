/- (*frame.Reader).Feed at a reader that was made and is not broken. -/
import Derived.Test.YtobgijpbfmpdaaaSpP
import Derived.Test.YtobgijpbfmpdaaaRd
set_option linter.unusedVariables false
set_option linter.unusedSimpArgs false
namespace Go.Proofs.Ytobgijpbfmpdaaa.Fd
open Go.RowKit Go.Proofs.Ytobgijpbfmpdaaa.PFr Go.Proofs.YtobgijpbfmpdaaaW.PrintWords Go.Proofs.YtobgijpbfmpdaaaW.PrintLast Go.Proofs.YtobgijpbfmpdaaaW.PrintMore
open Go.Proofs.Ytobgijpbfmpdaaa.Crc (readP bytesOk)
open Go.Proofs.Ytobgijpbfmpdaaa.Sp (splitL read_ok)
theorem splitL_n (b : List Int) (hb : bytesOk b = true) : ∀ (k : Nat) (l : List (List Int)) (n : Int), 0 ≤ n → n ≤ b.length → 0 ≤ (splitL b k l n).2.1 ∧ (splitL b k l n).2.1 ≤ b.length := by
  intro k
  induction k with
  | zero => intro l n h0 h1; exact ⟨h0, h1⟩
  | succ k ih =>
    intro l n h0 h1
    rw [splitL]
    by_cases hn : n < (b.length : Int)
    · rw [if_pos hn]
      by_cases hz : (readP (b.drop n.toNat)).2.2 = 0
      · rw [if_pos hz]
        have h3 := read_ok hz (Crc.bytesOk_drop hb _)
        rw [List.length_drop] at h3
        exact ih _ _ (by omega) (by omega)
      · rw [if_neg hz]; exact ⟨h0, h1⟩
    · rw [if_neg hn]; exact ⟨h0, h1⟩
/-- All blocks of W below B are as they were, but g and o. -/
structure Upd (B : Nat) (W W' : World) (g : Nat) (o : Option Nat) : Prop where
  os : W'.os = W.os
  tape : W'.tape = W.tape
  output : W'.output = W.output
  size : W.heap.size ≤ W'.heap.size
  block : ∀ k, k < B → k ≠ g → some k ≠ o → W'.heap[k]? = W.heap[k]?
section
variable {B : Nat} {W W1 W2 : World} {g : Nat} {o : Option Nat}
theorem Upd.trans (h : Upd B W W1 g o) (k : Upd B W1 W2 g o) : Upd B W W2 g o :=
  ⟨k.os.trans h.os, k.tape.trans h.tape, k.output.trans h.output, Nat.le_trans h.size k.size, fun i hi h1 h2 => (k.block i hi h1 h2).trans (h.block i hi h1 h2)⟩
theorem Upd.of_below {B' : Nat} (h : Below B' W W1) (hB : B ≤ B') (g : Nat) (o : Option Nat) : Upd B W W1 g o := ⟨h.os, h.tape, h.output, h.size, fun k hk _ _ => h.block k (by omega)⟩
theorem Upd.of_grown (h : W.grownBy W1 o) (hB : B ≤ W.heap.size) (g : Nat) : Upd B W W1 g o := ⟨h.os, h.tape, h.output, h.size, fun k hk _ h2 => h.block k (by omega) h2⟩
theorem Upd.set (B : Nat) (W : World) (g j : Nat) (v : Value) (o : Option Nat) : Upd B W (W.setCell ⟨g, j, none⟩ v) g o := by
  have h := (Below.refl g W).setCell (p := ⟨g, j, none⟩) (Nat.le_refl _) v
  exact ⟨h.os, h.tape, h.output, h.size, fun k _ h1 _ => Below.heap_setCell W ⟨g, j, none⟩ v k h1⟩
end
theorem Upd.drewN (B : Nat) (W : World) (g : Nat) (o : Option Nat) (m : Nat) : Upd B W (W.drewN m) g o := ⟨rfl, rfl, rfl, Nat.le_refl _, fun _ _ _ _ => rfl⟩
set_option maxHeartbeats 8000000 in
set_option maxRecDepth 100000 in
theorem feed (g : Nat) (left b : List Int) (lv : Value) (taken : Int) (A : Option Addr) (c : Nat) (base : Nat) (W : World)
    (hg : W.heap[g]? = some (.cells #[.bool true, lv, .int .i64 taken, .int .i64 0] 43 (0, 0)))
    (hl : Kd.R (Kd.int .u8) 5 W base (fun _ => True) lv left) (hbase : base ≤ W.heap.size) (hb : Kd.C (Kd.int .u8) W A b.length b) (hbc : b.length ≤ c) (hbo : bytesOk (left ++ b) = true)
    (hlen : (left ++ b).length ≤ 1000000) (ht0 : 0 ≤ taken) (ht1 : taken ≤ 1000000) :
    Calls Try.prog 32 #[.pointer (some ⟨g, 0, none⟩), .slice A b.length c] W fun e W' => ∃ v lv',
      e = .returned (.tuple #[v, .int .i64 (if (splitL (left ++ b) (left ++ b).length [] 0).2.2 = 4 then 0 else (splitL (left ++ b) (left ++ b).length [] 0).2.2)]) ∧
      Kd.S (Kd.slice 5 (Kd.int .u8)) 22 W' W.heap.size (fun k => True ∧ some k ≠ lv'.ownBlock) v (splitL (left ++ b) (left ++ b).length [] 0).1 ∧
      W'.heap[g]? = some (.cells #[.bool true, lv', .int .i64 (taken + (splitL (left ++ b) (left ++ b).length [] 0).2.1), .int .i64 (if (splitL (left ++ b) (left ++ b).length [] 0).2.2 = 4 then 0 else (splitL (left ++ b) (left ++ b).length [] 0).2.2)] 43 (0, 0)) ∧
      Kd.R (Kd.int .u8) 5 W' W.heap.size (fun _ => True) lv' ((left ++ b).drop (splitL (left ++ b) (left ++ b).length [] 0).2.1.toNat) ∧
      Upd W.heap.size W W' g lv.ownBlock := by
  obtain ⟨all, hall⟩ : ∃ all, all = left ++ b := ⟨_, rfl⟩
  rw [← hall] at hbo hlen ⊢
  have hsn := splitL_n all hbo all.length [] 0 (Int.le_refl _) (by omega)
  have HSp : Aside0 (∀ (w : World) (A : Option Addr) (c : Nat), Kd.C (Kd.int .u8) w A all.length all → all.length ≤ c → Calls Try.prog 29 #[.slice A all.length c] w fun e w' => ∃ v0_ : Value, e = .returned (.tuple #[v0_, .int .i64 (splitL all all.length [] 0).2.1, .int .i64 (splitL all all.length [] 0).2.2]) ∧
      Kd.S (Kd.slice 5 (Kd.int .u8)) 22 w' w.heap.size (fun _ => True) v0_ (splitL all all.length [] 0).1 ∧ Below w.heap.size w w') := ⟨fun w A c hC hc => Sp.calls A c all w hC hc hbo hlen⟩
  revert hsn HSp
  generalize splitL all all.length [] 0 = sp
  obtain ⟨s1, s2, s3⟩ := sp
  dsimp only
  intro hsn HSp
  suffices h : ∀ (Rr : Ending → World → Prop) (e4 : Int), ((s3 != 4) = true → e4 = s3) → ((s3 != 4) = false → e4 = 0) →
      Aside0 (∀ (v lv' : Value) (W' : World), Kd.S (Kd.slice 5 (Kd.int .u8)) 22 W' W.heap.size (fun k => True ∧ some k ≠ lv'.ownBlock) v s1 →
        W'.heap[g]? = some (.cells #[.bool true, lv', .int .i64 (taken + s2), .int .i64 e4] 43 (0, 0)) → Kd.R (Kd.int .u8) 5 W' W.heap.size (fun _ => True) lv' (all.drop s2.toNat) →
        Upd W.heap.size W W' g lv.ownBlock → Rr (.returned (.tuple #[v, .int .i64 e4])) W') →
      Calls Try.prog 32 #[.pointer (some ⟨g, 0, none⟩), .slice A b.length c] W Rr from
    h _ _ (fun hz => if_neg (by simpa using hz)) (fun hz => if_pos (by simpa using hz)) ⟨fun v lv' W' h1 h2 h3 h4 => ⟨v, lv', rfl, h1, h2, h3, h4⟩⟩
  intro Rr e4 he1 he2 HRr
  obtain ⟨Al, cl, hlv⟩ := Kd.R_slice hl
  subst hlv
  have c0 : W.cell? ⟨g, 0, none⟩ = some (.bool true) := by rw [blk_cell hg]; rfl
  have c1 : W.cell? ⟨g, 1, none⟩ = some (.slice Al left.length cl) := by rw [blk_cell hg]; rfl
  have c3 : W.cell? ⟨g, 3, none⟩ = some (.int .i64 0) := by rw [blk_cell hg]; rfl
  have HG := Aside0.mk hg
  have HL := Aside0.mk hl
  have HC := Aside0.mk hb
  have Hall := Aside0.mk hall
  have Hlen := Aside0.mk hlen
  have Hsn := Aside0.mk hsn
  have Hne := Aside0.mk (Kd.R_ne hl hg (by decide))
  have Hbase := Aside0.mk hbase
  have Ht := Aside0.mk (And.intro ht0 ht1)
  have hwt : IntKind.i64.wrap (taken + s2) = taken + s2 := IntWalk.i64_in _ ⟨by omega, by omega⟩
  clear hg hl hb hall hlen hsn hbo hbase ht0 ht1
  have hzz : (s3 != 4) = true ∨ (s3 != 4) = false := by cases s3 != 4 <;> simp
  rcases hzz with hz | hz
  · have he := he1 hz
    subst he
    clear he1 he2
    go_enter Try.func32, Try.ntmps32
    go_wp2_with (first
      | ((with_reducible refine gate_dst (N := 31) rfl ?_); refine Mine.app_u8 (w0 := W) base rfl (.tmp 29) (.tmp 30) rfl (.slice Al left.length cl) left b A b.length c (fun _ => True) rfl rfl HL.out HC.out (fun _ _ => trivial) (Below.refl _ _) Hbase.out (by have := Hlen.out; rw [Hall.out, List.length_append] at this; omega) ?_; intro v1 w1 ho hb hgr hat; rw [← Hall.out] at ho; obtain ⟨A1, k1, e1⟩ := Kd.R_slice ho; subst e1; have HL1 := Aside0.mk ho; have HG1 := Aside0.mk (blk_grown HG.out hgr Hne.out); have HU1 := Aside0.mk (Upd.of_grown hgr (Nat.le_refl _) g); have c11 : w1.cell? ⟨g, 1, none⟩ = some (.slice Al left.length cl) := (by rw [blk_cell HG1.out]; rfl); have f11 : w1.frozen? ⟨g, 1, none⟩ = false := blk_frozen HG1.out 1; clear ho hb hgr hat)
      | ((with_reducible refine gate_callee (f := 29) rfl ?_); refine goesL_ (some 39) rfl rfl Try.func29 (by kernel_rfl) rfl #[.slice A1 all.length k1] rfl (by (try simp only [List.map_toArray, List.map_cons, List.map_nil]); first | done | rfl) ?_; have HG2 := Aside0.mk (blk_put HG1.out 1 (.slice A1 all.length k1) rfl); have HL2 := Aside0.mk (Kd.R_mono (ok' := fun _ => True) (Kd.R_set HL1.out HG1.out (by decide) 1 (.slice A1 all.length k1)) (fun _ _ => trivial)); have HU2 := Aside0.mk (HU1.out.trans (Upd.set W.heap.size w1 g 1 (.slice A1 all.length k1) _)); refine (HSp.out _ A1 k1 (Kd.R_reads' HL2.out).2.2 (Kd.R_reads' HL2.out).2.1).mono ?_; rintro e w3 ⟨v3, rfl, ho, hb⟩; refine ⟨_, rfl, ?_⟩; have HV3 := Aside0.mk (Kd.S_lower ho HU2.out.size); have HG3 := Aside0.mk (blk_below HG2.out hb); have HL3 := Aside0.mk (Kd.R_below HL2.out hb); have HU3 := Aside0.mk (HU2.out.trans (Upd.of_below hb HU2.out.size g _)); have c13 : w3.cell? ⟨g, 1, none⟩ = some (.slice A1 all.length k1) := (by rw [blk_cell HG3.out]; rfl); clear ho hb)
      | ((with_reducible refine gate_dst (N := 44) rfl ?_); refine Kd.R_lit (Kd.int .u8) _ 5 ?hg (N := 44) ?hd (xs := ([] : List Int)) (inner := []) (ok := fun _ => True) (okp := fun _ => True) ?hr ?hp (fun _ hk => hk) trivial (Below.refl _ _) (Nat.le_refl _) (by simp) ?_; (case hd => rfl); (case hg => rfl); (case hr => first | (go_simp; done) | (go_simp; rfl)); (case hp => exact (Reps.none _ _)); intro v4 w4 ho hb hg_ hnew_; have HV4 := Aside0.mk (Kd.S_elder' HV3.out (Kd.R_base ho) hb); have HG4 := Aside0.mk (blk_below HG3.out hb); have HL4 := Aside0.mk (Kd.R_below HL3.out hb); have HO4 := Aside0.mk (Kd.R_lower ho HU3.out.size); have HU4 := Aside0.mk (HU3.out.trans (Upd.of_below hb HU3.out.size g _)); have c14 : w4.cell? ⟨g, 1, none⟩ = some (.slice A1 all.length k1) := (by rw [blk_cell HG4.out]; rfl); obtain ⟨A2, m, hm, hcut, hC2, hmc, hml⟩ := Mine.cut_drop A1 k1 all s2 Hsn.out.1 Hsn.out.2 (Kd.R_reads' HL4.out).2.1; have HC2 := Aside0.mk (hC2 w4 (Kd.R_reads' HL4.out).2.2); have Hm := Aside0.mk hm; have Hmc := Aside0.mk hmc; have Hml := Aside0.mk hml; clear ho hb hg_ hnew_ hm hC2 hmc hml)
      | ((with_reducible refine gate_dst (N := 51) rfl ?_); refine Mine.app_u8 (w0 := w4) W.heap.size rfl (.tmp 44) (.tmp 50) rfl v4 [] m A2 m.length (k1 - s2.toNat) (fun _ => True) rfl rfl HO4.out HC2.out (fun _ _ => trivial) (Below.refl _ _) HU4.out.size (by have := Hml.out; have := Hlen.out; simp only [List.length_nil]; omega) ?_; intro v5 w5 ho hb hgr hat; rw [List.nil_append] at ho; have HV5 := Aside0.mk (Kd.S_after HV4.out hgr hat); obtain ⟨A5, k5, e5⟩ := Kd.R_slice ho; subst e5; have HO5 := Aside0.mk ho; have HG5 := Aside0.mk (blk_grown HG4.out hgr (Kd.R_ne HO4.out HG4.out (by decide))); have HU5 := Aside0.mk (HU4.out.trans (Upd.of_below hb (Nat.le_refl _) g _)); have c51 : w5.cell? ⟨g, 1, none⟩ = some (.slice A1 all.length k1) := (by rw [blk_cell HG5.out]; rfl); have c52 : w5.cell? ⟨g, 2, none⟩ = some (.int .i64 taken) := (by rw [blk_cell HG5.out]; rfl); have c53 : w5.cell? ⟨g, 3, none⟩ = some (.int .i64 0) := (by rw [blk_cell HG5.out]; rfl); have f51 : w5.frozen? ⟨g, 1, none⟩ = false := blk_frozen HG5.out 1; have f52 : w5.frozen? ⟨g, 2, none⟩ = false := blk_frozen HG5.out 2; have f53 : w5.frozen? ⟨g, 3, none⟩ = false := blk_frozen HG5.out 3; clear ho hb hgr hat)
      | go_quiet (fail))
    refine HRr.out _ _ _ (Kd.S_drewN (Kd.S_set (Kd.S_set (Kd.S_set HV5.out HG5.out (by decide) 1 (.slice A5 m.length k5)) (blk_put HG5.out 1 (.slice A5 m.length k5) rfl) (by decide) 2 (.int .i64 (taken + s2))) (blk_put (blk_put HG5.out 1 (.slice A5 m.length k5) rfl) 2 (.int .i64 (taken + s2)) rfl) (by decide) 3 (.int .i64 e4)) _) ?_ ?_ ?_
    · exact blk_drewN (blk_put (blk_put (blk_put HG5.out 1 (.slice A5 m.length k5) rfl) 2 (.int .i64 (taken + s2)) rfl) 3 (.int .i64 e4) rfl) _
    · rw [← Hm.out]
      exact Kd.R_drewN (Kd.R_mono (Kd.R_set (Kd.R_set (Kd.R_set HO5.out HG5.out (by decide) 1 (.slice A5 m.length k5)) (blk_put HG5.out 1 (.slice A5 m.length k5) rfl) (by decide) 2 (.int .i64 (taken + s2))) (blk_put (blk_put HG5.out 1 (.slice A5 m.length k5) rfl) 2 (.int .i64 (taken + s2)) rfl) (by decide) 3 (.int .i64 e4)) (fun _ _ => trivial)) _
    · exact (((HU5.out.trans (Upd.set _ _ g 1 (.slice A5 m.length k5) _)).trans (Upd.set _ _ g 2 (.int .i64 (taken + s2)) _)).trans (Upd.set _ _ g 3 (.int .i64 e4) _)).trans (Upd.drewN _ _ _ _ _)
  · have he := he2 hz
    subst he
    clear he1 he2
    go_enter Try.func32, Try.ntmps32
    go_wp2_with (first
      | ((with_reducible refine gate_dst (N := 31) rfl ?_); refine Mine.app_u8 (w0 := W) base rfl (.tmp 29) (.tmp 30) rfl (.slice Al left.length cl) left b A b.length c (fun _ => True) rfl rfl HL.out HC.out (fun _ _ => trivial) (Below.refl _ _) Hbase.out (by have := Hlen.out; rw [Hall.out, List.length_append] at this; omega) ?_; intro v1 w1 ho hb hgr hat; rw [← Hall.out] at ho; obtain ⟨A1, k1, e1⟩ := Kd.R_slice ho; subst e1; have HL1 := Aside0.mk ho; have HG1 := Aside0.mk (blk_grown HG.out hgr Hne.out); have HU1 := Aside0.mk (Upd.of_grown hgr (Nat.le_refl _) g); have c11 : w1.cell? ⟨g, 1, none⟩ = some (.slice Al left.length cl) := (by rw [blk_cell HG1.out]; rfl); have f11 : w1.frozen? ⟨g, 1, none⟩ = false := blk_frozen HG1.out 1; clear ho hb hgr hat)
      | ((with_reducible refine gate_callee (f := 29) rfl ?_); refine goesL_ (some 39) rfl rfl Try.func29 (by kernel_rfl) rfl #[.slice A1 all.length k1] rfl (by (try simp only [List.map_toArray, List.map_cons, List.map_nil]); first | done | rfl) ?_; have HG2 := Aside0.mk (blk_put HG1.out 1 (.slice A1 all.length k1) rfl); have HL2 := Aside0.mk (Kd.R_mono (ok' := fun _ => True) (Kd.R_set HL1.out HG1.out (by decide) 1 (.slice A1 all.length k1)) (fun _ _ => trivial)); have HU2 := Aside0.mk (HU1.out.trans (Upd.set W.heap.size w1 g 1 (.slice A1 all.length k1) _)); refine (HSp.out _ A1 k1 (Kd.R_reads' HL2.out).2.2 (Kd.R_reads' HL2.out).2.1).mono ?_; rintro e w3 ⟨v3, rfl, ho, hb⟩; refine ⟨_, rfl, ?_⟩; have HV3 := Aside0.mk (Kd.S_lower ho HU2.out.size); have HG3 := Aside0.mk (blk_below HG2.out hb); have HL3 := Aside0.mk (Kd.R_below HL2.out hb); have HU3 := Aside0.mk (HU2.out.trans (Upd.of_below hb HU2.out.size g _)); have c13 : w3.cell? ⟨g, 1, none⟩ = some (.slice A1 all.length k1) := (by rw [blk_cell HG3.out]; rfl); clear ho hb)
      | ((with_reducible refine gate_dst (N := 44) rfl ?_); refine Kd.R_lit (Kd.int .u8) _ 5 ?hg (N := 44) ?hd (xs := ([] : List Int)) (inner := []) (ok := fun _ => True) (okp := fun _ => True) ?hr ?hp (fun _ hk => hk) trivial (Below.refl _ _) (Nat.le_refl _) (by simp) ?_; (case hd => rfl); (case hg => rfl); (case hr => first | (go_simp; done) | (go_simp; rfl)); (case hp => exact (Reps.none _ _)); intro v4 w4 ho hb hg_ hnew_; have HV4 := Aside0.mk (Kd.S_elder' HV3.out (Kd.R_base ho) hb); have HG4 := Aside0.mk (blk_below HG3.out hb); have HL4 := Aside0.mk (Kd.R_below HL3.out hb); have HO4 := Aside0.mk (Kd.R_lower ho HU3.out.size); have HU4 := Aside0.mk (HU3.out.trans (Upd.of_below hb HU3.out.size g _)); have c14 : w4.cell? ⟨g, 1, none⟩ = some (.slice A1 all.length k1) := (by rw [blk_cell HG4.out]; rfl); obtain ⟨A2, m, hm, hcut, hC2, hmc, hml⟩ := Mine.cut_drop A1 k1 all s2 Hsn.out.1 Hsn.out.2 (Kd.R_reads' HL4.out).2.1; have HC2 := Aside0.mk (hC2 w4 (Kd.R_reads' HL4.out).2.2); have Hm := Aside0.mk hm; have Hmc := Aside0.mk hmc; have Hml := Aside0.mk hml; clear ho hb hg_ hnew_ hm hC2 hmc hml)
      | ((with_reducible refine gate_dst (N := 51) rfl ?_); refine Mine.app_u8 (w0 := w4) W.heap.size rfl (.tmp 44) (.tmp 50) rfl v4 [] m A2 m.length (k1 - s2.toNat) (fun _ => True) rfl rfl HO4.out HC2.out (fun _ _ => trivial) (Below.refl _ _) HU4.out.size (by have := Hml.out; have := Hlen.out; simp only [List.length_nil]; omega) ?_; intro v5 w5 ho hb hgr hat; rw [List.nil_append] at ho; have HV5 := Aside0.mk (Kd.S_after HV4.out hgr hat); obtain ⟨A5, k5, e5⟩ := Kd.R_slice ho; subst e5; have HO5 := Aside0.mk ho; have HG5 := Aside0.mk (blk_grown HG4.out hgr (Kd.R_ne HO4.out HG4.out (by decide))); have HU5 := Aside0.mk (HU4.out.trans (Upd.of_below hb (Nat.le_refl _) g _)); have c51 : w5.cell? ⟨g, 1, none⟩ = some (.slice A1 all.length k1) := (by rw [blk_cell HG5.out]; rfl); have c52 : w5.cell? ⟨g, 2, none⟩ = some (.int .i64 taken) := (by rw [blk_cell HG5.out]; rfl); have c53 : w5.cell? ⟨g, 3, none⟩ = some (.int .i64 0) := (by rw [blk_cell HG5.out]; rfl); have f51 : w5.frozen? ⟨g, 1, none⟩ = false := blk_frozen HG5.out 1; have f52 : w5.frozen? ⟨g, 2, none⟩ = false := blk_frozen HG5.out 2; have f53 : w5.frozen? ⟨g, 3, none⟩ = false := blk_frozen HG5.out 3; clear ho hb hgr hat)
      | go_quiet (fail))
    refine HRr.out _ _ _ (Kd.S_drewN (Kd.S_set (Kd.S_set HV5.out HG5.out (by decide) 1 (.slice A5 m.length k5)) (blk_put HG5.out 1 (.slice A5 m.length k5) rfl) (by decide) 2 (.int .i64 (taken + s2))) _) ?_ ?_ ?_
    · exact blk_drewN (blk_put (blk_put HG5.out 1 (.slice A5 m.length k5) rfl) 2 (.int .i64 (taken + s2)) rfl) _
    · rw [← Hm.out]
      exact Kd.R_drewN (Kd.R_mono (Kd.R_set (Kd.R_set HO5.out HG5.out (by decide) 1 (.slice A5 m.length k5)) (blk_put HG5.out 1 (.slice A5 m.length k5) rfl) (by decide) 2 (.int .i64 (taken + s2))) (fun _ _ => trivial)) _
    · exact ((HU5.out.trans (Upd.set _ _ g 1 (.slice A5 m.length k5) _)).trans (Upd.set _ _ g 2 (.int .i64 (taken + s2)) _)).trans (Upd.drewN _ _ _ _ _)
end Go.Proofs.Ytobgijpbfmpdaaa.Fd
