/- A disk's methods: what their closures do. -/
import Derived.Test.YtobgijpbfmpdaaaDk
import Derived.RegionTactic
import Derived.ChangeAlike
set_option linter.unusedVariables false
set_option linter.unusedSimpArgs false
set_option maxRecDepth 100000
namespace Go.Proofs.Ytobgijpbfmpdaaa.Dk
open Go.RowKit Go.Proofs.YtobgijpbfmpdaaaW.PrintWords Go.Proofs.YtobgijpbfmpdaaaW.PrintLast Go.Proofs.YtobgijpbfmpdaaaW.PrintMore
open Go.Proofs.Ytobgijpbfmpdaaa.Fm Go.Proofs.Ytobgijpbfmpdaaa.Mp
set_option maxHeartbeats 4000000
theorem zfile (W : World) : (zeroValue 175).run Try.prog W = .ok noFile W := by kernel_rfl
theorem append1 (ba bb bc g b n : Nat) (off : Bool) (fuse : Int) (F : List (Ky × Cont)) (S : Nat → Prop) (s : ByteArray) (A : Option Addr) (c : Nat) (x : List Int) (W : World) (D : Dsk W g b n off fuse F S)
    (h1 : W.cell? ⟨ba, 0, none⟩ = some (.pointer (some ⟨g, 0, none⟩))) (h2 : W.cell? ⟨bb, 0, none⟩ = some (.string s)) (h3 : W.cell? ⟨bc, 0, none⟩ = some (.slice A x.length c)) (hC : Kd.C (Kd.int .u8) W A x.length x) (hs : s.size ≤ maxLen)
    (hn : n < maxLen) (hfresh : ∀ k, W.heap.size ≤ k → S k) (hl : ((Mp.get F s.data.toList).getD ([], 0)).1.length + x.length ≤ 1000000) :
    Calls Try.prog 118 #[.pointer (some ⟨ba, 0, none⟩), .pointer (some ⟨bb, 0, none⟩), .pointer (some ⟨bc, 0, none⟩)] W fun e W' => e = .returned (.tuple #[]) ∧
      Dsk W' g b (n + 1) off fuse (put F s.data.toList (((Mp.get F s.data.toList).getD ([], 0)).1 ++ x, ((Mp.get F s.data.toList).getD ([], 0)).2)) S ∧ Kb (fun k => k = b) W W' := by
  have c0 : W.cell? ⟨g, 0, none⟩ = some (.map (some b)) := by rw [blk_cell D.hg]; rfl
  obtain ⟨vs, hO, hF⟩ := D.hm
  obtain ⟨⟨Af, cf, hv, hcf, hFf⟩, _⟩ := hF.get s.data.toList
  obtain ⟨cur, hcur⟩ : ∃ cur, cur = (Mp.get F s.data.toList).getD ([], 0) := ⟨_, rfl⟩
  rw [← hcur] at hv hcf hFf hl ⊢
  obtain ⟨xs, last⟩ := cur
  dsimp only at hv hcf hFf hl ⊢
  have hl1 : (Instr.lookup 108 (.map (some b)) (.string s) false).run Try.prog W.drew = .ok (.agg #[.slice Af xs.length cf, .int .i64 last]) W.drew := by
    rw [← hv]; exact get_run 108 175 noFile Try.underlying108 zfile (hO.kb (Kb.drewN (fun _ => False) W 1) id) s hs
  have hl2 : ∀ o : Obj, (Instr.lookup 108 (.map (some b)) (.string s) false).run Try.prog (W.alloc o).drew = .ok (.agg #[.slice Af xs.length cf, .int .i64 last]) (W.alloc o).drew := fun o => by
    rw [← hv]; exact get_run 108 175 noFile Try.underlying108 zfile (hO.kb (Kb.of_below (fun _ => False) (below_drew (below_alloc (Below.refl _ _) o))) id) s hs
  have HO := Aside0.mk hO
  have HF := Aside0.mk hF
  have HD := Aside0.mk D
  have HFf := Aside0.mk hFf
  have Hcf := Aside0.mk hcf
  obtain ⟨ys, hys⟩ : ∃ ys, ys = xs ++ x := ⟨_, rfl⟩
  rw [← hys]
  have Hys := Aside0.mk hys
  clear hys
  have HC := Aside0.mk hC
  have Hfr := Aside0.mk hfresh
  have Hl := Aside0.mk hl
  have l1 := World.block_lt_of_cell? W ⟨ba, 0, none⟩ h1
  have l2 := World.block_lt_of_cell? W ⟨bb, 0, none⟩ h2
  have l3 := World.block_lt_of_cell? W ⟨bc, 0, none⟩ h3
  have l4 := World.block_lt_of_cell? W ⟨g, 0, none⟩ c0
  dsimp only at l1 l2 l3 l4
  clear D hO hF hFf hC hfresh hl hcf hcur hv
  go_enter Try.func118, Try.ntmps118
  go_wp2
  go_region
  obtain ⟨w1, hw1⟩ : ∃ w1, w1 = (W.alloc (.cells #[.slice Af xs.length cf, .int .i64 last] 175)).drew := ⟨_, rfl⟩
  obtain ⟨q, hq⟩ : ∃ q, q = W.heap.size := ⟨_, rfl⟩
  rw [← hw1, ← hq]
  have HB1 : Aside0 (Below W.heap.size W w1) := ⟨by rw [hw1]; exact below_drew (below_alloc (Below.refl _ _) _)⟩
  have HQ1 : Aside0 (w1.drew.heap[q]? = some (.cells #[.slice Af xs.length cf, .int .i64 last] 175 (0, 0))) := ⟨by rw [hw1, hq]; exact blk_new W _⟩
  have HB1d : Aside0 (Below W.heap.size W w1.drew) := ⟨below_drew HB1.out⟩
  have HF1 : Aside0 (Kd.F (Kd.int .u8) w1.drew (fun k => S k ∧ k ≠ q) Af xs.length xs) := ⟨Kd.F_mono (Kd.F_old HFf.out HB1d.out) (fun k hk => ⟨hk.1, by have := hk.2; omega⟩)⟩
  have HC1 : Aside0 (Kd.C (Kd.int .u8) w1.drew A x.length x) := ⟨Kd.C_below HC.out HB1d.out⟩
  have cq1 : w1.drew.cell? ⟨q, 0, none⟩ = some (.slice Af xs.length cf) := by rw [blk_cell HQ1.out]; rfl
  have Hq := Aside0.mk hq
  clear hw1 hq hl1 hl2
  go_wp2
  refine start_ (n := 7) (S := fun w' => w'.cell? ⟨q, 0, none⟩ = some (.slice Af xs.length cf) ∧ w'.cell? ⟨bc, 0, none⟩ = some (.slice A x.length c)) (ds := [6]) #[false, false, false, false, false, false, false] (by kernel_rfl) rfl rfl ⟨cq1, pw_cell_below HB1d.out h3⟩ (fun hHeld => ?_)
  refine pure_ (i := 0) (N := some 10) (v := ?_) (a' := ?_) #[true, false, false, false, false, false, false] rfl rfl (by kernel_rfl) (fun _ _ _ h => h) (Or.inl ⟨by rfl, ?_⟩) ?_ ?_
  rotate_left
  · intro w'
    go_simp
    with_reducible rfl
  rotate_left
  · simp only [Act.put, List.setIfInBounds_toArray, List.set_cons_zero, List.set_cons_succ, i64_w, i32_w]
    rfl
  refine take_ (i := 1) (N := some 11) (v := ?_) (a' := ?_) #[true, true, false, false, false, false, false] rfl rfl (by kernel_rfl) (fun _ _ _ h => h) (Or.inl ⟨by rfl, ?_⟩) hHeld ?_ ?_
  rotate_left
  · intro w' hS_
    obtain ⟨s0_, s1_⟩ := hS_
    go_simp
    with_reducible rfl
  rotate_left
  · simp only [Act.put, List.setIfInBounds_toArray, List.set_cons_zero, List.set_cons_succ, i64_w, i32_w]
    rfl
  refine take_ (i := 3) (N := some 13) (v := ?_) (a' := ?_) #[true, true, false, true, false, false, false] rfl rfl (by kernel_rfl) (fun _ _ _ h => h) (Or.inl ⟨by rfl, ?_⟩) hHeld ?_ ?_
  rotate_left
  · intro w' hS_
    obtain ⟨s0_, s1_⟩ := hS_
    go_simp
    with_reducible rfl
  rotate_left
  · simp only [Act.put, List.setIfInBounds_toArray, List.set_cons_zero, List.set_cons_succ, i64_w, i32_w]
    rfl
  refine one_ (i := 2) (N := some 12) #[true, true, true, true, false, false, false] rfl rfl (by kernel_rfl) (by decide) (fun K hK => ?_)
  refine goes_ Try.func119 (by kernel_rfl) rfl #[.slice Af xs.length cf] (by rfl) rfl rfl (by (try simp only [List.map_toArray, List.map_cons, List.map_nil]); first | done | rfl) ?_
  refine (clip Af xs.length cf Hcf.out _).mono ?_
  rintro e _ ⟨rfl, rfl⟩
  refine ⟨_, rfl, ?_⟩
  refine hK.out _ _ hHeld (fun hHeld => ?_)
  clear hK K
  refine norm_ (a' := ?_) ?_ ?_
  rotate_left
  · show Act.put _ (some 12) _ = _
    simp only [Act.put, List.setIfInBounds_toArray, List.set_cons_zero, List.set_cons_succ, i64_w, i32_w]
    rfl
  refine one_ (i := 4) (N := some 14) #[true, true, true, true, true, false, false] rfl rfl (by kernel_rfl) (by decide) (fun K hK => ?_)
  obtain ⟨A', c', w2, hrun, hb2, hc', hF2⟩ := app_run 22 Af xs HF1.out A c x HC1.out (fun k hk => ⟨Hfr.out k (Nat.le_trans HB1d.out.size hk), fun e => by have := blk_lt HQ1.out; omega⟩) Hl.out
  rw [← Hys.out] at hrun hc' hF2
  refine app_step (by rfl) (.tmp 12) (.tmp 13) _ rfl rfl rfl hrun ?_
  refine hK.out _ _ ⟨pw_cell_below hb2 hHeld.1, pw_cell_below hb2 hHeld.2⟩ (fun hHeld => ?_)
  clear hK K hrun
  refine norm_ (a' := ?_) ?_ ?_
  rotate_left
  · show Act.put _ (some 14) _ = _
    simp only [Act.put, List.setIfInBounds_toArray, List.set_cons_zero, List.set_cons_succ, i64_w, i32_w]
    rfl
  refine pure_ (i := 5) (N := some 15) (v := ?_) (a' := ?_) #[true, true, true, true, true, true, false] rfl rfl (by kernel_rfl) (fun _ _ _ h => h) (Or.inl ⟨by rfl, ?_⟩) ?_ ?_
  rotate_left
  · intro w'
    go_simp
    with_reducible rfl
  rotate_left
  · simp only [Act.put, List.setIfInBounds_toArray, List.set_cons_zero, List.set_cons_succ, i64_w, i32_w]
    rfl
  refine last_ (i := 6) (N := none) #[true, true, true, true, true, true, true] rfl rfl (by kernel_rfl) (by decide) (fun K hK => ?_)
  have hq2 := blk_below HQ1.out hb2
  have fq2 : w2.frozen? ⟨q, 0, none⟩ = false := blk_frozen hq2 0
  have cq2 := hHeld.1
  refine skip_ (by rfl) rfl (by go_simp; rfl) ?_
  refine hK.out _ _ ?_
  clear hK K
  refine done_ (by kernel_rfl) ?_
  go_wp2
  obtain ⟨w3, hw3⟩ : ∃ w3, w3 = w2.setCell ⟨q, 0, none⟩ (.slice A' ys.length c') := ⟨_, rfl⟩
  rw [← hw3]
  have hq3 : w3.heap[q]? = some (.cells #[.slice A' ys.length c', .int .i64 last] 175 (0, 0)) := by rw [hw3]; exact blk_put hq2 0 _ rfl
  have hk3 : Kb (fun k => k = q) w2 w3 := by rw [hw3]; exact Kb.set _ _ _ _ rfl
  have hB2 : Below W.heap.size W w2 := below_step HB1d.out hb2
  have hB3 : Below W.heap.size W w3 := hB2.trans (hk3.to_below hB2.size (fun k e => by rw [e, Hq.out]; exact Nat.le_refl _))
  have hB3d : Below W.heap.size W w3.drew := below_drew hB3
  have hO3 : Own w3.drew b n vs := HO.out.kb (Kb.of_below (fun _ => False) hB3d) id
  obtain ⟨w4, hrun3, hO4, hk4⟩ := put_run 108 175 Try.underlying108 hO3 hn s hs (.agg #[.slice A' ys.length c', .int .i64 last])
  have k1 : w3.drew.cell? ⟨ba, 0, none⟩ = some (.pointer (some ⟨g, 0, none⟩)) := pw_cell_below hB3d h1
  have k2 : w3.drew.cell? ⟨g, 0, none⟩ = some (.map (some b)) := pw_cell_below hB3d c0
  have k3 : w3.drew.cell? ⟨bb, 0, none⟩ = some (.string s) := pw_cell_below hB3d h2
  have k4 : w3.drew.cell? ⟨q, 0, none⟩ = some (.slice A' ys.length c') := by rw [show w3.drew.cell? ⟨q, 0, none⟩ = w3.cell? ⟨q, 0, none⟩ from rfl, blk_cell hq3]; rfl
  have k5 : w3.drew.cell? ⟨q, 1, none⟩ = some (.int .i64 last) := by rw [show w3.drew.cell? ⟨q, 1, none⟩ = w3.cell? ⟨q, 1, none⟩ from rfl, blk_cell hq3]; rfl
  refine start_ (n := 7) (S := fun w' => w'.cell? ⟨ba, 0, none⟩ = some (.pointer (some ⟨g, 0, none⟩)) ∧ w'.cell? ⟨g, 0, none⟩ = some (.map (some b)) ∧ w'.cell? ⟨bb, 0, none⟩ = some (.string s) ∧ w'.cell? ⟨q, 0, none⟩ = some (.slice A' ys.length c') ∧ w'.cell? ⟨q, 1, none⟩ = some (.int .i64 last)) (ds := [6]) #[false, false, false, false, false, false, false] (by kernel_rfl) rfl rfl ⟨k1, k2, k3, k4, k5⟩ (fun hHeld => ?_)
  refine take_ (i := 0) (N := some 16) (v := ?_) (a' := ?_) #[true, false, false, false, false, false, false] rfl rfl (by kernel_rfl) (fun _ _ _ h => h) (Or.inl ⟨by rfl, ?_⟩) hHeld ?_ ?_
  rotate_left
  · intro w' hS_
    obtain ⟨s0_, s1_, s2_, s3_, s4_⟩ := hS_
    go_simp
    with_reducible rfl
  rotate_left
  · simp only [Act.put, List.setIfInBounds_toArray, List.set_cons_zero, List.set_cons_succ, i64_w, i32_w]
    rfl
  refine pure_ (i := 1) (N := some 17) (v := ?_) (a' := ?_) #[true, true, false, false, false, false, false] rfl rfl (by kernel_rfl) (fun _ _ _ h => h) (Or.inl ⟨by rfl, ?_⟩) ?_ ?_
  rotate_left
  · intro w'
    go_simp
    with_reducible rfl
  rotate_left
  · simp only [Act.put, List.setIfInBounds_toArray, List.set_cons_zero, List.set_cons_succ, i64_w, i32_w]
    rfl
  refine pure_ (i := 2) (N := some 18) (v := ?_) (a' := ?_) #[true, true, true, false, false, false, false] rfl rfl (by kernel_rfl) (fun _ _ _ h => h) (Or.inl ⟨by rfl, ?_⟩) ?_ ?_
  rotate_left
  · intro w'
    go_simp
    with_reducible rfl
  rotate_left
  · simp only [Act.put, List.setIfInBounds_toArray, List.set_cons_zero, List.set_cons_succ, i64_w, i32_w]
    rfl
  refine take_ (i := 3) (N := some 19) (v := ?_) (a' := ?_) #[true, true, true, true, false, false, false] rfl rfl (by kernel_rfl) (fun _ _ _ h => h) (Or.inl ⟨by rfl, ?_⟩) hHeld ?_ ?_
  rotate_left
  · intro w' hS_
    obtain ⟨s0_, s1_, s2_, s3_, s4_⟩ := hS_
    go_simp
    with_reducible rfl
  rotate_left
  · simp only [Act.put, List.setIfInBounds_toArray, List.set_cons_zero, List.set_cons_succ, i64_w, i32_w]
    rfl
  refine take_ (i := 4) (N := some 20) (v := ?_) (a' := ?_) #[true, true, true, true, true, false, false] rfl rfl (by kernel_rfl) (fun _ _ _ h => h) (Or.inl ⟨by rfl, ?_⟩) hHeld ?_ ?_
  rotate_left
  · intro w' hS_
    obtain ⟨s0_, s1_, s2_, s3_, s4_⟩ := hS_
    go_simp
    with_reducible rfl
  rotate_left
  · simp only [Act.put, List.setIfInBounds_toArray, List.set_cons_zero, List.set_cons_succ, i64_w, i32_w]
    rfl
  refine take_ (i := 5) (N := some 21) (v := ?_) (a' := ?_) #[true, true, true, true, true, true, false] rfl rfl (by kernel_rfl) (fun _ _ _ h => h) (Or.inl ⟨by rfl, ?_⟩) hHeld ?_ ?_
  rotate_left
  · intro w' hS_
    obtain ⟨s0_, s1_, s2_, s3_, s4_⟩ := hS_
    go_simp
    with_reducible rfl
  rotate_left
  · simp only [Act.put, List.setIfInBounds_toArray, List.set_cons_zero, List.set_cons_succ, i64_w, i32_w]
    rfl
  refine last_ (i := 6) (N := none) #[true, true, true, true, true, true, true] rfl rfl (by kernel_rfl) (by decide) (fun K hK => ?_)
  refine put_step (by rfl) rfl (.tmp 19) (.tmp 20) (.tmp 21) 108 rfl rfl rfl rfl hrun3 ?_
  refine hK.out _ _ ?_
  clear hK K
  refine done_ (by kernel_rfl) ?_
  go_wp2
  go_end0
  have hkT : Kb (fun k => k = b) W w4 := (Kb.of_below _ hB3d).trans hk4
  have hD := HD.out
  refine ⟨rfl, ⟨hkT.blk hD.hg hD.gb, ⟨_, hO4, (HF.out.imp fun v c hv => hv.step fun k hS hlt => hkT.block k hlt (hD.hS k hS).2).put s.data.toList ⟨A', c', rfl, hc', ?_⟩⟩, hD.hS⟩, hkT⟩
  have h5 : Kd.F (Kd.int .u8) w3.drew (fun k => S k ∧ k ≠ q) A' ys.length ys := Kd.F_drew (Kd.F_step hF2 (fun k hS hlt => hk3.block k hlt hS.2))
  exact Kd.F_mono (Kd.F_step h5 (fun k hS hlt => hk4.block k hlt (hD.hS k hS.1).2)) (fun k hk => hk.1)
theorem sync1 (ba bb g b n : Nat) (off : Bool) (fuse : Int) (F : List (Ky × Cont)) (S : Nat → Prop) (s : ByteArray) (W : World) (D : Dsk W g b n off fuse F S)
    (h1 : W.cell? ⟨ba, 0, none⟩ = some (.pointer (some ⟨g, 0, none⟩))) (h2 : W.cell? ⟨bb, 0, none⟩ = some (.string s)) (hs : s.size ≤ maxLen) (hn : n < maxLen) :
    Calls Try.prog 121 #[.pointer (some ⟨ba, 0, none⟩), .pointer (some ⟨bb, 0, none⟩)] W fun e W' => e = .returned (.tuple #[]) ∧
      Dsk W' g b (n + 1) off fuse (put F s.data.toList (((Mp.get F s.data.toList).getD ([], 0)).1, ((Mp.get F s.data.toList).getD ([], 0)).1.length)) S ∧ Kb (fun k => k = b) W W' := by
  have c0 : W.cell? ⟨g, 0, none⟩ = some (.map (some b)) := by rw [blk_cell D.hg]; rfl
  obtain ⟨vs, hO, hF⟩ := D.hm
  obtain ⟨⟨Af, cf, hv, hcf, hFf⟩, _⟩ := hF.get s.data.toList
  obtain ⟨cur, hcur⟩ : ∃ cur, cur = (Mp.get F s.data.toList).getD ([], 0) := ⟨_, rfl⟩
  rw [← hcur] at hv hcf hFf ⊢
  obtain ⟨xs, last⟩ := cur
  dsimp only at hv hcf hFf ⊢
  have hl1 : (Instr.lookup 108 (.map (some b)) (.string s) false).run Try.prog W.drew = .ok (.agg #[.slice Af xs.length cf, .int .i64 last]) W.drew := by
    rw [← hv]; exact get_run 108 175 noFile Try.underlying108 zfile (hO.kb (Kb.drewN (fun _ => False) W 1) id) s hs
  have hl2 : ∀ o : Obj, (Instr.lookup 108 (.map (some b)) (.string s) false).run Try.prog (W.alloc o).drew = .ok (.agg #[.slice Af xs.length cf, .int .i64 last]) (W.alloc o).drew := fun o => by
    rw [← hv]; exact get_run 108 175 noFile Try.underlying108 zfile (hO.kb (Kb.of_below (fun _ => False) (below_drew (below_alloc (Below.refl _ _) o))) id) s hs
  have HO := Aside0.mk hO
  have HF := Aside0.mk hF
  have HD := Aside0.mk D
  have HFf := Aside0.mk hFf
  have Hcf := Aside0.mk hcf
  have l1 := World.block_lt_of_cell? W ⟨ba, 0, none⟩ h1
  have l2 := World.block_lt_of_cell? W ⟨bb, 0, none⟩ h2
  have l4 := World.block_lt_of_cell? W ⟨g, 0, none⟩ c0
  dsimp only at l1 l2 l4
  clear D hO hF hFf hcf hcur hv
  go_enter Try.func121, Try.ntmps121
  go_wp2
  go_region
  obtain ⟨w1, hw1⟩ : ∃ w1, w1 = (W.alloc (.cells #[.slice Af xs.length cf, .int .i64 last] 175)).drew := ⟨_, rfl⟩
  obtain ⟨q, hq⟩ : ∃ q, q = W.heap.size := ⟨_, rfl⟩
  rw [← hw1, ← hq]
  have HB1 : Below W.heap.size W w1 := by rw [hw1]; exact below_drew (below_alloc (Below.refl _ _) _)
  have hq1 : w1.heap[q]? = some (.cells #[.slice Af xs.length cf, .int .i64 last] 175 (0, 0)) := by rw [hw1, hq]; exact blk_new W _
  have HQ1 := Aside0.mk hq1
  have HB1' := Aside0.mk HB1
  have Hq := Aside0.mk hq
  have cq1 : w1.cell? ⟨q, 0, none⟩ = some (.slice Af xs.length cf) := by rw [blk_cell hq1]; rfl
  have cq1' : w1.cell? ⟨q, 1, none⟩ = some (.int .i64 last) := by rw [blk_cell hq1]; rfl
  have fq1 : w1.frozen? ⟨q, 1, none⟩ = false := blk_frozen hq1 1
  clear hw1 hq hl1 hl2 hq1 HB1
  go_wp2
  obtain ⟨w3, hw3⟩ : ∃ w3, w3 = w1.setCell ⟨q, 1, none⟩ (.int .i64 xs.length) := ⟨_, rfl⟩
  rw [← hw3]
  have hq3 : w3.heap[q]? = some (.cells #[.slice Af xs.length cf, .int .i64 xs.length] 175 (0, 0)) := by rw [hw3]; exact blk_put HQ1.out 1 _ rfl
  have hk3 : Kb (fun k => k = q) w1 w3 := by rw [hw3]; exact Kb.set _ _ _ _ rfl
  have hB3 : Below W.heap.size W w3 := HB1'.out.trans (hk3.to_below HB1'.out.size (fun k e => by rw [e, Hq.out]; exact Nat.le_refl _))
  have hB3d : Below W.heap.size W w3.drew := below_drew hB3
  have hO3 : Own w3.drew b n vs := HO.out.kb (Kb.of_below (fun _ => False) hB3d) id
  obtain ⟨w4, hrun3, hO4, hk4⟩ := put_run 108 175 Try.underlying108 hO3 hn s hs (.agg #[.slice Af xs.length cf, .int .i64 xs.length])
  have k1 : w3.drew.cell? ⟨ba, 0, none⟩ = some (.pointer (some ⟨g, 0, none⟩)) := pw_cell_below hB3d h1
  have k2 : w3.drew.cell? ⟨g, 0, none⟩ = some (.map (some b)) := pw_cell_below hB3d c0
  have k3 : w3.drew.cell? ⟨bb, 0, none⟩ = some (.string s) := pw_cell_below hB3d h2
  have k4 : w3.drew.cell? ⟨q, 0, none⟩ = some (.slice Af xs.length cf) := by rw [show w3.drew.cell? ⟨q, 0, none⟩ = w3.cell? ⟨q, 0, none⟩ from rfl, blk_cell hq3]; rfl
  have k5 : w3.drew.cell? ⟨q, 1, none⟩ = some (.int .i64 xs.length) := by rw [show w3.drew.cell? ⟨q, 1, none⟩ = w3.cell? ⟨q, 1, none⟩ from rfl, blk_cell hq3]; rfl
  refine start_ (n := 7) (S := fun w' => w'.cell? ⟨ba, 0, none⟩ = some (.pointer (some ⟨g, 0, none⟩)) ∧ w'.cell? ⟨g, 0, none⟩ = some (.map (some b)) ∧ w'.cell? ⟨bb, 0, none⟩ = some (.string s) ∧ w'.cell? ⟨q, 0, none⟩ = some (.slice Af xs.length cf) ∧ w'.cell? ⟨q, 1, none⟩ = some (.int .i64 xs.length)) (ds := [6]) #[false, false, false, false, false, false, false] (by kernel_rfl) rfl rfl ⟨k1, k2, k3, k4, k5⟩ (fun hHeld => ?_)
  refine take_ (i := 0) (N := some 13) (v := ?_) (a' := ?_) #[true, false, false, false, false, false, false] rfl rfl (by kernel_rfl) (fun _ _ _ h => h) (Or.inl ⟨by rfl, ?_⟩) hHeld ?_ ?_
  rotate_left
  · intro w' hS_
    obtain ⟨s0_, s1_, s2_, s3_, s4_⟩ := hS_
    go_simp
    with_reducible rfl
  rotate_left
  · simp only [Act.put, List.setIfInBounds_toArray, List.set_cons_zero, List.set_cons_succ, i64_w, i32_w]
    rfl
  refine pure_ (i := 1) (N := some 14) (v := ?_) (a' := ?_) #[true, true, false, false, false, false, false] rfl rfl (by kernel_rfl) (fun _ _ _ h => h) (Or.inl ⟨by rfl, ?_⟩) ?_ ?_
  rotate_left
  · intro w'
    go_simp
    with_reducible rfl
  rotate_left
  · simp only [Act.put, List.setIfInBounds_toArray, List.set_cons_zero, List.set_cons_succ, i64_w, i32_w]
    rfl
  refine pure_ (i := 2) (N := some 15) (v := ?_) (a' := ?_) #[true, true, true, false, false, false, false] rfl rfl (by kernel_rfl) (fun _ _ _ h => h) (Or.inl ⟨by rfl, ?_⟩) ?_ ?_
  rotate_left
  · intro w'
    go_simp
    with_reducible rfl
  rotate_left
  · simp only [Act.put, List.setIfInBounds_toArray, List.set_cons_zero, List.set_cons_succ, i64_w, i32_w]
    rfl
  refine take_ (i := 3) (N := some 16) (v := ?_) (a' := ?_) #[true, true, true, true, false, false, false] rfl rfl (by kernel_rfl) (fun _ _ _ h => h) (Or.inl ⟨by rfl, ?_⟩) hHeld ?_ ?_
  rotate_left
  · intro w' hS_
    obtain ⟨s0_, s1_, s2_, s3_, s4_⟩ := hS_
    go_simp
    with_reducible rfl
  rotate_left
  · simp only [Act.put, List.setIfInBounds_toArray, List.set_cons_zero, List.set_cons_succ, i64_w, i32_w]
    rfl
  refine take_ (i := 4) (N := some 17) (v := ?_) (a' := ?_) #[true, true, true, true, true, false, false] rfl rfl (by kernel_rfl) (fun _ _ _ h => h) (Or.inl ⟨by rfl, ?_⟩) hHeld ?_ ?_
  rotate_left
  · intro w' hS_
    obtain ⟨s0_, s1_, s2_, s3_, s4_⟩ := hS_
    go_simp
    with_reducible rfl
  rotate_left
  · simp only [Act.put, List.setIfInBounds_toArray, List.set_cons_zero, List.set_cons_succ, i64_w, i32_w]
    rfl
  refine take_ (i := 5) (N := some 18) (v := ?_) (a' := ?_) #[true, true, true, true, true, true, false] rfl rfl (by kernel_rfl) (fun _ _ _ h => h) (Or.inl ⟨by rfl, ?_⟩) hHeld ?_ ?_
  rotate_left
  · intro w' hS_
    obtain ⟨s0_, s1_, s2_, s3_, s4_⟩ := hS_
    go_simp
    with_reducible rfl
  rotate_left
  · simp only [Act.put, List.setIfInBounds_toArray, List.set_cons_zero, List.set_cons_succ, i64_w, i32_w]
    rfl
  refine last_ (i := 6) (N := none) #[true, true, true, true, true, true, true] rfl rfl (by kernel_rfl) (by decide) (fun K hK => ?_)
  refine put_step (by rfl) rfl (.tmp 16) (.tmp 17) (.tmp 18) 108 rfl rfl rfl rfl hrun3 ?_
  refine hK.out _ _ ?_
  clear hK K
  refine done_ (by kernel_rfl) ?_
  go_wp2
  go_end0
  have hkT : Kb (fun k => k = b) W w4 := (Kb.of_below _ hB3d).trans hk4
  have hD := HD.out
  exact ⟨rfl, ⟨hkT.blk hD.hg hD.gb, ⟨_, hO4, (HF.out.imp fun v c hv => hv.step fun k hS hlt => hkT.block k hlt (hD.hS k hS).2).put s.data.toList ⟨Af, cf, rfl, Hcf.out, Kd.F_step HFf.out (fun k hS hlt => hkT.block k hlt (hD.hS k hS).2)⟩⟩, hD.hS⟩, hkT⟩
theorem remove1 (ba bb g b n : Nat) (off : Bool) (fuse : Int) (F : List (Ky × Cont)) (S : Nat → Prop) (s : ByteArray) (W : World) (D : Dsk W g b n off fuse F S)
    (h1 : W.cell? ⟨ba, 0, none⟩ = some (.pointer (some ⟨g, 0, none⟩))) (h2 : W.cell? ⟨bb, 0, none⟩ = some (.string s)) (hs : s.size ≤ maxLen) :
    Calls Try.prog 126 #[.pointer (some ⟨ba, 0, none⟩), .pointer (some ⟨bb, 0, none⟩)] W fun e W' => e = .returned (.tuple #[]) ∧
      Dsk W' g b n off fuse (Mp.del F s.data.toList) S ∧ Kb (fun k => k = b) W W' := by
  have c0 : W.cell? ⟨g, 0, none⟩ = some (.map (some b)) := by rw [blk_cell D.hg]; rfl
  obtain ⟨vs, hO, hF⟩ := D.hm
  have HOd : Aside0 (Own W.drew b n vs) := ⟨hO.kb (Kb.drewN (fun _ => False) W 1) id⟩
  have HF := Aside0.mk hF
  have HD := Aside0.mk D
  have k1 : W.drew.cell? ⟨ba, 0, none⟩ = some (.pointer (some ⟨g, 0, none⟩)) := h1
  have k2 : W.drew.cell? ⟨g, 0, none⟩ = some (.map (some b)) := c0
  have k3 : W.drew.cell? ⟨bb, 0, none⟩ = some (.string s) := h2
  clear D hO hF
  go_enter Try.func126, Try.ntmps126
  go_wp2
  refine start_ (n := 6) (S := fun w' => w'.cell? ⟨ba, 0, none⟩ = some (.pointer (some ⟨g, 0, none⟩)) ∧ w'.cell? ⟨g, 0, none⟩ = some (.map (some b)) ∧ w'.cell? ⟨bb, 0, none⟩ = some (.string s)) (ds := [5]) #[false, false, false, false, false, false] (by kernel_rfl) rfl rfl ⟨k1, k2, k3⟩ (fun hHeld => ?_)
  refine take_ (i := 0) (N := some 2) (v := ?_) (a' := ?_) #[true, false, false, false, false, false] rfl rfl (by kernel_rfl) (fun _ _ _ h => h) (Or.inl ⟨by rfl, ?_⟩) hHeld ?_ ?_
  rotate_left
  · intro w' hS_
    obtain ⟨s0_, s1_, s2_⟩ := hS_
    go_simp
    with_reducible rfl
  rotate_left
  · simp only [Act.put, List.setIfInBounds_toArray, List.set_cons_zero, List.set_cons_succ, i64_w, i32_w]
    rfl
  refine pure_ (i := 1) (N := some 3) (v := ?_) (a' := ?_) #[true, true, false, false, false, false] rfl rfl (by kernel_rfl) (fun _ _ _ h => h) (Or.inl ⟨by rfl, ?_⟩) ?_ ?_
  rotate_left
  · intro w'
    go_simp
    with_reducible rfl
  rotate_left
  · simp only [Act.put, List.setIfInBounds_toArray, List.set_cons_zero, List.set_cons_succ, i64_w, i32_w]
    rfl
  refine pure_ (i := 2) (N := some 4) (v := ?_) (a' := ?_) #[true, true, true, false, false, false] rfl rfl (by kernel_rfl) (fun _ _ _ h => h) (Or.inl ⟨by rfl, ?_⟩) ?_ ?_
  rotate_left
  · intro w'
    go_simp
    with_reducible rfl
  rotate_left
  · simp only [Act.put, List.setIfInBounds_toArray, List.set_cons_zero, List.set_cons_succ, i64_w, i32_w]
    rfl
  refine take_ (i := 3) (N := some 5) (v := ?_) (a' := ?_) #[true, true, true, true, false, false] rfl rfl (by kernel_rfl) (fun _ _ _ h => h) (Or.inl ⟨by rfl, ?_⟩) hHeld ?_ ?_
  rotate_left
  · intro w' hS_
    obtain ⟨s0_, s1_, s2_⟩ := hS_
    go_simp
    with_reducible rfl
  rotate_left
  · simp only [Act.put, List.setIfInBounds_toArray, List.set_cons_zero, List.set_cons_succ, i64_w, i32_w]
    rfl
  refine take_ (i := 4) (N := some 6) (v := ?_) (a' := ?_) #[true, true, true, true, true, false] rfl rfl (by kernel_rfl) (fun _ _ _ h => h) (Or.inl ⟨by rfl, ?_⟩) hHeld ?_ ?_
  rotate_left
  · intro w' hS_
    obtain ⟨s0_, s1_, s2_⟩ := hS_
    go_simp
    with_reducible rfl
  rotate_left
  · simp only [Act.put, List.setIfInBounds_toArray, List.set_cons_zero, List.set_cons_succ, i64_w, i32_w]
    rfl
  refine last_ (i := 5) (N := none) #[true, true, true, true, true, true] rfl rfl (by kernel_rfl) (by decide) (fun K hK => ?_)
  refine del_step (by rfl) rfl (.tmp 5) (.tmp 6) 108 175 rfl Try.underlying108 rfl HOd.out s rfl hs ?_
  intro w4 hO4 hk4
  refine hK.out _ _ ?_
  clear hK K
  refine done_ (by kernel_rfl) ?_
  go_wp2
  go_end0
  have hkT : Kb (fun k => k = b) W w4 := (Kb.drewN _ W 1).trans hk4
  have hD := HD.out
  exact ⟨rfl, ⟨hkT.blk hD.hg hD.gb, ⟨_, hO4, (HF.out.imp fun v c hv => hv.step fun k hS hlt => hkT.block k hlt (hD.hS k hS).2).del s.data.toList⟩, hD.hS⟩, hkT⟩
theorem rename1 (ba bb bc g b n : Nat) (off : Bool) (fuse : Int) (F : List (Ky × Cont)) (S : Nat → Prop) (s t : ByteArray) (W : World) (D : Dsk W g b n off fuse F S)
    (h1 : W.cell? ⟨ba, 0, none⟩ = some (.pointer (some ⟨g, 0, none⟩))) (h2 : W.cell? ⟨bb, 0, none⟩ = some (.string s)) (h3 : W.cell? ⟨bc, 0, none⟩ = some (.string t)) (hs : s.size ≤ maxLen) (ht : t.size ≤ maxLen) (hn : n < maxLen) :
    Calls Try.prog 134 #[.pointer (some ⟨ba, 0, none⟩), .pointer (some ⟨bb, 0, none⟩), .pointer (some ⟨bc, 0, none⟩)] W fun e W' => e = .returned (.tuple #[]) ∧
      Dsk W' g b (n + 1) off fuse (put (Mp.del F s.data.toList) t.data.toList ((Mp.get F s.data.toList).getD ([], 0))) S ∧ Kb (fun k => k = b) W W' := by
  have c0 : W.cell? ⟨g, 0, none⟩ = some (.map (some b)) := by rw [blk_cell D.hg]; rfl
  obtain ⟨vs, hO, hF⟩ := D.hm
  obtain ⟨⟨Af, cf, hv, hcf, hFf⟩, _⟩ := hF.get s.data.toList
  obtain ⟨cur, hcur⟩ : ∃ cur, cur = (Mp.get F s.data.toList).getD ([], 0) := ⟨_, rfl⟩
  rw [← hcur] at hv hcf hFf ⊢
  obtain ⟨xs, last⟩ := cur
  dsimp only at hv hcf hFf ⊢
  have hl1 : (Instr.lookup 108 (.map (some b)) (.string s) false).run Try.prog W.drew = .ok (.agg #[.slice Af xs.length cf, .int .i64 last]) W.drew := by
    rw [← hv]; exact get_run 108 175 noFile Try.underlying108 zfile (hO.kb (Kb.drewN (fun _ => False) W 1) id) s hs
  have hl2 : ∀ o : Obj, (Instr.lookup 108 (.map (some b)) (.string s) false).run Try.prog (W.alloc o).drew = .ok (.agg #[.slice Af xs.length cf, .int .i64 last]) (W.alloc o).drew := fun o => by
    rw [← hv]; exact get_run 108 175 noFile Try.underlying108 zfile (hO.kb (Kb.of_below (fun _ => False) (below_drew (below_alloc (Below.refl _ _) o))) id) s hs
  have HO := Aside0.mk hO
  have HF := Aside0.mk hF
  have HD := Aside0.mk D
  have HFf := Aside0.mk hFf
  have Hcf := Aside0.mk hcf
  have l1 := World.block_lt_of_cell? W ⟨ba, 0, none⟩ h1
  have l2 := World.block_lt_of_cell? W ⟨bb, 0, none⟩ h2
  have l4 := World.block_lt_of_cell? W ⟨g, 0, none⟩ c0
  have l3 := World.block_lt_of_cell? W ⟨bc, 0, none⟩ h3
  dsimp only at l1 l2 l3 l4
  clear D hO hF hFf hcf hcur hv
  go_enter Try.func134, Try.ntmps134
  go_wp2
  go_region
  obtain ⟨w1, hw1⟩ : ∃ w1, w1 = (W.alloc (.cells #[.slice Af xs.length cf, .int .i64 last] 175)).drew := ⟨_, rfl⟩
  obtain ⟨q, hq⟩ : ∃ q, q = W.heap.size := ⟨_, rfl⟩
  rw [← hw1, ← hq]
  have HB1 : Below W.heap.size W w1 := by rw [hw1]; exact below_drew (below_alloc (Below.refl _ _) _)
  have hq1 : w1.heap[q]? = some (.cells #[.slice Af xs.length cf, .int .i64 last] 175 (0, 0)) := by rw [hw1, hq]; exact blk_new W _
  have HQ1 := Aside0.mk hq1
  have hB1d : Below W.heap.size W w1.drew := below_drew HB1
  have HO1 : Aside0 (Own w1.drew b n vs) := ⟨HO.out.kb (Kb.of_below (fun _ => False) hB1d) id⟩
  have HB1d := Aside0.mk hB1d
  have k1 : w1.drew.cell? ⟨ba, 0, none⟩ = some (.pointer (some ⟨g, 0, none⟩)) := pw_cell_below hB1d h1
  have k2 : w1.drew.cell? ⟨g, 0, none⟩ = some (.map (some b)) := pw_cell_below hB1d c0
  have k3 : w1.drew.cell? ⟨bb, 0, none⟩ = some (.string s) := pw_cell_below hB1d h2
  clear hw1 hq hl1 hl2 hq1 HB1 hB1d
  go_wp2
  refine start_ (n := 6) (S := fun w' => w'.cell? ⟨ba, 0, none⟩ = some (.pointer (some ⟨g, 0, none⟩)) ∧ w'.cell? ⟨g, 0, none⟩ = some (.map (some b)) ∧ w'.cell? ⟨bb, 0, none⟩ = some (.string s)) (ds := [5]) #[false, false, false, false, false, false] (by kernel_rfl) rfl rfl ⟨k1, k2, k3⟩ (fun hHeld => ?_)
  refine take_ (i := 0) (N := some 10) (v := ?_) (a' := ?_) #[true, false, false, false, false, false] rfl rfl (by kernel_rfl) (fun _ _ _ h => h) (Or.inl ⟨by rfl, ?_⟩) hHeld ?_ ?_
  rotate_left
  · intro w' hS_
    obtain ⟨s0_, s1_, s2_⟩ := hS_
    go_simp
    with_reducible rfl
  rotate_left
  · simp only [Act.put, List.setIfInBounds_toArray, List.set_cons_zero, List.set_cons_succ, i64_w, i32_w]
    rfl
  refine pure_ (i := 1) (N := some 11) (v := ?_) (a' := ?_) #[true, true, false, false, false, false] rfl rfl (by kernel_rfl) (fun _ _ _ h => h) (Or.inl ⟨by rfl, ?_⟩) ?_ ?_
  rotate_left
  · intro w'
    go_simp
    with_reducible rfl
  rotate_left
  · simp only [Act.put, List.setIfInBounds_toArray, List.set_cons_zero, List.set_cons_succ, i64_w, i32_w]
    rfl
  refine pure_ (i := 2) (N := some 12) (v := ?_) (a' := ?_) #[true, true, true, false, false, false] rfl rfl (by kernel_rfl) (fun _ _ _ h => h) (Or.inl ⟨by rfl, ?_⟩) ?_ ?_
  rotate_left
  · intro w'
    go_simp
    with_reducible rfl
  rotate_left
  · simp only [Act.put, List.setIfInBounds_toArray, List.set_cons_zero, List.set_cons_succ, i64_w, i32_w]
    rfl
  refine take_ (i := 3) (N := some 13) (v := ?_) (a' := ?_) #[true, true, true, true, false, false] rfl rfl (by kernel_rfl) (fun _ _ _ h => h) (Or.inl ⟨by rfl, ?_⟩) hHeld ?_ ?_
  rotate_left
  · intro w' hS_
    obtain ⟨s0_, s1_, s2_⟩ := hS_
    go_simp
    with_reducible rfl
  rotate_left
  · simp only [Act.put, List.setIfInBounds_toArray, List.set_cons_zero, List.set_cons_succ, i64_w, i32_w]
    rfl
  refine take_ (i := 4) (N := some 14) (v := ?_) (a' := ?_) #[true, true, true, true, true, false] rfl rfl (by kernel_rfl) (fun _ _ _ h => h) (Or.inl ⟨by rfl, ?_⟩) hHeld ?_ ?_
  rotate_left
  · intro w' hS_
    obtain ⟨s0_, s1_, s2_⟩ := hS_
    go_simp
    with_reducible rfl
  rotate_left
  · simp only [Act.put, List.setIfInBounds_toArray, List.set_cons_zero, List.set_cons_succ, i64_w, i32_w]
    rfl
  refine last_ (i := 5) (N := none) #[true, true, true, true, true, true] rfl rfl (by kernel_rfl) (by decide) (fun K hK => ?_)
  refine del_step (by rfl) rfl (.tmp 13) (.tmp 14) 108 175 rfl Try.underlying108 rfl HO1.out s rfl hs ?_
  intro w4 hO4 hk4
  refine hK.out _ _ ?_
  clear hK K
  refine done_ (by kernel_rfl) ?_
  go_wp2
  have hD := HD.out
  have hkd : Kb (fun k => k = b) w1.drew w4.drew := hk4.trans (Kb.drewN _ w4 1)
  have hbq : b ≠ q := fun e => by subst e; exact (HO1.out.ne (show w1.drew.heap[b]? = _ from HQ1.out)) rfl
  have hcell : ∀ (a : Addr) (v : Value), a.block ≠ b → w1.drew.cell? a = some v → w4.drew.cell? a = some v := fun a v hne h => (World.cell?_of_block (hkd.block a.block (World.block_lt_of_cell? _ a h) hne)).trans h
  have m1 : w4.drew.cell? ⟨ba, 0, none⟩ = some (.pointer (some ⟨g, 0, none⟩)) := hcell _ _ (fun e => by
    obtain ⟨es, clock, hes, _⟩ := HO1.out
    have : ba = b := e
    subst this
    simp [World.cell?, hes] at k1) k1
  have m2 : w4.drew.cell? ⟨g, 0, none⟩ = some (.map (some b)) := hcell _ _ hD.gb k2
  have m3 : w4.drew.cell? ⟨bc, 0, none⟩ = some (.string t) := hcell _ _ (fun e => by
    obtain ⟨es, clock, hes, _⟩ := HO.out
    have : bc = b := e
    subst this
    simp [World.cell?, hes] at h3) (pw_cell_below HB1d.out h3)
  have hq4 : w4.drew.heap[q]? = some (.cells #[.slice Af xs.length cf, .int .i64 last] 175 (0, 0)) := hkd.blk (show w1.drew.heap[q]? = _ from HQ1.out) (fun e => hbq e.symm)
  have m4 : w4.drew.cell? ⟨q, 0, none⟩ = some (.slice Af xs.length cf) := by rw [blk_cell hq4]; rfl
  have m5 : w4.drew.cell? ⟨q, 1, none⟩ = some (.int .i64 last) := by rw [blk_cell hq4]; rfl
  obtain ⟨w5, hrun5, hO5, hk5⟩ := put_run 108 175 Try.underlying108 (hO4.kb (Kb.drewN (fun _ => False) w4 1) id) hn t ht (.agg #[.slice Af xs.length cf, .int .i64 last])
  refine start_ (n := 7) (S := fun w' => w'.cell? ⟨ba, 0, none⟩ = some (.pointer (some ⟨g, 0, none⟩)) ∧ w'.cell? ⟨g, 0, none⟩ = some (.map (some b)) ∧ w'.cell? ⟨bc, 0, none⟩ = some (.string t) ∧ w'.cell? ⟨q, 0, none⟩ = some (.slice Af xs.length cf) ∧ w'.cell? ⟨q, 1, none⟩ = some (.int .i64 last)) (ds := [6]) #[false, false, false, false, false, false, false] (by kernel_rfl) rfl rfl ⟨m1, m2, m3, m4, m5⟩ (fun hHeld => ?_)
  refine take_ (i := 0) (N := some 15) (v := ?_) (a' := ?_) #[true, false, false, false, false, false, false] rfl rfl (by kernel_rfl) (fun _ _ _ h => h) (Or.inl ⟨by rfl, ?_⟩) hHeld ?_ ?_
  rotate_left
  · intro w' hS_
    obtain ⟨s0_, s1_, s2_, s3_, s4_⟩ := hS_
    go_simp
    with_reducible rfl
  rotate_left
  · simp only [Act.put, List.setIfInBounds_toArray, List.set_cons_zero, List.set_cons_succ, i64_w, i32_w]
    rfl
  refine pure_ (i := 1) (N := some 16) (v := ?_) (a' := ?_) #[true, true, false, false, false, false, false] rfl rfl (by kernel_rfl) (fun _ _ _ h => h) (Or.inl ⟨by rfl, ?_⟩) ?_ ?_
  rotate_left
  · intro w'
    go_simp
    with_reducible rfl
  rotate_left
  · simp only [Act.put, List.setIfInBounds_toArray, List.set_cons_zero, List.set_cons_succ, i64_w, i32_w]
    rfl
  refine pure_ (i := 2) (N := some 17) (v := ?_) (a' := ?_) #[true, true, true, false, false, false, false] rfl rfl (by kernel_rfl) (fun _ _ _ h => h) (Or.inl ⟨by rfl, ?_⟩) ?_ ?_
  rotate_left
  · intro w'
    go_simp
    with_reducible rfl
  rotate_left
  · simp only [Act.put, List.setIfInBounds_toArray, List.set_cons_zero, List.set_cons_succ, i64_w, i32_w]
    rfl
  refine take_ (i := 3) (N := some 18) (v := ?_) (a' := ?_) #[true, true, true, true, false, false, false] rfl rfl (by kernel_rfl) (fun _ _ _ h => h) (Or.inl ⟨by rfl, ?_⟩) hHeld ?_ ?_
  rotate_left
  · intro w' hS_
    obtain ⟨s0_, s1_, s2_, s3_, s4_⟩ := hS_
    go_simp
    with_reducible rfl
  rotate_left
  · simp only [Act.put, List.setIfInBounds_toArray, List.set_cons_zero, List.set_cons_succ, i64_w, i32_w]
    rfl
  refine take_ (i := 4) (N := some 19) (v := ?_) (a' := ?_) #[true, true, true, true, true, false, false] rfl rfl (by kernel_rfl) (fun _ _ _ h => h) (Or.inl ⟨by rfl, ?_⟩) hHeld ?_ ?_
  rotate_left
  · intro w' hS_
    obtain ⟨s0_, s1_, s2_, s3_, s4_⟩ := hS_
    go_simp
    with_reducible rfl
  rotate_left
  · simp only [Act.put, List.setIfInBounds_toArray, List.set_cons_zero, List.set_cons_succ, i64_w, i32_w]
    rfl
  refine take_ (i := 5) (N := some 20) (v := ?_) (a' := ?_) #[true, true, true, true, true, true, false] rfl rfl (by kernel_rfl) (fun _ _ _ h => h) (Or.inl ⟨by rfl, ?_⟩) hHeld ?_ ?_
  rotate_left
  · intro w' hS_
    obtain ⟨s0_, s1_, s2_, s3_, s4_⟩ := hS_
    go_simp
    with_reducible rfl
  rotate_left
  · simp only [Act.put, List.setIfInBounds_toArray, List.set_cons_zero, List.set_cons_succ, i64_w, i32_w]
    rfl
  refine last_ (i := 6) (N := none) #[true, true, true, true, true, true, true] rfl rfl (by kernel_rfl) (by decide) (fun K hK => ?_)
  refine put_step (by rfl) rfl (.tmp 18) (.tmp 19) (.tmp 20) 108 rfl rfl rfl rfl hrun5 ?_
  refine hK.out _ _ ?_
  clear hK K
  refine done_ (by kernel_rfl) ?_
  go_wp2
  go_end0
  have hkT : Kb (fun k => k = b) W w5 := (Kb.of_below _ HB1d.out).trans (hkd.trans hk5)
  exact ⟨rfl, ⟨hkT.blk hD.hg hD.gb, ⟨_, hO5, ((HF.out.imp fun v c hv => hv.step fun k hS hlt => hkT.block k hlt (hD.hS k hS).2).del s.data.toList).put t.data.toList ⟨Af, cf, rfl, Hcf.out, Kd.F_step HFf.out (fun k hS hlt => hkT.block k hlt (hD.hS k hS).2)⟩⟩, hD.hS⟩, hkT⟩
end Go.Proofs.Ytobgijpbfmpdaaa.Dk
