/- FrameFeeds: contracts of the two readers' Feed. -/
import Derived.Test.YtobgijpbfmpdaaaFd
import Derived.Test.YtobgijpbfmpdaaaSpQ
import Derived.Test.YtobgijpbfmpdaaaWShare
set_option linter.unusedVariables false
set_option linter.unusedSimpArgs false
namespace Go.Proofs.Ytobgijpbfmpdaaa.Ff
open Go.RowKit Go.Proofs.Ytobgijpbfmpdaaa.PFr Go.Proofs.YtobgijpbfmpdaaaW.PrintWords Go.Proofs.YtobgijpbfmpdaaaW.PrintLast Go.Proofs.YtobgijpbfmpdaaaW.PrintMore
open Go.Proofs.Ytobgijpbfmpdaaa.Crc (readP bytesOk)
open Go.Proofs.Ytobgijpbfmpdaaa.Sp (splitL)
open Go.Proofs.Ytobgijpbfmpdaaa.Fd Go.Proofs.Ytobgijpbfmpdaaa.SpQ
set_option maxHeartbeats 8000000
set_option maxRecDepth 100000
/-- A reader that broke. -/
theorem feed_broken (v : Value) (w : World) (b : Nat) (lv : Value) (taken e4 : Int) (he : (e4 != 0) = true) (hg : w.heap[b]? = some (.cells #[.bool true, lv, .int .i64 taken, .int .i64 e4] 43 (0, 0))) :
    Calls Try.prog 32 #[.pointer (some ⟨b, 0, none⟩), v] w fun e w' => e = .returned (.tuple #[.slice none 0 0, .int .i64 e4]) ∧ ∃ n, w' = w.drewN n := by
  have c0 : w.cell? ⟨b, 0, none⟩ = some (.bool true) := by rw [blk_cell hg]; rfl
  have c3 : w.cell? ⟨b, 3, none⟩ = some (.int .i64 e4) := by rw [blk_cell hg]; rfl
  clear hg
  go_enter Try.func32, Try.ntmps32
  go_wp2_with (first | go_quiet (fail))
  go_ret2
  exact ⟨rfl, _, rfl⟩
theorem ref_broken (v lv : Value) (w : World) (b : Nat) (taken e4 : Int) (he : (e4 != 0) = true) (hg : w.heap[b]? = some (.cells #[lv, .int .i64 taken, .int .i64 e4] 48 (0, 0))) :
    Calls Try.prog 36 #[.pointer (some ⟨b, 0, none⟩), v] w fun e w' => e = .returned (.tuple #[.slice none 0 0, .int .i64 e4]) ∧ ∃ n, w' = w.drewN n := by
  have c2 : w.cell? ⟨b, 2, none⟩ = some (.int .i64 e4) := by rw [blk_cell hg]; rfl
  clear hg
  go_enter Try.func36, Try.ntmps36
  go_wp2_with (first | go_quiet (fail))
  go_ret2
  exact ⟨rfl, _, rfl⟩
theorem ref_feed (g : Nat) (left b : List Int) (As : Option Addr) (cs : Nat) (taken : Int) (A : Option Addr) (c : Nat) (W : World)
    (hg : W.heap[g]? = some (.cells #[.slice As left.length cs, .int .i64 taken, .int .i64 0] 48 (0, 0)))
    (hs : Kd.C (Kd.int .u8) W As left.length left) (hcs : left.length ≤ cs) (hb : Kd.C (Kd.int .u8) W A b.length b) (hbc : b.length ≤ c) (hbo : bytesOk (left ++ b) = true)
    (hlen : (left ++ b).length ≤ 1000000) (ht0 : 0 ≤ taken) (ht1 : taken ≤ 1000000) :
    Calls Try.prog 36 #[.pointer (some ⟨g, 0, none⟩), .slice A b.length c] W fun e W' => ∃ v As' cs',
      e = .returned (.tuple #[v, .int .i64 (if (splitL (left ++ b) (left ++ b).length [] 0).2.2 = 4 then 0 else (splitL (left ++ b) (left ++ b).length [] 0).2.2)]) ∧
      Kd.S (Kd.slice 5 (Kd.int .u8)) 22 W' W.heap.size (fun _ => True) v (splitL (left ++ b) (left ++ b).length [] 0).1 ∧
      W'.heap[g]? = some (.cells #[.slice As' ((left ++ b).drop (splitL (left ++ b) (left ++ b).length [] 0).2.1.toNat).length cs', .int .i64 (taken + (splitL (left ++ b) (left ++ b).length [] 0).2.1), .int .i64 (if (splitL (left ++ b) (left ++ b).length [] 0).2.2 = 4 then 0 else (splitL (left ++ b) (left ++ b).length [] 0).2.2)] 48 (0, 0)) ∧
      Kd.F (Kd.int .u8) W' (fun k => W.heap.size ≤ k) As' ((left ++ b).drop (splitL (left ++ b) (left ++ b).length [] 0).2.1.toNat).length ((left ++ b).drop (splitL (left ++ b) (left ++ b).length [] 0).2.1.toNat) ∧
      ((left ++ b).drop (splitL (left ++ b) (left ++ b).length [] 0).2.1.toNat).length ≤ cs' ∧
      Upd W.heap.size W W' g none := by
  obtain ⟨all, hall⟩ : ∃ all, all = left ++ b := ⟨_, rfl⟩
  rw [← hall] at hbo hlen ⊢
  have hsn := splitL_n all hbo all.length [] 0 (Int.le_refl _) (by omega)
  have HSp : Aside0 (∀ (w : World) (A : Option Addr) (c : Nat), Kd.C (Kd.int .u8) w A all.length all → all.length ≤ c → Calls Try.prog 30 #[.slice A all.length c] w fun e w' => ∃ v0_ : Value, e = .returned (.tuple #[v0_, .int .i64 (splitL all all.length [] 0).2.1, .int .i64 (splitL all all.length [] 0).2.2]) ∧
      Kd.S (Kd.slice 5 (Kd.int .u8)) 22 w' w.heap.size (fun _ => True) v0_ (splitL all all.length [] 0).1 ∧ Below w.heap.size w w') := ⟨fun w A c hC hc => by
    have A3 : prompterref06_Split.f (all.length + 1) all = some ((splitL all all.length [] 0).1, (splitL all all.length [] 0).2.1, (splitL all all.length [] 0).2.2) := by rw [Sp.ref_split all hbo (by omega)]
    exact prompterref06_Split.calls (all.length + 1) A c all _ _ _ w hC hc A3⟩
  revert hsn HSp
  generalize splitL all all.length [] 0 = sp
  obtain ⟨s1, s2, s3⟩ := sp
  dsimp only
  intro hsn HSp
  suffices h : ∀ (Rr : Ending → World → Prop) (e4 : Int), ((s3 != 4) = true → e4 = s3) → ((s3 != 4) = false → e4 = 0) →
      Aside0 (∀ (v As' : _) (cs' : Nat) (W' : World), Kd.S (Kd.slice 5 (Kd.int .u8)) 22 W' W.heap.size (fun _ => True) v s1 →
        W'.heap[g]? = some (.cells #[.slice As' (all.drop s2.toNat).length cs', .int .i64 (taken + s2), .int .i64 e4] 48 (0, 0)) → Kd.F (Kd.int .u8) W' (fun k => W.heap.size ≤ k) As' (all.drop s2.toNat).length (all.drop s2.toNat) → (all.drop s2.toNat).length ≤ cs' →
        Upd W.heap.size W W' g none → Rr (.returned (.tuple #[v, .int .i64 e4])) W') →
      Calls Try.prog 36 #[.pointer (some ⟨g, 0, none⟩), .slice A b.length c] W Rr from
    h _ _ (fun hz => if_neg (by simpa using hz)) (fun hz => if_pos (by simpa using hz)) ⟨fun v As' cs' W' h1 h2 h3 h4 h5 => ⟨v, As', cs', rfl, h1, h2, h3, h4, h5⟩⟩
  intro Rr e4 he1 he2 HRr
  have c0 : W.cell? ⟨g, 0, none⟩ = some (.slice As left.length cs) := by rw [blk_cell hg]; rfl
  have c2 : W.cell? ⟨g, 2, none⟩ = some (.int .i64 0) := by rw [blk_cell hg]; rfl
  have HG := Aside0.mk hg
  have HS := Aside0.mk hs
  have HC := Aside0.mk hb
  have Hall := Aside0.mk hall
  have Hlen := Aside0.mk hlen
  have Hsn := Aside0.mk hsn
  have Ht := Aside0.mk (And.intro ht0 ht1)
  have hwt : IntKind.i64.wrap (taken + s2) = taken + s2 := IntWalk.i64_in _ ⟨by omega, by omega⟩
  clear hg hs hb hall hlen hsn hbo ht0 ht1
  have hzz : (s3 != 4) = true ∨ (s3 != 4) = false := by cases s3 != 4 <;> simp
  rcases hzz with hz | hz
  · have he := he1 hz
    subst he
    clear he1 he2
    go_enter Try.func36, Try.ntmps36
    go_wp2_with (first
      | ((with_reducible refine gate_dst (N := 24) rfl ?_); refine Mine.app_u8 (w0 := W) W.heap.size rfl (.tmp 19) (.tmp 23) rfl (.slice none 0 0) [] left As left.length cs (fun _ => True) rfl rfl (Kd.R_nil _ _ _ _ _) HS.out (fun _ _ => trivial) (Below.refl _ _) (Nat.le_refl _) (by have := Hlen.out; rw [Hall.out, List.length_append] at this; simp only [List.length_nil]; omega) ?_; intro v1 w1 ho hb hgr hat; rw [List.nil_append] at ho; obtain ⟨A1, k1, e1⟩ := Kd.R_slice ho; subst e1; have HL1 := Aside0.mk ho; have HG1 := Aside0.mk (blk_below HG.out hb); have HC1 := Aside0.mk (Kd.C_below HC.out hb); have HB1 := Aside0.mk hb; clear ho hb hgr hat)
      | ((with_reducible refine gate_dst (N := 27) rfl ?_); refine Mine.app_u8 (w0 := W) W.heap.size rfl (.tmp 25) (.tmp 26) rfl _ left b A b.length c (fun _ => True) rfl rfl HL1.out HC1.out (fun _ _ => trivial) HB1.out HB1.out.size (by have := Hlen.out; rw [Hall.out, List.length_append] at this; omega) ?_; intro v2 w2 ho hb hgr hat; rw [← Hall.out] at ho; obtain ⟨A2, k2, e2⟩ := Kd.R_slice ho; subst e2; have HL2 := Aside0.mk ho; have HG2 := Aside0.mk (blk_below HG.out hb); have HB2 := Aside0.mk hb; clear ho hb hgr hat)
      | ((with_reducible refine gate_callee (f := 30) rfl ?_); refine goesL_ (some 30) rfl rfl Try.func30 (by kernel_rfl) rfl #[.slice A2 all.length k2] rfl (by (try simp only [List.map_toArray, List.map_cons, List.map_nil]); first | done | rfl) ?_; refine (HSp.out _ A2 k2 (Kd.R_reads' HL2.out).2.2 (Kd.R_reads' HL2.out).2.1).mono ?_; rintro e w3 ⟨v3, rfl, ho, hb⟩; refine ⟨_, rfl, ?_⟩; have HV3 := Aside0.mk (Kd.S_lower ho HB2.out.size); have HG3 := Aside0.mk (blk_below HG2.out hb); have HL3 := Aside0.mk (Kd.R_below HL2.out hb); have HB3 := Aside0.mk (below_step HB2.out hb); have HN3 := Aside0.mk (HB2.out.size); obtain ⟨A4, m, hm, hcut, hC4, hmc, hml⟩ := Mine.cut_drop A2 k2 all s2 Hsn.out.1 Hsn.out.2 (Kd.R_reads' HL3.out).2.1; have HF4 := Aside0.mk (Kd.F_imp (Kd.R_F (Kd.R_tight rfl HL3.out)) (fun W' h => hC4 W' h)); have HO4 := Aside0.mk (Kd.R_base HL3.out); have Hm := Aside0.mk hm; have Hmc := Aside0.mk hmc; have f30 : w3.frozen? ⟨g, 0, none⟩ = false := blk_frozen HG3.out 0; have f31 : w3.frozen? ⟨g, 1, none⟩ = false := blk_frozen HG3.out 1; have f32 : w3.frozen? ⟨g, 2, none⟩ = false := blk_frozen HG3.out 2; have c30 : w3.cell? ⟨g, 0, none⟩ = some (.slice As left.length cs) := (by rw [blk_cell HG3.out]; rfl); have c31 : w3.cell? ⟨g, 1, none⟩ = some (.int .i64 taken) := (by rw [blk_cell HG3.out]; rfl); have c32 : w3.cell? ⟨g, 2, none⟩ = some (.int .i64 0) := (by rw [blk_cell HG3.out]; rfl); clear ho hb hm hC4 hmc hml)
      | go_quiet (fail))
    have hm := Hm.out
    subst hm
    have hne := Kd.R_ne HL3.out HG3.out (by decide)
    refine HRr.out _ A4 (k2 - s2.toNat) _ (Kd.S_mono (Kd.S_drewN (Kd.S_set (Kd.S_set (Kd.S_set HV3.out HG3.out (by decide) 0 (.slice A4 (all.drop s2.toNat).length (k2 - s2.toNat))) (blk_put HG3.out 0 (.slice A4 (all.drop s2.toNat).length (k2 - s2.toNat)) rfl) (by decide) 1 (.int .i64 (taken + s2))) (blk_put (blk_put HG3.out 0 (.slice A4 (all.drop s2.toNat).length (k2 - s2.toNat)) rfl) 1 (.int .i64 (taken + s2)) rfl) (by decide) 2 (.int .i64 e4)) _) (fun _ _ => trivial)) ?_ (Kd.F_mono (Kd.F_drewN (Kd.F_far (Kd.F_far (Kd.F_far HF4.out (p := ⟨g, 0, none⟩) (fun k hk e => hne (by have e' : k = g := e; rw [← e']; exact hk)) (.slice A4 (all.drop s2.toNat).length (k2 - s2.toNat))) (p := ⟨g, 1, none⟩) (fun k hk e => hne (by have e' : k = g := e; rw [← e']; exact hk)) (.int .i64 (taken + s2))) (p := ⟨g, 2, none⟩) (fun k hk e => hne (by have e' : k = g := e; rw [← e']; exact hk)) (.int .i64 e4)) _) (fun k hk => HO4.out k hk.symm)) Hmc.out (((((Upd.of_below HB3.out (Nat.le_refl _) g none).trans (Upd.set _ _ g 0 (.slice A4 (all.drop s2.toNat).length (k2 - s2.toNat)) _)).trans (Upd.set _ _ g 1 (.int .i64 (taken + s2)) _)).trans (Upd.set _ _ g 2 (.int .i64 e4) _)).trans (Upd.drewN _ _ _ _ _))
    exact blk_drewN (blk_put (blk_put (blk_put HG3.out 0 (.slice A4 (all.drop s2.toNat).length (k2 - s2.toNat)) rfl) 1 (.int .i64 (taken + s2)) rfl) 2 (.int .i64 e4) rfl) _
  · have he := he2 hz
    subst he
    clear he1 he2
    go_enter Try.func36, Try.ntmps36
    go_wp2_with (first
      | ((with_reducible refine gate_dst (N := 24) rfl ?_); refine Mine.app_u8 (w0 := W) W.heap.size rfl (.tmp 19) (.tmp 23) rfl (.slice none 0 0) [] left As left.length cs (fun _ => True) rfl rfl (Kd.R_nil _ _ _ _ _) HS.out (fun _ _ => trivial) (Below.refl _ _) (Nat.le_refl _) (by have := Hlen.out; rw [Hall.out, List.length_append] at this; simp only [List.length_nil]; omega) ?_; intro v1 w1 ho hb hgr hat; rw [List.nil_append] at ho; obtain ⟨A1, k1, e1⟩ := Kd.R_slice ho; subst e1; have HL1 := Aside0.mk ho; have HG1 := Aside0.mk (blk_below HG.out hb); have HC1 := Aside0.mk (Kd.C_below HC.out hb); have HB1 := Aside0.mk hb; clear ho hb hgr hat)
      | ((with_reducible refine gate_dst (N := 27) rfl ?_); refine Mine.app_u8 (w0 := W) W.heap.size rfl (.tmp 25) (.tmp 26) rfl _ left b A b.length c (fun _ => True) rfl rfl HL1.out HC1.out (fun _ _ => trivial) HB1.out HB1.out.size (by have := Hlen.out; rw [Hall.out, List.length_append] at this; omega) ?_; intro v2 w2 ho hb hgr hat; rw [← Hall.out] at ho; obtain ⟨A2, k2, e2⟩ := Kd.R_slice ho; subst e2; have HL2 := Aside0.mk ho; have HG2 := Aside0.mk (blk_below HG.out hb); have HB2 := Aside0.mk hb; clear ho hb hgr hat)
      | ((with_reducible refine gate_callee (f := 30) rfl ?_); refine goesL_ (some 30) rfl rfl Try.func30 (by kernel_rfl) rfl #[.slice A2 all.length k2] rfl (by (try simp only [List.map_toArray, List.map_cons, List.map_nil]); first | done | rfl) ?_; refine (HSp.out _ A2 k2 (Kd.R_reads' HL2.out).2.2 (Kd.R_reads' HL2.out).2.1).mono ?_; rintro e w3 ⟨v3, rfl, ho, hb⟩; refine ⟨_, rfl, ?_⟩; have HV3 := Aside0.mk (Kd.S_lower ho HB2.out.size); have HG3 := Aside0.mk (blk_below HG2.out hb); have HL3 := Aside0.mk (Kd.R_below HL2.out hb); have HB3 := Aside0.mk (below_step HB2.out hb); have HN3 := Aside0.mk (HB2.out.size); obtain ⟨A4, m, hm, hcut, hC4, hmc, hml⟩ := Mine.cut_drop A2 k2 all s2 Hsn.out.1 Hsn.out.2 (Kd.R_reads' HL3.out).2.1; have HF4 := Aside0.mk (Kd.F_imp (Kd.R_F (Kd.R_tight rfl HL3.out)) (fun W' h => hC4 W' h)); have HO4 := Aside0.mk (Kd.R_base HL3.out); have Hm := Aside0.mk hm; have Hmc := Aside0.mk hmc; have f30 : w3.frozen? ⟨g, 0, none⟩ = false := blk_frozen HG3.out 0; have f31 : w3.frozen? ⟨g, 1, none⟩ = false := blk_frozen HG3.out 1; have f32 : w3.frozen? ⟨g, 2, none⟩ = false := blk_frozen HG3.out 2; have c30 : w3.cell? ⟨g, 0, none⟩ = some (.slice As left.length cs) := (by rw [blk_cell HG3.out]; rfl); have c31 : w3.cell? ⟨g, 1, none⟩ = some (.int .i64 taken) := (by rw [blk_cell HG3.out]; rfl); have c32 : w3.cell? ⟨g, 2, none⟩ = some (.int .i64 0) := (by rw [blk_cell HG3.out]; rfl); clear ho hb hm hC4 hmc hml)
      | go_quiet (fail))
    have hm := Hm.out
    subst hm
    have hne := Kd.R_ne HL3.out HG3.out (by decide)
    refine HRr.out _ A4 (k2 - s2.toNat) _ (Kd.S_mono (Kd.S_drewN (Kd.S_set (Kd.S_set HV3.out HG3.out (by decide) 0 (.slice A4 (all.drop s2.toNat).length (k2 - s2.toNat))) (blk_put HG3.out 0 (.slice A4 (all.drop s2.toNat).length (k2 - s2.toNat)) rfl) (by decide) 1 (.int .i64 (taken + s2))) _) (fun _ _ => trivial)) ?_ (Kd.F_mono (Kd.F_drewN (Kd.F_far (Kd.F_far HF4.out (p := ⟨g, 0, none⟩) (fun k hk e => hne (by have e' : k = g := e; rw [← e']; exact hk)) (.slice A4 (all.drop s2.toNat).length (k2 - s2.toNat))) (p := ⟨g, 1, none⟩) (fun k hk e => hne (by have e' : k = g := e; rw [← e']; exact hk)) (.int .i64 (taken + s2))) _) (fun k hk => HO4.out k hk.symm)) Hmc.out ((((Upd.of_below HB3.out (Nat.le_refl _) g none).trans (Upd.set _ _ g 0 (.slice A4 (all.drop s2.toNat).length (k2 - s2.toNat)) _)).trans (Upd.set _ _ g 1 (.int .i64 (taken + s2)) _)).trans (Upd.drewN _ _ _ _ _))
    exact blk_drewN (blk_put (blk_put HG3.out 0 (.slice A4 (all.drop s2.toNat).length (k2 - s2.toNat)) rfl) 1 (.int .i64 (taken + s2)) rfl) _
end Go.Proofs.Ytobgijpbfmpdaaa.Ff
