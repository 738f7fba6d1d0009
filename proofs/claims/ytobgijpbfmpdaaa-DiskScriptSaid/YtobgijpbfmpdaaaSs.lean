/- DiskScript: the walk. -/
import Derived.Test.YtobgijpbfmpdaaaRkB
import Derived.Lib.SlBytesConst
set_option linter.unusedVariables false
set_option linter.unusedSimpArgs false
set_option maxRecDepth 100000
namespace Go.Proofs.Ytobgijpbfmpdaaa.Rk
open Go.RowKit Go.Proofs.YtobgijpbfmpdaaaW.PrintWords Go.Proofs.YtobgijpbfmpdaaaW.PrintLast Go.Proofs.YtobgijpbfmpdaaaW.PrintMore
open Go.Proofs.Ytobgijpbfmpdaaa.Fm Go.Proofs.Ytobgijpbfmpdaaa.Mp Go.Proofs.Ytobgijpbfmpdaaa.PDq
open Go.Proofs.Ytobgijpbfmpdaaa.Dk (Cont Fls cur Dsk append_dsk remove_dsk crash_dsk twin_dsk new_dsk dsk_new awake25)
open Go.Proofs.Ytobgijpbfmpdaaa.PDp
open Go.Proofs.Ytobgijpbfmpdaaa.Ls (tot long_f2 tot_take tot_app)
set_option maxHeartbeats 16000000
theorem long_len : ∀ k, (∀ xs m i, prompterlaw25_long.l0 k xs m i = some false → xs.length ≤ 80) ∧ (∀ xs m i b, prompterlaw25_long.j1 k xs m i b = some false → xs.length ≤ 80)
  | 0 => ⟨fun xs m i h => by simp [prompterlaw25_long.l0] at h, fun xs m i b h => by simp [prompterlaw25_long.j1] at h⟩
  | k + 1 => by
    have ih := long_len k
    refine ⟨fun xs m i h => ?_, fun xs m i b h => ?_⟩
    · unfold prompterlaw25_long.l0 at h
      split at h <;> exact ih.2 _ _ _ _ h
    · unfold prompterlaw25_long.j1 at h
      split at h
      · split at h
        · split at h
          · split at h
            · simp at h
            split at h
            · simp at h
            split at h
            · simp at h
            · exact ih.1 _ _ _ h
          · simp at h
        · simp at h
      · injection h with h
        have := of_decide_eq_false h
        omega
theorem lit_C (W : World) (xs : List Int) (f : Nat × Nat) (cs : Array Value) (hn : xs.length ≤ 9223372036854775807) (hcs : cs = (xs.map (Value.int .u8)).toArray) :
    Kd.C (Kd.int .u8) (W.alloc (.cells cs 5 f)) (some ⟨W.heap.size, 0, none⟩) xs.length xs := by
  subst hcs
  refine Kd.C_of_reads (d := (0 : Int)) (h1 := fun _ => rfl) ⟨rfl, hn, fun _ => ⟨_, rfl, fun j hj => ?_⟩⟩
  have h1 : (⟨W.heap.size, 0, none⟩ : Addr).add j = ⟨W.heap.size, j, none⟩ := by unfold Addr.add; split <;> simp_all
  rw [h1]
  have h2 : (W.alloc (.cells (xs.map (Value.int .u8)).toArray 5 f)).heap[W.heap.size]? = some (.cells (xs.map (Value.int .u8)).toArray 5 f) := by
    show (W.heap.push _)[W.heap.size]? = _
    simp
  unfold World.cell?
  simp only [h2]
  simp [List.getD_eq_getElem?_getD, List.getElem?_eq_getElem hj]
theorem new_c (W : World) : Calls Try.prog 72 #[] W fun e W' => e = .returned (.pointer (some ⟨W.heap.size, 0, none⟩)) ∧ W' = W.alloc (.cells #[.slice none 0 0, .bool false, .int .i64 (-1)] 182) := by
  go_enter Try.func72, Try.ntmps72
  go_wp2
  go_ret
  exact ⟨rfl, rfl⟩
theorem pair0 {W W2 W3 W4 : World} (hB2 : Below W.heap.size W W2) (h3 : W3 = (W2.alloc (.map #[] 0)).alloc (.cells #[.map (some W2.heap.size), .bool false, .int .i64 (-1)] 110)) (h4 : W4 = W3.alloc (.cells #[.slice none 0 0, .bool false, .int .i64 (-1)] 182)) :
    Pair (fun _ => False) W W4 W.heap.size (W2.heap.size + 1) W2.heap.size W3.heap.size false (-1) [] false (-1) (LF []) := by
  have d1 := dsk_new W2 (fun _ => False) (fun k hk => hk.elim)
  rw [← h3] at d1
  have hl := d1.glt
  have hs := hB2.size
  have b3 : Below W2.heap.size W2 W3 := by rw [h3]; exact below_alloc (below_alloc (Below.refl _ _) _) _
  have b4 : Below W3.heap.size W3 W4 := by rw [h4]; exact below_alloc (Below.refl _ _) _
  refine ⟨⟨fun _ => False, d1.below b4, ⟨⟨none, 0, ?_, Kd.R_nil _ _ _ _ _⟩, fun k hk => hk.2.2.2.1⟩, fun k hk => hk.elim⟩, below_step (below_step hB2 b3) b4, by omega, fun k hk => hk.elim⟩
  rw [h4]
  exact blk_new W3 _
def RISE (xs : List S93) (i : Nat) : Nat := tot (xs.take i)
theorem script (xs : List S93) (A0 : Option Addr) (c0 : Nat) (W : World) (hC : Kd.C k93 W A0 xs.length xs) (hc0 : xs.length ≤ c0) (hQ : ∀ x ∈ xs, Crc.bytesOk x.f3 = true ∧ x.f4 ≤ 9223372036854775807) :
    Calls Try.prog 18 #[.slice A0 xs.length c0] W fun e W' => e = .returned (.bool true) ∧ Below W.heap.size W W' := by
  have HC := Aside0.mk hC
  have HQ := Aside0.mk hQ
  obtain ⟨rr, hl, ht⟩ := long_f2 xs
  have HL := Aside0.mk hl
  have HLT := Aside0.mk ht
  have hxl : xs.length ≤ 9223372036854775807 := hC.2.1
  clear hC hQ hl ht
  cases rr with
  | true =>
    go_enter Try.func18, Try.ntmps18
    go_wp2_with (first
      | ((with_reducible refine gate_callee (f := 59) rfl ?_); refine goesL_ (some 8) rfl rfl Try.func59 (by kernel_rfl) rfl #[] rfl (by (try simp only [List.map_toArray, List.map_cons, List.map_nil]); first | done | rfl) ?_; refine (awake25 _).mono ?_; rintro e w1 ⟨rfl, hb⟩; refine ⟨_, rfl, ?_⟩; have HB1 := Aside0.mk hb; clear hb)
      | ((with_reducible refine gate_callee (f := 60) rfl ?_); refine goesL_ (some 11) rfl rfl Try.func60 (by kernel_rfl) rfl #[.slice A0 xs.length c0] rfl (by (try simp only [List.map_toArray, List.map_cons, List.map_nil]); first | done | rfl) ?_; refine (prompterlaw25_long.calls 162 A0 c0 xs _ _ (Kd.C_below HC.out HB1.out) hc0 HL.out).mono ?_; rintro e w2 ⟨rfl, hb⟩; refine ⟨_, rfl, ?_⟩; have HB2 := Aside0.mk (below_step HB1.out hb.below); clear hb HB1)
      | fail)
    go_ret
    exact ⟨rfl, HB2.out⟩
  | false =>
    have h80 : xs.length ≤ 80 := (long_len _).1 _ _ _ HL.out
    have hxl64 : (xs.length : Int) ≤ 80 := by omega
    go_enter Try.func18, Try.ntmps18
    go_wp2_with (first
      | ((with_reducible refine gate_callee (f := 59) rfl ?_); refine goesL_ (some 8) rfl rfl Try.func59 (by kernel_rfl) rfl #[] rfl (by (try simp only [List.map_toArray, List.map_cons, List.map_nil]); first | done | rfl) ?_; refine (awake25 _).mono ?_; rintro e w1 ⟨rfl, hb⟩; refine ⟨_, rfl, ?_⟩; have HB1 := Aside0.mk hb; clear hb)
      | ((with_reducible refine gate_callee (f := 60) rfl ?_); refine goesL_ (some 11) rfl rfl Try.func60 (by kernel_rfl) rfl #[.slice A0 xs.length c0] rfl (by (try simp only [List.map_toArray, List.map_cons, List.map_nil]); first | done | rfl) ?_; refine (prompterlaw25_long.calls 162 A0 c0 xs _ _ (Kd.C_below HC.out HB1.out) hc0 HL.out).mono ?_; rintro e w2 ⟨rfl, hb⟩; refine ⟨_, rfl, ?_⟩; have HB2 := Aside0.mk (below_step HB1.out hb.below); clear hb HB1)
      | ((with_reducible refine gate_callee (f := 61) rfl ?_); refine goesL_ (some 12) rfl rfl Try.func61 (by kernel_rfl) rfl #[] rfl (by (try simp only [List.map_toArray, List.map_cons, List.map_nil]); first | done | rfl) ?_; refine (new_dsk _).mono ?_; rintro e w3 ⟨rfl, hw3⟩; refine ⟨_, rfl, ?_⟩; have H3 := Aside0.mk hw3; clear hw3)
      | ((with_reducible refine gate_callee (f := 72) rfl ?_); refine goesL_ (some 13) rfl rfl Try.func72 (by kernel_rfl) rfl #[] rfl (by (try simp only [List.map_toArray, List.map_cons, List.map_nil]); first | done | rfl) ?_; refine (new_c _).mono ?_; rintro e w4 ⟨rfl, hw4⟩; refine ⟨_, rfl, ?_⟩; have HP := Aside0.mk (pair0 HB2.out H3.out hw4); clear hw4)
      | fail)
    have HB2 := HB2.out
    obtain ⟨r, hr⟩ : ∃ r, r = w3.heap.size := ⟨_, rfl⟩
    rw [← hr] at HP ⊢
    obtain ⟨b0, hb⟩ : ∃ b, b = w2.heap.size := ⟨_, rfl⟩
    rw [← hb] at HP ⊢
    obtain ⟨g0, hg⟩ : ∃ g, g = b0 + 1 := ⟨_, rfl⟩
    rw [← hg] at HP ⊢
    clear hr hb hg H3 HB2
    go_loopg [3, 5] xs.length (fun kk v3 v5 wr => ∃ (i g b : Nat) (off : Bool) (z : Int) (F : Fls), v3 = .pointer (some ⟨g, 0, none⟩) ∧ v5 = .int .i64 i ∧ Aside0 (i ≤ xs.length ∧ kk = xs.length - i) ∧
      Aside0 (Pair (fun _ => False) W wr W.heap.size g b r off z F off z (LF F)) ∧ Aside0 (Ls.Good F i (tot (xs.take i)) ∧ Zok z))
    case atStart => exact ⟨0, g0, b0, false, -1, [], rfl, rfl, ⟨Nat.zero_le _, rfl⟩, HP, ⟨Ls.Good.nil _ _, by unfold Zok; omega⟩⟩
    case round =>
      clear HP
      obtain ⟨i, g, b, off, z, F, rfl, rfl, hi, HP, HG⟩ := hrel
      by_cases hlt : i < xs.length
      · have hltb : decide ((i : Int) < (xs.length : Int)) = true := decide_eq_true (by omega)
        have hltb2 : decide (i < xs.length) = true := decide_eq_true hlt
        have hlt1 : (i : Int) < (xs.length : Int) := by omega
        have hi0 : (0 : Int) ≤ (i : Int) := by omega
        obtain ⟨x, hx⟩ : ∃ x, x = rd_T93 xs (i : Int) := ⟨_, rfl⟩
        obtain ⟨ad, Ad, cd, Ak, ck, eA, q0, q1, q2, q3, q4, q5, hcd, hCd, hck, hCk⟩ := at_T93 HC.out (i : Int) hi0 hlt1
        rw [Int.toNat_natCast] at q0 q1 q2 q3 q4 q5
        rw [← hx] at q0 q1 q2 q3 q4 q5 hcd hCd hck hCk
        replace q0 := pw_cell_below HP.out.HB q0
        replace q1 := pw_cell_below HP.out.HB q1
        replace q2 := pw_cell_below HP.out.HB q2
        replace q3 := pw_cell_below HP.out.HB q3
        replace q4 := pw_cell_below HP.out.HB q4
        replace q5 := pw_cell_below HP.out.HB q5
        subst eA
        have hxi : x = xs[i] := hx.trans (Ls.rd_at xs i hlt)
        have hxm : x ∈ xs := by rw [hxi]; exact List.getElem_mem hlt
        have htot : tot (xs.take i) + x.f3.length = tot (xs.take (i + 1)) := by rw [List.take_succ_eq_append_getElem hlt, tot_app, hxi]; simp [tot]
        have htot5 : tot (xs.take (i + 1)) ≤ 5000 := Nat.le_trans (tot_take xs (i + 1)) (HLT.out trivial).1
        have hnm := (HLT.out trivial).2 x hxm
        have hqx := HQ.out x hxm
        have HCd := Aside0.mk hCd
        have HCk := Aside0.mk hCk
        have HTO := Aside0.mk (show tot (xs.take i) + x.f3.length = tot (xs.take (i + 1)) ∧ tot (xs.take (i + 1)) ≤ 5000 from ⟨htot, htot5⟩)
        have HNM := Aside0.mk hnm
        have HQX := Aside0.mk hqx
        clear hCd hCk hx hcd hck hxi hxm htot htot5 hnm hqx
        by_cases h6 : x.f0 = 6
        · have hb6 : (x.f0 == 6) = true := by rw [h6]; rfl
          clear h6
          have h1 := HP.out.below (below_alloc (Below.refl _ wr) (.cells #[.int .u8 x.f0, .string x.f1, .string x.f2, .slice Ad x.f3.length cd, .int .i64 x.f4, .slice Ak x.f5.length ck] 93))
          obtain ⟨S, hD1, hS1, _⟩ := h1.dsk
          have hmx : x.f1.size ≤ maxLen ∧ x.f2.size ≤ maxLen := ⟨nm_max HNM.out.1, nm_max HNM.out.2⟩
          have hcp : ∀ p ∈ F, p.2.1.length ≤ 1000000 ∧ p.1.length ≤ 1000000 := fun p hp => by have h2 := HG.out.1.2.2 p hp; have h3 := HTO.out; omega
          obtain ⟨ev4, o4, z4, F4, hE4, _, hG4, hz4⟩ := app_pack (off := off) HG.out.2 x.f1 ([109, 111, 114, 101] : List Int) HG.out.1 HNM.out.1
          obtain ⟨ev5, o5, z5, F5, hE5, _, _, hG5, hz5⟩ := rem_pack (off := o4) hz4 x.f2 hG4
          have HN1 := Aside0.mk (len_lt HG.out.1 (by omega))
          have HCU := Aside0.mk (show (cur F x.f1.data.toList).1.length + ([109, 111, 114, 101] : List Int).length ≤ 1000000 by have h2 := (HG.out.1.cur x.f1.data.toList).2; have h3 := HTO.out; simp; omega)
          have HF1 := Aside0.mk (show F.length ≤ 1000 by have := HG.out.1.2.1; omega)
          have HQ1 := Aside0.mk (blk_new wr (.cells #[.int .u8 x.f0, .string x.f1, .string x.f2, .slice Ad x.f3.length cd, .int .i64 x.f4, .slice Ak x.f5.length ck] 93))
          have HLTg := Aside0.mk HP.out.lt
          have HP1 := Aside0.mk h1
          have HD1 := Aside0.mk hD1
          have HS1 := Aside0.mk hS1
          have HMX := Aside0.mk hmx
          have HCP := Aside0.mk hcp
          have HE4 := Aside0.mk hE4
          have HE5 := Aside0.mk hE5
          have HZ4 := Aside0.mk hz4
          have HG5 : Aside0 (Ls.Good F5 (i + 2) (tot (xs.take i) + 4)) := ⟨hG5⟩
          have kc := fun (w : World) (C : Array Value) (n c : Nat) => Lib.run_convert_bytes_const (P := Try.prog) w 22 5 C n c Try.underlying22 Try.underlying5
          clear h1 hD1 hS1 hmx hcp hE4 hE5 hz4 hG4 hG5 hz5
          go_wp2_with (first
            | ((with_reducible refine gate_callee (f := 73) rfl ?_); refine goesL_ (some 28) rfl rfl Try.func73 (by kernel_rfl) rfl #[.pointer (some ⟨g, 0, none⟩)] rfl (by (try simp only [List.map_toArray, List.map_cons, List.map_nil]); first | done | rfl) ?_; refine (twin_dsk _ _ _ _ _ _ _ _ HD1.out HG.out.1.1 HF1.out HCP.out).mono ?_; rintro e w2 ⟨g2, b2, n2, rfl, hg2, hb2, hD2, hbl2⟩; refine ⟨_, rfl, ?_⟩; have HT := Aside0.mk (And.intro hg2 (And.intro hb2 (And.intro hD2 hbl2))); have HQ2 := Aside0.mk (blk_below HQ1.out hbl2); have HD2 := Aside0.mk (HD1.out.below hbl2); have HS2 := Aside0.mk (show ∀ k, w2.heap.size ≤ k → S k from fun k hk => HS1.out k (Nat.le_trans hbl2.size hk)); clear hg2 hb2 hD2 hbl2; have p1w2 : w2.cell? ⟨wr.heap.size, 1, none⟩ = some (.string x.f1) := (by rw [blk_cell HQ2.out]; rfl); skip)
            | ((with_reducible refine gate_callee (f := 62) rfl ?_); refine goesL_ (some 34) rfl rfl Try.func62 (by kernel_rfl) rfl #[.pointer (some ⟨g, 0, none⟩), .string x.f1, .slice (some ⟨w2.heap.size, 0, none⟩) ([109, 111, 114, 101] : List Int).length 4] rfl (by (try simp only [List.map_toArray, List.map_cons, List.map_nil]); first | done | rfl) ?_; have HS3 := Aside0.mk (show ∀ k, (w2.alloc (.cells #[.int .u8 109, .int .u8 111, .int .u8 114, .int .u8 101] 5 (4, 5))).heap.size ≤ k → S k from fun k hk => HS2.out k (Nat.le_trans (below_alloc (Below.refl _ w2) (.cells #[.int .u8 109, .int .u8 111, .int .u8 114, .int .u8 101] 5 (4, 5))).size hk)); have HQ3 := Aside0.mk (blk_below HQ2.out (below_alloc (Below.refl _ w2) (.cells #[.int .u8 109, .int .u8 111, .int .u8 114, .int .u8 101] 5 (4, 5)))); have HK3 := Aside0.mk (Kb.of_below (fun k => k = g ∨ k = b) (below_alloc (Below.refl _ w2) (.cells #[.int .u8 109, .int .u8 111, .int .u8 114, .int .u8 101] 5 (4, 5)))); refine (append_dsk _ _ _ _ _ _ _ x.f1 (some ⟨w2.heap.size, 0, none⟩) 4 ([109, 111, 114, 101] : List Int) _ (HD2.out.below (below_alloc (Below.refl _ w2) (.cells #[.int .u8 109, .int .u8 111, .int .u8 114, .int .u8 101] 5 (4, 5)))) HMX.out.1 (lit_C w2 ([109, 111, 114, 101] : List Int) (4, 5) _ (by decide) rfl) HN1.out HS3.out HCU.out HG.out.2).mono ?_; rintro e w4 ⟨he, hD4, hK4⟩; rw [HE4.out] at hD4; subst he; refine ⟨_, rfl, ?_⟩; have HD4 := Aside0.mk hD4; have HQ4 := Aside0.mk (hK4.blk HQ3.out (by have h5 := HLTg.out; omega)); have HK4 := Aside0.mk (HK3.out.trans hK4); have HS4 := Aside0.mk (show ∀ k, w4.heap.size ≤ k → S k from fun k hk => HS3.out k (Nat.le_trans hK4.size hk)); clear hD4 hK4; have p2w4 : w4.cell? ⟨wr.heap.size, 2, none⟩ = some (.string x.f2) := (by rw [blk_cell HQ4.out]; rfl); skip)
            | ((with_reducible refine gate_callee (f := 74) rfl ?_); refine goesL_ (some 38) rfl rfl Try.func74 (by kernel_rfl) rfl #[.pointer (some ⟨g, 0, none⟩), .string x.f2] rfl (by (try simp only [List.map_toArray, List.map_cons, List.map_nil]); first | done | rfl) ?_; refine (remove_dsk _ _ _ _ _ _ _ x.f2 _ HD4.out HMX.out.2 HZ4.out).mono ?_; rintro e w5 ⟨he, hD5, hK5⟩; rw [HE5.out] at hD5; subst he; refine ⟨_, rfl, ?_⟩; have HD5 := Aside0.mk hD5; have HK5 := Aside0.mk (HK4.out.trans hK5); have HS5 := Aside0.mk (show ∀ k, w5.heap.size ≤ k → S k from fun k hk => HS4.out k (Nat.le_trans hK5.size hk)); clear hD5 hK5)
            | ((with_reducible refine gate_callee (f := 64) rfl ?_); refine goesL_ (some 40) rfl rfl Try.func64 (by kernel_rfl) rfl #[.pointer (some ⟨g, 0, none⟩), .slice none ([] : List Int).length 0] rfl (by (try simp only [List.map_toArray, List.map_cons, List.map_nil]); first | done | rfl) ?_; have T2 : F5.length ≤ 1000 := (by have := HG5.out.2.1; omega); have T3 : ∀ p ∈ F5, p.2.2 ≤ p.2.1.length ∧ p.2.1.length ≤ 1000000 ∧ p.1.length ≤ 1000000 := (fun p hp => by have h1 := HG5.out.2.2 p hp; have h2 := HTO.out; omega); have T5 := crash_dsk _ _ _ _ _ _ _ none 0 [] _ HD5.out HG5.out.1 T2 T3 HS5.out (Kd.F_nil _ _ _); refine T5.mono ?_; clear T2 T3 T5; rintro e w7 ⟨he, hD7, hK7⟩; subst he; refine ⟨_, rfl, ?_⟩; have HK7 := Aside0.mk (HK5.out.trans hK7); clear hD7 hK7; have HP2 := Aside0.mk (HP1.out.twin HT.out.2.2.2 HT.out.1 HT.out.2.1 HT.out.2.2.1 HK7.out); have HG2 : Aside0 (Ls.Good F (i + 1) (tot (xs.take i) + x.f3.length) ∧ Zok z) := ⟨HG.out.1.more (Nat.le_succ _) (Nat.le_add_right _ _), HG.out.2⟩)
            | ((with_reducible refine gate_callee (f := 76) rfl ?_); refine goesL_ (some 49) rfl rfl Try.func76 (by kernel_rfl) rfl #[.pointer (some ⟨g2, 0, none⟩), .pointer (some ⟨r, 0, none⟩)] rfl (by (try simp only [List.map_toArray, List.map_cons, List.map_nil]); first | done | rfl) ?_; obtain ⟨S2, hD2, _, _⟩ := HP2.out.dsk; obtain ⟨ok2, hR2, _, _, _⟩ := HP2.out.ref; refine (told_c _ _ _ _ _ _ _ _ _ _ _ hD2 hR2 HG2.out.1.1 (by have := HG2.out.1.2.1; omega) (fun p hp => by have h1 := HG2.out.1.2.2 p hp; have h2 := HTO.out; omega)).mono ?_; rintro e w6 ⟨rfl, hb⟩; refine ⟨_, rfl, ?_⟩; have HP3 := Aside0.mk (HP2.out.below hb); clear hD2 hR2 hb)
            | fail)
          go_roundg (xs.length - (i + 1))
          case measure => have := hi.out; omega
          case rel => exact ⟨i + 1, g2, b2, _, _, _, rfl, by simp, ⟨by omega, rfl⟩, ⟨HP3.out⟩, ⟨HTO.out.1 ▸ HG2.out.1, HG2.out.2⟩⟩
        · have hb6 : (x.f0 == 6) = false := by simpa using h6
          clear h6
          go_wp2_with (first
            | ((with_reducible refine gate_callee (f := 75) rfl ?_); refine goesL_ (some 45) rfl rfl Try.func75 (by kernel_rfl) rfl #[.pointer (some ⟨g, 0, none⟩), .pointer (some ⟨r, 0, none⟩), .agg #[.int .u8 x.f0, .string x.f1, .string x.f2, .slice Ad x.f3.length cd, .int .i64 x.f4, .slice Ak x.f5.length ck]] rfl (by (try simp only [List.map_toArray, List.map_cons, List.map_nil]); first | done | rfl) ?_; refine (one_c x Ad cd Ak ck (HP.out.below (below_alloc (Below.refl _ _) (.cells #[.int .u8 x.f0, .string x.f1, .string x.f2, .slice Ad x.f3.length cd, .int .i64 x.f4, .slice Ak x.f5.length ck] 93))) HG.out.1 (by omega) (by have := HTO.out; omega) HG.out.2 HNM.out.1 HNM.out.2 HQX.out.2 HCd.out HQX.out.1 HCk.out).mono ?_; rintro e w5 ⟨rfl, off2, z2, F2, hp, hg, hz⟩; refine ⟨_, rfl, ?_⟩; have HP2 := Aside0.mk hp; have HG2 := Aside0.mk (And.intro hg hz); clear hp hg hz)
            | ((with_reducible refine gate_callee (f := 76) rfl ?_); refine goesL_ (some 49) rfl rfl Try.func76 (by kernel_rfl) rfl #[.pointer (some ⟨g, 0, none⟩), .pointer (some ⟨r, 0, none⟩)] rfl (by (try simp only [List.map_toArray, List.map_cons, List.map_nil]); first | done | rfl) ?_; obtain ⟨S2, hD2, _, _⟩ := HP2.out.dsk; obtain ⟨ok2, hR2, _, _, _⟩ := HP2.out.ref; refine (told_c _ _ _ _ _ _ _ _ _ _ _ hD2 hR2 HG2.out.1.1 (by have := HG2.out.1.2.1; omega) (fun p hp => by have h1 := HG2.out.1.2.2 p hp; have h2 := HTO.out; omega)).mono ?_; rintro e w6 ⟨rfl, hb⟩; refine ⟨_, rfl, ?_⟩; have HP3 := Aside0.mk (HP2.out.below hb); clear hD2 hR2 hb)
            | fail)
          go_roundg (xs.length - (i + 1))
          case measure => have := hi.out; omega
          case rel => exact ⟨i + 1, g, b, _, _, _, rfl, by simp, ⟨by omega, rfl⟩, ⟨HP3.out⟩, ⟨HTO.out.1 ▸ HG2.out.1, HG2.out.2⟩⟩
      · have hie : i = xs.length := by have := hi.out.1; omega
        subst hie
        have hltb : decide ((xs.length : Int) < (xs.length : Int)) = false := decide_eq_false (by omega)
        have hltb2 : decide (xs.length < xs.length) = false := decide_eq_false (by omega)
        go_wp2_with (fail)
        go_ret
        exact ⟨rfl, HP.out.HB⟩
end Go.Proofs.Ytobgijpbfmpdaaa.Rk
