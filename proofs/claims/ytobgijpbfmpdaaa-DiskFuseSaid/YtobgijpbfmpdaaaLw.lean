/- DiskLasts: the walk. -/
import Derived.Test.YtobgijpbfmpdaaaLt
set_option linter.unusedVariables false
set_option linter.unusedSimpArgs false
set_option maxRecDepth 100000
namespace Go.Proofs.Ytobgijpbfmpdaaa.Ls
open Go.RowKit Go.Proofs.YtobgijpbfmpdaaaW.PrintWords Go.Proofs.YtobgijpbfmpdaaaW.PrintLast Go.Proofs.YtobgijpbfmpdaaaW.PrintMore
open Go.Proofs.Ytobgijpbfmpdaaa.Fm Go.Proofs.Ytobgijpbfmpdaaa.Mp Go.Proofs.Ytobgijpbfmpdaaa.Dk Go.Proofs.Ytobgijpbfmpdaaa.PDp
set_option maxHeartbeats 8000000
theorem run_ok : ∀ xs : List S93, (∀ x ∈ xs, Crc.bytesOk x.f3 = true) → Crc.bytesOk (run xs).1 = true := by
  have h : ∀ (xs : List S93) (s : Cont), Crc.bytesOk s.1 = true → (∀ x ∈ xs, Crc.bytesOk x.f3 = true) → Crc.bytesOk (xs.foldl stp s).1 = true := by
    intro xs
    induction xs with
    | nil => intro s h _; exact h
    | cons x r ih =>
      intro s h hx
      rw [List.foldl_cons]
      refine ih _ ?_ (fun y hy => hx y (List.mem_cons_of_mem _ hy))
      have h1 : Crc.bytesOk (s.1 ++ x.f3) = true := by
        have h2 := hx x (by simp)
        unfold Crc.bytesOk at h h2 ⊢
        rw [List.all_append, h, h2]; rfl
      unfold stp
      split
      · exact h1
      split
      · unfold Crc.bytesOk at h1 ⊢
        rw [List.all_eq_true] at h1 ⊢
        exact fun y hy => h1 y (List.mem_of_mem_take hy)
      · exact h1
  exact fun xs => h xs ([], 0) rfl
theorem start {W W2 W3 W4 : World} {S : Nat → Prop} (hD3 : Dsk W3 (W2.heap.size + 1) W2.heap.size 0 false (-1) [] S) (hB3 : Below W.heap.size W W3) (hsz : W.heap.size ≤ W2.heap.size)
    (hD : Dsk W4 (W2.heap.size + 1) W2.heap.size 1 false (-1) [([102], ([], 0))] (Sx W.heap.size (W2.heap.size + 1) W2.heap.size (.slice none 0 0))) (hK : Kb (fun k => k = W2.heap.size + 1 ∨ k = W2.heap.size) W3 W4) :
    Sta W W4 W.heap.size (W2.heap.size + 1) W2.heap.size ([], 0) [] (.slice none 0 0) none [] :=
  ⟨hD, Kd.R_nil _ _ _ _ _, Kd.F_nil _ _ _, hB3.trans (hK.to_below hB3.size (fun k e => by omega)), ⟨by omega, by omega⟩⟩
theorem lasts (xs : List S93) (A0 : Option Addr) (c0 : Nat) (W : World) (hC : Kd.C k93 W A0 xs.length xs) (hc0 : xs.length ≤ c0) (hQ : ∀ x ∈ xs, (0 ≤ x.f0 ∧ x.f0 < 256) ∧ Crc.bytesOk x.f3 = true) :
    Calls Try.prog 15 #[.slice A0 xs.length c0] W fun e W' => e = .returned (.bool true) ∧ Below W.heap.size W W' := by
  have HC := Aside0.mk hC
  have HQ := Aside0.mk hQ
  obtain ⟨r, hl, ht⟩ := long_f xs
  have HL := Aside0.mk hl
  have HT := Aside0.mk ht
  have hxl : xs.length ≤ 9223372036854775807 := hC.2.1
  clear hC hQ hl ht
  cases r with
  | true =>
    go_enter Try.func15, Try.ntmps15
    go_wp2_with (first
      | ((with_reducible refine gate_callee (f := 59) rfl ?_); refine goesL_ (some 11) rfl rfl Try.func59 (by kernel_rfl) rfl #[] rfl (by (try simp only [List.map_toArray, List.map_cons, List.map_nil]); first | done | rfl) ?_; refine (awake25 _).mono ?_; rintro e w1 ⟨rfl, hb⟩; refine ⟨_, rfl, ?_⟩; have HB1 := Aside0.mk hb; clear hb)
      | ((with_reducible refine gate_callee (f := 60) rfl ?_); refine goesL_ (some 14) rfl rfl Try.func60 (by kernel_rfl) rfl #[.slice A0 xs.length c0] rfl (by (try simp only [List.map_toArray, List.map_cons, List.map_nil]); first | done | rfl) ?_; refine (prompterlaw25_long.calls 162 A0 c0 xs _ _ (Kd.C_below HC.out HB1.out) hc0 HL.out).mono ?_; rintro e w2 ⟨rfl, hb⟩; refine ⟨_, rfl, ?_⟩; have HB2 := Aside0.mk (below_step HB1.out hb.below); clear hb HB1)
      | fail)
    go_ret
    exact ⟨rfl, HB2.out⟩
  | false =>
    by_cases h40 : 40 < xs.length
    · have h40b : decide ((40 : Int) < (xs.length : Int)) = true := decide_eq_true (by omega)
      have h40c : decide (40 < xs.length) = true := decide_eq_true h40
      go_enter Try.func15, Try.ntmps15
      go_wp2_with (first
        | ((with_reducible refine gate_callee (f := 59) rfl ?_); refine goesL_ (some 11) rfl rfl Try.func59 (by kernel_rfl) rfl #[] rfl (by (try simp only [List.map_toArray, List.map_cons, List.map_nil]); first | done | rfl) ?_; refine (awake25 _).mono ?_; rintro e w1 ⟨rfl, hb⟩; refine ⟨_, rfl, ?_⟩; have HB1 := Aside0.mk hb; clear hb)
        | ((with_reducible refine gate_callee (f := 60) rfl ?_); refine goesL_ (some 14) rfl rfl Try.func60 (by kernel_rfl) rfl #[.slice A0 xs.length c0] rfl (by (try simp only [List.map_toArray, List.map_cons, List.map_nil]); first | done | rfl) ?_; refine (prompterlaw25_long.calls 162 A0 c0 xs _ _ (Kd.C_below HC.out HB1.out) hc0 HL.out).mono ?_; rintro e w2 ⟨rfl, hb⟩; refine ⟨_, rfl, ?_⟩; have HB2 := Aside0.mk (below_step HB1.out hb.below); clear hb HB1)
        | fail)
      go_ret
      exact ⟨rfl, HB2.out⟩
    · have h40b : decide ((40 : Int) < (xs.length : Int)) = false := decide_eq_false (by omega)
      have h40c : decide (40 < xs.length) = false := decide_eq_false h40
      go_enter Try.func15, Try.ntmps15
      go_wp2_with (first
        | ((with_reducible refine gate_callee (f := 59) rfl ?_); refine goesL_ (some 11) rfl rfl Try.func59 (by kernel_rfl) rfl #[] rfl (by (try simp only [List.map_toArray, List.map_cons, List.map_nil]); first | done | rfl) ?_; refine (awake25 _).mono ?_; rintro e w1 ⟨rfl, hb⟩; refine ⟨_, rfl, ?_⟩; have HB1 := Aside0.mk hb; clear hb)
        | ((with_reducible refine gate_callee (f := 60) rfl ?_); refine goesL_ (some 14) rfl rfl Try.func60 (by kernel_rfl) rfl #[.slice A0 xs.length c0] rfl (by (try simp only [List.map_toArray, List.map_cons, List.map_nil]); first | done | rfl) ?_; refine (prompterlaw25_long.calls 162 A0 c0 xs _ _ (Kd.C_below HC.out HB1.out) hc0 HL.out).mono ?_; rintro e w2 ⟨rfl, hb⟩; refine ⟨_, rfl, ?_⟩; have HB2 := Aside0.mk (below_step HB1.out hb.below); clear hb HB1)
        | ((with_reducible refine gate_callee (f := 61) rfl ?_); refine goesL_ (some 20) rfl rfl Try.func61 (by kernel_rfl) rfl #[] rfl (by (try simp only [List.map_toArray, List.map_cons, List.map_nil]); first | done | rfl) ?_; refine (new_dsk _).mono ?_; rintro e w3 ⟨rfl, hw3⟩; refine ⟨_, rfl, ?_⟩; have HD3 := Aside0.mk (show Dsk w3 (w2.heap.size + 1) w2.heap.size 0 false (-1) [] (Sx W.heap.size (w2.heap.size + 1) w2.heap.size (.slice none 0 0)) by rw [hw3]; exact dsk_new w2 _ (fun k hk => ⟨hk.2.1, hk.2.2.1⟩)); have HB3 := Aside0.mk (show Below W.heap.size W w3 by rw [hw3]; exact below_step HB2.out (below_alloc (below_alloc (Below.refl _ _) _) _)); clear hw3)
        | ((with_reducible refine gate_callee (f := 62) rfl ?_); refine goesL_ (some 22) rfl rfl Try.func62 (by kernel_rfl) rfl #[.pointer (some ⟨w2.heap.size + 1, 0, none⟩), .string { data := #[102] }, .slice none ([] : List Int).length 0] rfl (by (try simp only [List.map_toArray, List.map_cons, List.map_nil]); first | done | rfl) ?_; refine (append_dsk _ _ _ _ _ _ _ { data := #[102] } none 0 [] _ HD3.out (by decide) (Kd.C_nil _ _) (by decide) (fun k hk => by have h1 := HD3.out.glt; have h2 := HD3.out.blt; have h3 := HB2.out.size; exact ⟨by omega, by omega, by omega, by simp [Value.ownBlock]⟩) (by decide) (by decide)).mono ?_; rintro e w4 ⟨he, hD, hK⟩; have he : e = .returned (.int .i64 0) := he; subst he; refine ⟨_, rfl, ?_⟩; have HS4 := Aside0.mk (start HD3.out HB3.out HB2.out.size hD hK); clear hD hK HD3 HB3)
        | fail)
      obtain ⟨b, hb⟩ : ∃ b, b = w2.heap.size := ⟨_, rfl⟩
      have hg0 : W.heap.size ≤ w2.heap.size := HB2.out.size
      rw [← hb] at HS4 hg0 ⊢
      clear hb HB2
      obtain ⟨g, hg⟩ : ∃ g, g = b + 1 := ⟨_, rfl⟩
      rw [← hg] at HS4 ⊢
      clear hg
      go_loopg [4, 5, 6] xs.length (fun kk v4 v5 v6 wr => ∃ (i : Nat) (A4 : Option Addr) (c4 : Nat) (A5 : Option Addr) (c5 : Nat) (al sr : List Int) (k : Nat), v4 = .slice A4 sr.length c4 ∧ v5 = .slice A5 al.length c5 ∧ v6 = .int .i64 i ∧
        Aside0 (i ≤ xs.length ∧ kk = xs.length - i) ∧ Aside0 (Sta W wr W.heap.size g b (al, k) al (.slice A5 al.length c5) A4 sr) ∧ Aside0 ((al, k) = run (xs.take i) ∧ sr = al.take k ∧ sr.length ≤ c4))
      case atStart => exact ⟨0, none, 0, none, 0, [], [], 0, rfl, rfl, rfl, ⟨Nat.zero_le _, rfl⟩, HS4, ⟨rfl, rfl, Nat.le_refl _⟩⟩
      case round =>
        obtain ⟨i, A4, c4, A5, c5, al, sr, k, rfl, rfl, rfl, hi, HS, HR⟩ := hrel
        clear HS4
        by_cases hlt : i < xs.length
        · have hltb : decide ((i : Int) < (xs.length : Int)) = true := decide_eq_true (by omega)
          have hltb2 : decide (i < xs.length) = true := decide_eq_true hlt
          have hlt1 : (i : Int) < (xs.length : Int) := by omega
          have hi0 : (0 : Int) ≤ (i : Int) := by omega
          obtain ⟨x, hx⟩ : ∃ x, x = rd_T93 xs (i : Int) := ⟨_, rfl⟩
          obtain ⟨ad, Ad, cd, Ak, ck, eA, q0, q1, q2, q3, q4, q5, hcd, hCd, hck, hCk⟩ := at_T93 HC.out (i : Int) hi0 hlt1
          rw [Int.toNat_natCast] at q0 q1 q2 q3 q4 q5
          rw [← hx] at q0 q1 q2 q3 q4 q5 hcd hCd hck hCk
          replace q0 := pw_cell_below HS.out.HB q0
          replace q1 := pw_cell_below HS.out.HB q1
          replace q2 := pw_cell_below HS.out.HB q2
          replace q3 := pw_cell_below HS.out.HB q3
          replace q4 := pw_cell_below HS.out.HB q4
          replace q5 := pw_cell_below HS.out.HB q5
          subst eA
          have hxi : x = xs[i] := hx.trans (rd_at xs i hlt)
          have hrun : run (xs.take (i + 1)) = stp (al, k) x := by rw [run_take xs i hlt, ← HR.out.1, hxi]
          have hok : Crc.bytesOk (stp (al, k) x).1 = true := by rw [← hrun]; exact run_ok _ (fun y hy => (HQ.out y (List.mem_of_mem_take hy)).2)
          have hst := stp_le (al, k) x
          have hkl : k ≤ al.length ∧ al.length + x.f3.length ≤ 5000 := by
            have h1 := run_le (xs.take i)
            have h2 := tot_step xs i hlt
            rw [← HR.out.1] at h1
            rw [← hxi] at h2
            have h3 := HT.out trivial
            dsimp only at h1
            exact ⟨h1.1, by omega⟩
          have hf0 : 0 ≤ x.f0 ∧ x.f0 < 256 := (HQ.out x (by rw [hxi]; exact List.getElem_mem hlt)).1
          obtain ⟨al1, hal1⟩ : ∃ y, y = al ++ x.f3 := ⟨_, rfl⟩
          have hsr : sr = al1.take k ∧ sr.length = k := by
            have h1 := HR.out.2.1
            refine ⟨?_, by rw [h1, List.length_take]; omega⟩
            rw [h1, hal1, List.take_append_of_le_length hkl.1]
          have hal : al1.length = al.length + x.f3.length := by rw [hal1, List.length_append]
          have hok1 : Crc.bytesOk al1 = true := by
            have h1 := run_ok (xs.take i) (fun y hy => (HQ.out y (List.mem_of_mem_take hy)).2)
            have h2 := (HQ.out x (by rw [hxi]; exact List.getElem_mem hlt)).2
            rw [← HR.out.1] at h1
            unfold Crc.bytesOk at h1 h2 ⊢
            rw [hal1, List.all_append, h1, h2]; rfl
          have HAL := Aside0.mk (show al1.length ≤ 5000 ∧ k ≤ al1.length by omega)
          have HSR := Aside0.mk hsr
          have H1 := Aside0.mk hal1
          have HOK1 := Aside0.mk hok1
          have Hal := Aside0.mk hal
          have hsrb : sr.length ≤ 5000 := by have := HAL.out; have := hsr.2; omega
          have halb : al1.length ≤ 5000 := HAL.out.1
          have HSC := Aside0.mk HR.out.2.2
          have HX := Aside0.mk hrun
          have HCd := Aside0.mk hCd
          have HCk := Aside0.mk hCk
          have Hcd := Aside0.mk hcd
          have HKL := Aside0.mk hkl
          have HOK := Aside0.mk hok
          have HST := Aside0.mk (hst hkl.1)
          clear hCd hCk hx hcd hrun hok hst hxi hkl hal1 hsr hok1 hal
          by_cases hm1 : x.f0 % 3 = 1
          · have hb1 : (x.f0 % 3 == 1) = true := by simpa using hm1
            have hb2 : (x.f0 % 3 == 2) = false := by simpa using (by omega : ¬ x.f0 % 3 = 2)
            have hs1 : stp (al, k) x = (al1, al1.length) := by unfold stp; rw [if_pos hm1, H1.out]
            have HS1 := Aside0.mk hs1
            have HNL := Aside0.mk (show al1.length ≤ 5000 from HAL.out.1)
            obtain ⟨nw, hnw⟩ : ∃ nw, nw = al1.length - al1.length := ⟨_, rfl⟩
            have hn0 : nw = 0 := by omega
            have Hnw := Aside0.mk hnw
            clear hs1 hnw
            go_wp2_with (first
              | ((with_reducible refine gate_callee (f := 62) rfl ?_); refine goesL_ (some 37) rfl rfl Try.func62 (by kernel_rfl) rfl #[.pointer (some ⟨g, 0, none⟩), .string { data := #[102] }, .slice Ad x.f3.length cd] rfl (by (try simp only [List.map_toArray, List.map_cons, List.map_nil]); first | done | rfl) ?_; have HM := Aside0.mk (HS.out.mid (.cells #[.int .u8 x.f0, .string x.f1, .string x.f2, .slice Ad x.f3.length cd, .int .i64 x.f4, .slice Ak x.f5.length ck] 93)); refine (append_dsk _ _ _ _ _ _ _ { data := #[102] } Ad cd x.f3 _ HM.out.st.HD (by decide) (Kd.C_below HCd.out HM.out.st.HB) (by decide) HM.out.st.fresh (show al.length + x.f3.length ≤ 1000000 by have := HKL.out; omega) (by decide)).mono ?_; rintro e w5 ⟨he, hD, hK⟩; have he : e = .returned (.int .i64 0) := he; subst he; refine ⟨_, rfl, ?_⟩; have hD : Dsk w5 g b 2 false (-1) [([102], (al1, k))] _ := (by rw [H1.out]; exact hD); have n0_ := Aside0.mk (HM.out.dsk hD hK); clear HM; have HM := n0_; clear n0_; clear hD hK HS; have p0w5 : w5.cell? ⟨wr.heap.size, 0, none⟩ = some (.int .u8 x.f0) := (by rw [blk_cell HM.out.hq]; rfl); have p3w5 : w5.cell? ⟨wr.heap.size, 3, none⟩ = some (.slice Ad x.f3.length cd) := (by rw [blk_cell HM.out.hq]; rfl); have p5w5 : w5.cell? ⟨wr.heap.size, 5, none⟩ = some (.slice Ak x.f5.length ck) := (by rw [blk_cell HM.out.hq]; rfl); skip)
              | ((with_reducible refine gate_dst (N := 42) rfl ?_); refine Mine.app_u8 (w0 := W) W.heap.size rfl (.tmp 39) (.tmp 41) rfl (.slice A5 al.length c5) al x.f3 Ad x.f3.length cd (fun q => q ≠ g ∧ q ≠ b) rfl rfl HM.out.st.HR (Kd.C_below HCd.out HM.out.st.HB) (fun q hq => by have h1 := HM.out.st.HD.glt; have h2 := HM.out.st.HD.blt; omega) HM.out.st.HB HM.out.st.HB.size (by have := HKL.out; omega) ?_; intro v6 w6 ho hb_ hgr hat; rw [← H1.out] at ho; obtain ⟨A6, c6, e6⟩ := Kd.R_slice ho; subst e6; have n0_ := Aside0.mk (HM.out.app ho hb_ hgr hat); clear HM; have HM := n0_; clear n0_; clear ho hb_ hgr hat; have p0w6 : w6.cell? ⟨wr.heap.size, 0, none⟩ = some (.int .u8 x.f0) := (by rw [blk_cell HM.out.hq]; rfl); have p3w6 : w6.cell? ⟨wr.heap.size, 3, none⟩ = some (.slice Ad x.f3.length cd) := (by rw [blk_cell HM.out.hq]; rfl); have p5w6 : w6.cell? ⟨wr.heap.size, 5, none⟩ = some (.slice Ak x.f5.length ck) := (by rw [blk_cell HM.out.hq]; rfl); skip)
              | ((with_reducible refine gate_callee (f := 63) rfl ?_); refine goesL_ (some 48) rfl rfl Try.func63 (by kernel_rfl) rfl #[.pointer (some ⟨g, 0, none⟩), .string { data := #[102] }] rfl (by (try simp only [List.map_toArray, List.map_cons, List.map_nil]); first | done | rfl) ?_; refine (sync_dsk _ _ _ _ _ _ _ { data := #[102] } _ HM.out.st.HD (by decide) (by decide) (by decide)).mono ?_; rintro e w7 ⟨he, hD, hK⟩; have he : e = .returned (.int .i64 0) := he; subst he; refine ⟨_, rfl, ?_⟩; have hD : Dsk w7 g b 2 false (-1) [([102], (al1, al1.length))] _ := hD; have n0_ := Aside0.mk (HM.out.dsk hD hK); clear HM; have HM := n0_; clear n0_; clear hD hK; obtain ⟨b8, s8, w8, c8, hb8, hcv1, hcv2, hbl8, hF8, hl8⟩ := copy (c := c6) w7 (Kd.R_reads' HM.out.st.HR).2.2 (HOK1.out) (by have := HNL.out; omega); have HL8 := Aside0.mk hl8; have n0_ := Aside0.mk (HM.out.copied hbl8 hb8 hF8); clear HM; have HM := n0_; clear n0_; clear hbl8 hF8 hl8 hb8; have p0w8 : w8.cell? ⟨wr.heap.size, 0, none⟩ = some (.int .u8 x.f0) := (by rw [blk_cell HM.out.hq]; rfl); have p3w8 : w8.cell? ⟨wr.heap.size, 3, none⟩ = some (.slice Ad x.f3.length cd) := (by rw [blk_cell HM.out.hq]; rfl); have p5w8 : w8.cell? ⟨wr.heap.size, 5, none⟩ = some (.slice Ak x.f5.length ck) := (by rw [blk_cell HM.out.hq]; rfl); skip)
              | ((with_reducible refine gate_callee (f := 65) rfl ?_); refine goesL_ (some 88) rfl rfl Try.func65 (by kernel_rfl) rfl #[.pointer (some ⟨g, 0, none⟩), .string { data := #[102] }] rfl (by (try simp only [List.map_toArray, List.map_cons, List.map_nil]); first | done | rfl) ?_; refine (read_dsk _ _ _ _ _ _ _ { data := #[102] } (by decide) _ HM.out.st.HD (show al1.length ≤ 1000000 by have := HNL.out; omega)).mono ?_; rintro e w9 ⟨v9, he, hR, hb_⟩; have he : e = .returned (.tuple #[v9, .int .i64 0]) := he; subst he; refine ⟨_, rfl, ?_⟩; have hR : Kd.R (Kd.int .u8) 5 w9 _ (fun _ => True) v9 al1 := hR; obtain ⟨A9, c9, e9⟩ := Kd.R_slice hR; subst e9; have HR9 := Aside0.mk (Kd.R_reads' hR); have n0_ := Aside0.mk (HM.out.below hb_); clear HM; have HM := n0_; clear n0_; have hcg := Kd.C_string (P := Try.prog) Try.underlying22 Try.underlying5 Try.underlying9 (c := c9) HR9.out.2.2; have hca := Kd.C_string (P := Try.prog) Try.underlying22 Try.underlying5 Try.underlying9 (c := c6) (Kd.R_reads' HM.out.st.HR).2.2; clear hR hb_)
              | ((with_reducible refine gate_callee (f := 66) rfl ?_); (try (refine gate_guard (by rfl) ?_; dsimp only)); refine goesL_ (some 103) rfl rfl Try.func66 (by kernel_rfl) rfl #[.slice A9 al1.length c9, .slice (some ⟨b8, 0, none⟩) al1.length c8] rfl (by (try simp only [List.map_toArray, List.map_cons, List.map_nil]); first | done | rfl) ?_; refine (begins A9 c9 al1 (some ⟨b8, 0, none⟩) c8 al1 al1.length ((List.take_length).symm) _ HR9.out.2.2 HR9.out.2.1 (Kd.F_now HM.out.st.HF)).mono ?_; rintro e w10 ⟨rfl, hb_⟩; refine ⟨_, rfl, ?_⟩; have n0_ := Aside0.mk (HM.out.below hb_.below); clear HM; have HM := n0_; clear n0_; clear hb_)
              | ((with_reducible refine gate_callee (f := 67) rfl ?_); (try (refine gate_guard (by rfl) ?_; dsimp only)); refine goesL_ (some 108) rfl rfl Try.func67 (by kernel_rfl) rfl #[.pointer (some ⟨g, 0, none⟩), .string { data := #[102] }] rfl (by (try simp only [List.map_toArray, List.map_cons, List.map_nil]); first | done | rfl) ?_; refine (waits_dsk _ _ _ _ _ _ _ { data := #[102] } (by decide) _ HM.out.st.HD (show al1.length ≤ al1.length ∧ al1.length ≤ 1000000 by have := HNL.out; omega)).mono ?_; rintro e w11 ⟨he, hb_⟩; have he : e = .returned (.int .i64 ((al1.length - al1.length : Nat) : Int)) := he; rw [← Hnw.out] at he; subst he; refine ⟨_, rfl, ?_⟩; have n0_ := Aside0.mk (HM.out.below hb_); clear HM; have HM := n0_; clear n0_; clear hb_)
              | fail)
            go_roundg (xs.length - (i + 1))
            case measure => have := hi.out; omega
            case rel => exact ⟨i + 1, (some ⟨b8, 0, none⟩), c8, A6, c6, al1, al1, al1.length, rfl, rfl, by simp, ⟨by omega, rfl⟩, ⟨HM.out.st⟩, ⟨HX.out.symm ▸ ⟨HS1.out.symm, (List.take_length).symm, HL8.out⟩⟩⟩
          by_cases hm2 : x.f0 % 3 = 2
          · have hb1 : (x.f0 % 3 == 1) = false := by simpa using hm1
            have hb2 : (x.f0 % 3 == 2) = true := by simpa using hm2
            obtain ⟨nn, hnn⟩ : ∃ nn, nn = keptN x.f5 0 (al1, k) := ⟨_, rfl⟩
            obtain ⟨N, hN⟩ : ∃ N, N = k + nn := ⟨_, rfl⟩
            obtain ⟨al2, hal2⟩ : ∃ y, y = al1.take N := ⟨_, rfl⟩
            have hNl : N ≤ al1.length := by
              have h1 := keptN_le x.f5 0 (al1, k)
              rw [← hnn] at h1
              have := HAL.out
              dsimp only at h1
              omega
            have hs1 : stp (al, k) x = (al2, N) := by
              have : lastN (al, k) x = N := by unfold lastN; rw [← H1.out, ← hnn, hN]
              unfold stp
              rw [if_neg hm1, if_pos hm2, this, ← H1.out, hal2]
            have HS1 := Aside0.mk hs1
            have hok2 := HOK.out
            rw [hs1] at hok2
            have HOK2 := Aside0.mk (show Crc.bytesOk al2 = true from hok2)
            have h2l : al2.length = N := by rw [hal2, List.length_take]; omega
            have HNL := Aside0.mk (show N ≤ al2.length ∧ al2.length ≤ 5000 by have := HAL.out; omega)
            have HN := Aside0.mk hNl
            have HNk := Aside0.mk (show N = k + keptN x.f5 0 (al1, k) by rw [← hnn]; exact hN)
            have Hal2 := Aside0.mk hal2
            obtain ⟨nw, hnw⟩ : ∃ nw, nw = al2.length - N := ⟨_, rfl⟩
            have hn0 : nw = 0 := by omega
            have Hnw := Aside0.mk hnw
            have hsub : IntKind.i64.wrap ((al1.length : Int) - (sr.length : Int)) = ((al1.length - k : Nat) : Int) := by
              have h1 := HAL.out
              have h2 := HSR.out.2
              rw [IntWalk.i64_in _ ⟨by omega, by omega⟩]; omega
            have hadd : IntKind.i64.wrap ((sr.length : Int) + (nn : Int)) = (N : Int) := by
              have h1 := HAL.out
              have h2 := HSR.out.2
              rw [IntWalk.i64_in _ ⟨by omega, by omega⟩]; omega
            by_cases hik : 0 < x.f5.length
            · have hik1 : decide ((0 : Int) < (x.f5.length : Int)) = true := decide_eq_true (by omega)
              have hik2 : decide (0 < x.f5.length) = true := decide_eq_true hik
              have hmm : max 0 (min (rd x.f5 0) ((al1.length - k : Nat) : Int)) = (nn : Int) := by
                have h1 : (((0 : Nat) : Int)) < (x.f5.length : Int) := by omega
                rw [hnn]; unfold keptN; rw [if_pos h1]; simp only []; have : rd x.f5 ((0 : Nat) : Int) = rd x.f5 0 := rfl; rw [this]; omega
              obtain ⟨ak, hAk, hk0⟩ := Kd.at_int HCk.out 0 (by omega) (by omega)
              subst hAk
              have hk00 : W.cell? ak = some (.int .i64 (rd x.f5 0)) := by have h := hk0; rw [show ((0 : Int)).toNat = 0 from rfl, Addr.add_zero'] at h; exact h
              have HK0 := Aside0.mk hk00
              clear hs1 hok2 hnn hN hal2 hNl h2l hnw hk0 hk00
              go_wp2_with (first
                | ((with_reducible refine gate_callee (f := 62) rfl ?_); refine goesL_ (some 37) rfl rfl Try.func62 (by kernel_rfl) rfl #[.pointer (some ⟨g, 0, none⟩), .string { data := #[102] }, .slice Ad x.f3.length cd] rfl (by (try simp only [List.map_toArray, List.map_cons, List.map_nil]); first | done | rfl) ?_; have HM := Aside0.mk (HS.out.mid (.cells #[.int .u8 x.f0, .string x.f1, .string x.f2, .slice Ad x.f3.length cd, .int .i64 x.f4, .slice (some ak) x.f5.length ck] 93)); refine (append_dsk _ _ _ _ _ _ _ { data := #[102] } Ad cd x.f3 _ HM.out.st.HD (by decide) (Kd.C_below HCd.out HM.out.st.HB) (by decide) HM.out.st.fresh (show al.length + x.f3.length ≤ 1000000 by have := HKL.out; omega) (by decide)).mono ?_; rintro e w5 ⟨he, hD, hK⟩; have he : e = .returned (.int .i64 0) := he; subst he; refine ⟨_, rfl, ?_⟩; have hD : Dsk w5 g b 2 false (-1) [([102], (al1, k))] _ := (by rw [H1.out]; exact hD); have n0_ := Aside0.mk (HM.out.dsk hD hK); clear HM; have HM := n0_; clear n0_; clear hD hK HS; have p0w5 : w5.cell? ⟨wr.heap.size, 0, none⟩ = some (.int .u8 x.f0) := (by rw [blk_cell HM.out.hq]; rfl); have p3w5 : w5.cell? ⟨wr.heap.size, 3, none⟩ = some (.slice Ad x.f3.length cd) := (by rw [blk_cell HM.out.hq]; rfl); have p5w5 : w5.cell? ⟨wr.heap.size, 5, none⟩ = some (.slice (some ak) x.f5.length ck) := (by rw [blk_cell HM.out.hq]; rfl); skip)
                | ((with_reducible refine gate_dst (N := 42) rfl ?_); refine Mine.app_u8 (w0 := W) W.heap.size rfl (.tmp 39) (.tmp 41) rfl (.slice A5 al.length c5) al x.f3 Ad x.f3.length cd (fun q => q ≠ g ∧ q ≠ b) rfl rfl HM.out.st.HR (Kd.C_below HCd.out HM.out.st.HB) (fun q hq => by have h1 := HM.out.st.HD.glt; have h2 := HM.out.st.HD.blt; omega) HM.out.st.HB HM.out.st.HB.size (by have := HKL.out; omega) ?_; intro v6 w6 ho hb_ hgr hat; rw [← H1.out] at ho; obtain ⟨A6, c6, e6⟩ := Kd.R_slice ho; subst e6; have n0_ := Aside0.mk (HM.out.app ho hb_ hgr hat); clear HM; have HM := n0_; clear n0_; clear ho hb_ hgr hat; have p0w6 : w6.cell? ⟨wr.heap.size, 0, none⟩ = some (.int .u8 x.f0) := (by rw [blk_cell HM.out.hq]; rfl); have p3w6 : w6.cell? ⟨wr.heap.size, 3, none⟩ = some (.slice Ad x.f3.length cd) := (by rw [blk_cell HM.out.hq]; rfl); have p5w6 : w6.cell? ⟨wr.heap.size, 5, none⟩ = some (.slice (some ak) x.f5.length ck) := (by rw [blk_cell HM.out.hq]; rfl); have k0w6 := pw_cell_below HM.out.st.HB HK0.out; obtain ⟨m, hm, hcut, hCm, hmc, hml⟩ := Mine.cut_take A6 c6 al1 (N : Int) (by omega) (by have := HN.out; omega) (Kd.R_reads' HM.out.st.HR).2.1; rw [Int.toNat_natCast, ← Hal2.out] at hm; rw [hm] at hcut hml; rw [Int.toNat_natCast] at hml; clear hCm hmc hm; have HML := Aside0.mk hml; clear hml; skip)
                | ((with_reducible refine gate_callee (f := 64) rfl ?_); refine goesL_ (some 75) rfl rfl Try.func64 (by kernel_rfl) rfl #[.pointer (some ⟨g, 0, none⟩), .slice (some ak) x.f5.length ck] rfl (by (try simp only [List.map_toArray, List.map_cons, List.map_nil]); first | done | rfl) ?_; refine (crash_dsk _ _ _ _ _ _ _ (some ak) ck x.f5 _ HM.out.st.HD (by simp [Ris]) (by simp) (by intro p hp; obtain rfl := List.mem_singleton.1 hp; have := HAL.out; exact show k ≤ al1.length ∧ al1.length ≤ 1000000 ∧ ([102] : List UInt8).length ≤ 1000000 from ⟨by omega, by omega, by decide⟩) HM.out.st.fresh (Kd.F_mono (Kd.F_below (Kd.C_F (Kd.heap_int .i64) HCk.out) HM.out.st.HB) (fun q hq => by have := HM.out.st.hg; omega))).mono ?_; rintro e w7 ⟨he, hD, hK⟩; subst he; refine ⟨_, rfl, ?_⟩; rw [crash_one _ _ (by exact HAL.out.2), ← HNk.out] at hD; have hD : Dsk w7 g b 1 false (-1) [([102], (al1.take N, N))] _ := hD; rw [← Hal2.out] at hD; have n0_ := Aside0.mk (HM.out.dsk hD hK); clear HM; have HM := n0_; clear n0_; clear hD hK; have HMc : Mid W w7 W.heap.size g b wr.heap.size _ (al2, N) al2 (.slice A6 al2.length c6) A4 sr := (by have h := HM.out.cut (m := N) (by have := HN.out; omega); rw [← Hal2.out] at h; rw [HML.out]; exact h); clear HM; have HM := Aside0.mk HMc; clear HMc; obtain ⟨b8, s8, w8, c8, hb8, hcv1, hcv2, hbl8, hF8, hl8⟩ := copy (c := c6) w7 (Kd.R_reads' HM.out.st.HR).2.2 (HOK2.out) (by have := HNL.out; omega); have HL8 := Aside0.mk hl8; have n0_ := Aside0.mk (HM.out.copied hbl8 hb8 hF8); clear HM; have HM := n0_; clear n0_; clear hbl8 hF8 hl8 hb8; skip)
                | ((with_reducible refine gate_callee (f := 65) rfl ?_); refine goesL_ (some 88) rfl rfl Try.func65 (by kernel_rfl) rfl #[.pointer (some ⟨g, 0, none⟩), .string { data := #[102] }] rfl (by (try simp only [List.map_toArray, List.map_cons, List.map_nil]); first | done | rfl) ?_; refine (read_dsk _ _ _ _ _ _ _ { data := #[102] } (by decide) _ HM.out.st.HD (show al2.length ≤ 1000000 by have := HNL.out; omega)).mono ?_; rintro e w9 ⟨v9, he, hR, hb_⟩; have he : e = .returned (.tuple #[v9, .int .i64 0]) := he; subst he; refine ⟨_, rfl, ?_⟩; have hR : Kd.R (Kd.int .u8) 5 w9 _ (fun _ => True) v9 al2 := hR; obtain ⟨A9, c9, e9⟩ := Kd.R_slice hR; subst e9; have HR9 := Aside0.mk (Kd.R_reads' hR); have n0_ := Aside0.mk (HM.out.below hb_); clear HM; have HM := n0_; clear n0_; have hcg := Kd.C_string (P := Try.prog) Try.underlying22 Try.underlying5 Try.underlying9 (c := c9) HR9.out.2.2; have hca := Kd.C_string (P := Try.prog) Try.underlying22 Try.underlying5 Try.underlying9 (c := c6) (Kd.R_reads' HM.out.st.HR).2.2; clear hR hb_)
                | ((with_reducible refine gate_callee (f := 66) rfl ?_); (try (refine gate_guard (by rfl) ?_; dsimp only)); refine goesL_ (some 103) rfl rfl Try.func66 (by kernel_rfl) rfl #[.slice A9 al2.length c9, .slice (some ⟨b8, 0, none⟩) al2.length c8] rfl (by (try simp only [List.map_toArray, List.map_cons, List.map_nil]); first | done | rfl) ?_; refine (begins A9 c9 al2 (some ⟨b8, 0, none⟩) c8 al2 N ((List.take_of_length_le (Nat.le_of_eq HML.out)).symm) _ HR9.out.2.2 HR9.out.2.1 (Kd.F_now HM.out.st.HF)).mono ?_; rintro e w10 ⟨rfl, hb_⟩; refine ⟨_, rfl, ?_⟩; have n0_ := Aside0.mk (HM.out.below hb_.below); clear HM; have HM := n0_; clear n0_; clear hb_)
                | ((with_reducible refine gate_callee (f := 67) rfl ?_); (try (refine gate_guard (by rfl) ?_; dsimp only)); refine goesL_ (some 108) rfl rfl Try.func67 (by kernel_rfl) rfl #[.pointer (some ⟨g, 0, none⟩), .string { data := #[102] }] rfl (by (try simp only [List.map_toArray, List.map_cons, List.map_nil]); first | done | rfl) ?_; refine (waits_dsk _ _ _ _ _ _ _ { data := #[102] } (by decide) _ HM.out.st.HD (show N ≤ al2.length ∧ al2.length ≤ 1000000 by have := HNL.out; omega)).mono ?_; rintro e w11 ⟨he, hb_⟩; have he : e = .returned (.int .i64 ((al2.length - N : Nat) : Int)) := he; rw [← Hnw.out] at he; subst he; refine ⟨_, rfl, ?_⟩; have n0_ := Aside0.mk (HM.out.below hb_); clear HM; have HM := n0_; clear n0_; clear hb_)
                | fail)
              go_roundg (xs.length - (i + 1))
              case measure => have := hi.out; omega
              case rel => exact ⟨i + 1, (some ⟨b8, 0, none⟩), c8, A6, c6, al2, al2, N, rfl, rfl, by simp, ⟨by omega, rfl⟩, ⟨HM.out.st⟩, ⟨HX.out.symm ▸ ⟨HS1.out.symm, (List.take_of_length_le (Nat.le_of_eq HML.out)).symm, HL8.out⟩⟩⟩
            · have hik1 : decide ((0 : Int) < (x.f5.length : Int)) = false := decide_eq_false (by omega)
              have hik2 : decide (0 < x.f5.length) = false := decide_eq_false hik
              have hn00 : nn = 0 := by
                have h1 : ¬ (((0 : Nat) : Int)) < (x.f5.length : Int) := by omega
                rw [hnn]; unfold keptN; rw [if_neg h1]
              have hNs : N = sr.length := by have := HSR.out.2; omega
              subst hn00
              subst hNs
              clear hs1 hok2 hnn hN hal2 hNl h2l hnw hsub hadd
              go_wp2_with (first
                | ((with_reducible refine gate_callee (f := 62) rfl ?_); refine goesL_ (some 37) rfl rfl Try.func62 (by kernel_rfl) rfl #[.pointer (some ⟨g, 0, none⟩), .string { data := #[102] }, .slice Ad x.f3.length cd] rfl (by (try simp only [List.map_toArray, List.map_cons, List.map_nil]); first | done | rfl) ?_; have HM := Aside0.mk (HS.out.mid (.cells #[.int .u8 x.f0, .string x.f1, .string x.f2, .slice Ad x.f3.length cd, .int .i64 x.f4, .slice Ak x.f5.length ck] 93)); refine (append_dsk _ _ _ _ _ _ _ { data := #[102] } Ad cd x.f3 _ HM.out.st.HD (by decide) (Kd.C_below HCd.out HM.out.st.HB) (by decide) HM.out.st.fresh (show al.length + x.f3.length ≤ 1000000 by have := HKL.out; omega) (by decide)).mono ?_; rintro e w5 ⟨he, hD, hK⟩; have he : e = .returned (.int .i64 0) := he; subst he; refine ⟨_, rfl, ?_⟩; have hD : Dsk w5 g b 2 false (-1) [([102], (al1, k))] _ := (by rw [H1.out]; exact hD); have n0_ := Aside0.mk (HM.out.dsk hD hK); clear HM; have HM := n0_; clear n0_; clear hD hK HS; have p0w5 : w5.cell? ⟨wr.heap.size, 0, none⟩ = some (.int .u8 x.f0) := (by rw [blk_cell HM.out.hq]; rfl); have p3w5 : w5.cell? ⟨wr.heap.size, 3, none⟩ = some (.slice Ad x.f3.length cd) := (by rw [blk_cell HM.out.hq]; rfl); have p5w5 : w5.cell? ⟨wr.heap.size, 5, none⟩ = some (.slice Ak x.f5.length ck) := (by rw [blk_cell HM.out.hq]; rfl); skip)
                | ((with_reducible refine gate_dst (N := 42) rfl ?_); refine Mine.app_u8 (w0 := W) W.heap.size rfl (.tmp 39) (.tmp 41) rfl (.slice A5 al.length c5) al x.f3 Ad x.f3.length cd (fun q => q ≠ g ∧ q ≠ b) rfl rfl HM.out.st.HR (Kd.C_below HCd.out HM.out.st.HB) (fun q hq => by have h1 := HM.out.st.HD.glt; have h2 := HM.out.st.HD.blt; omega) HM.out.st.HB HM.out.st.HB.size (by have := HKL.out; omega) ?_; intro v6 w6 ho hb_ hgr hat; rw [← H1.out] at ho; obtain ⟨A6, c6, e6⟩ := Kd.R_slice ho; subst e6; have n0_ := Aside0.mk (HM.out.app ho hb_ hgr hat); clear HM; have HM := n0_; clear n0_; clear ho hb_ hgr hat; have p0w6 : w6.cell? ⟨wr.heap.size, 0, none⟩ = some (.int .u8 x.f0) := (by rw [blk_cell HM.out.hq]; rfl); have p3w6 : w6.cell? ⟨wr.heap.size, 3, none⟩ = some (.slice Ad x.f3.length cd) := (by rw [blk_cell HM.out.hq]; rfl); have p5w6 : w6.cell? ⟨wr.heap.size, 5, none⟩ = some (.slice Ak x.f5.length ck) := (by rw [blk_cell HM.out.hq]; rfl); obtain ⟨m, hm, hcut, hCm, hmc, hml⟩ := Mine.cut_take A6 c6 al1 (sr.length : Int) (by omega) (by have := HN.out; omega) (Kd.R_reads' HM.out.st.HR).2.1; rw [Int.toNat_natCast, ← Hal2.out] at hm; rw [hm] at hcut hml; rw [Int.toNat_natCast] at hml; clear hCm hmc hm; have HML := Aside0.mk hml; clear hml; skip)
                | ((with_reducible refine gate_callee (f := 64) rfl ?_); refine goesL_ (some 75) rfl rfl Try.func64 (by kernel_rfl) rfl #[.pointer (some ⟨g, 0, none⟩), .slice Ak x.f5.length ck] rfl (by (try simp only [List.map_toArray, List.map_cons, List.map_nil]); first | done | rfl) ?_; refine (crash_dsk _ _ _ _ _ _ _ Ak ck x.f5 _ HM.out.st.HD (by simp [Ris]) (by simp) (by intro p hp; obtain rfl := List.mem_singleton.1 hp; have := HAL.out; exact show k ≤ al1.length ∧ al1.length ≤ 1000000 ∧ ([102] : List UInt8).length ≤ 1000000 from ⟨by omega, by omega, by decide⟩) HM.out.st.fresh (Kd.F_mono (Kd.F_below (Kd.C_F (Kd.heap_int .i64) HCk.out) HM.out.st.HB) (fun q hq => by have := HM.out.st.hg; omega))).mono ?_; rintro e w7 ⟨he, hD, hK⟩; subst he; refine ⟨_, rfl, ?_⟩; rw [crash_one _ _ (by exact HAL.out.2), ← HNk.out] at hD; have hD : Dsk w7 g b 1 false (-1) [([102], (al1.take sr.length, sr.length))] _ := hD; rw [← Hal2.out] at hD; have n0_ := Aside0.mk (HM.out.dsk hD hK); clear HM; have HM := n0_; clear n0_; clear hD hK; have HMc : Mid W w7 W.heap.size g b wr.heap.size _ (al2, sr.length) al2 (.slice A6 al2.length c6) A4 sr := (by have h := HM.out.cut (m := sr.length) (by have := HN.out; omega); rw [← Hal2.out] at h; rw [HML.out]; exact h); clear HM; have HM := Aside0.mk HMc; clear HMc; obtain ⟨b8, s8, w8, c8, hb8, hcv1, hcv2, hbl8, hF8, hl8⟩ := copy (c := c6) w7 (Kd.R_reads' HM.out.st.HR).2.2 (HOK2.out) (by have := HNL.out; omega); have HL8 := Aside0.mk hl8; have n0_ := Aside0.mk (HM.out.copied hbl8 hb8 hF8); clear HM; have HM := n0_; clear n0_; clear hbl8 hF8 hl8 hb8; skip)
                | ((with_reducible refine gate_callee (f := 65) rfl ?_); refine goesL_ (some 88) rfl rfl Try.func65 (by kernel_rfl) rfl #[.pointer (some ⟨g, 0, none⟩), .string { data := #[102] }] rfl (by (try simp only [List.map_toArray, List.map_cons, List.map_nil]); first | done | rfl) ?_; refine (read_dsk _ _ _ _ _ _ _ { data := #[102] } (by decide) _ HM.out.st.HD (show al2.length ≤ 1000000 by have := HNL.out; omega)).mono ?_; rintro e w9 ⟨v9, he, hR, hb_⟩; have he : e = .returned (.tuple #[v9, .int .i64 0]) := he; subst he; refine ⟨_, rfl, ?_⟩; have hR : Kd.R (Kd.int .u8) 5 w9 _ (fun _ => True) v9 al2 := hR; obtain ⟨A9, c9, e9⟩ := Kd.R_slice hR; subst e9; have HR9 := Aside0.mk (Kd.R_reads' hR); have n0_ := Aside0.mk (HM.out.below hb_); clear HM; have HM := n0_; clear n0_; have hcg := Kd.C_string (P := Try.prog) Try.underlying22 Try.underlying5 Try.underlying9 (c := c9) HR9.out.2.2; have hca := Kd.C_string (P := Try.prog) Try.underlying22 Try.underlying5 Try.underlying9 (c := c6) (Kd.R_reads' HM.out.st.HR).2.2; clear hR hb_)
                | ((with_reducible refine gate_callee (f := 66) rfl ?_); (try (refine gate_guard (by rfl) ?_; dsimp only)); refine goesL_ (some 103) rfl rfl Try.func66 (by kernel_rfl) rfl #[.slice A9 al2.length c9, .slice (some ⟨b8, 0, none⟩) al2.length c8] rfl (by (try simp only [List.map_toArray, List.map_cons, List.map_nil]); first | done | rfl) ?_; refine (begins A9 c9 al2 (some ⟨b8, 0, none⟩) c8 al2 sr.length ((List.take_of_length_le (Nat.le_of_eq HML.out)).symm) _ HR9.out.2.2 HR9.out.2.1 (Kd.F_now HM.out.st.HF)).mono ?_; rintro e w10 ⟨rfl, hb_⟩; refine ⟨_, rfl, ?_⟩; have n0_ := Aside0.mk (HM.out.below hb_.below); clear HM; have HM := n0_; clear n0_; clear hb_)
                | ((with_reducible refine gate_callee (f := 67) rfl ?_); (try (refine gate_guard (by rfl) ?_; dsimp only)); refine goesL_ (some 108) rfl rfl Try.func67 (by kernel_rfl) rfl #[.pointer (some ⟨g, 0, none⟩), .string { data := #[102] }] rfl (by (try simp only [List.map_toArray, List.map_cons, List.map_nil]); first | done | rfl) ?_; refine (waits_dsk _ _ _ _ _ _ _ { data := #[102] } (by decide) _ HM.out.st.HD (show sr.length ≤ al2.length ∧ al2.length ≤ 1000000 by have := HNL.out; omega)).mono ?_; rintro e w11 ⟨he, hb_⟩; have he : e = .returned (.int .i64 ((al2.length - sr.length : Nat) : Int)) := he; rw [← Hnw.out] at he; subst he; refine ⟨_, rfl, ?_⟩; have n0_ := Aside0.mk (HM.out.below hb_); clear HM; have HM := n0_; clear n0_; clear hb_)
                | fail)
              go_roundg (xs.length - (i + 1))
              case measure => have := hi.out; omega
              case rel => exact ⟨i + 1, (some ⟨b8, 0, none⟩), c8, A6, c6, al2, al2, sr.length, rfl, rfl, by simp, ⟨by omega, rfl⟩, ⟨HM.out.st⟩, ⟨HX.out.symm ▸ ⟨HS1.out.symm, (List.take_of_length_le (Nat.le_of_eq HML.out)).symm, HL8.out⟩⟩⟩
          · have hb1 : (x.f0 % 3 == 1) = false := by simpa using hm1
            have hb2 : (x.f0 % 3 == 2) = false := by simpa using hm2
            have hs1 : stp (al, k) x = (al1, k) := by unfold stp; rw [if_neg hm1, if_neg hm2, H1.out]
            have HS1 := Aside0.mk hs1
            have HNL := Aside0.mk HAL.out.symm
            obtain ⟨nw, hnw⟩ : ∃ nw, nw = al1.length - k := ⟨_, rfl⟩
            have hsub : IntKind.i64.wrap ((al1.length : Int) - (sr.length : Int)) = (nw : Int) := by have h1 := HAL.out; have h2 := HSR.out.2; rw [IntWalk.i64_in _ ⟨by omega, by omega⟩]; omega
            have Hnw := Aside0.mk hnw
            clear hs1 hnw
            go_wp2_with (first
              | ((with_reducible refine gate_callee (f := 62) rfl ?_); refine goesL_ (some 37) rfl rfl Try.func62 (by kernel_rfl) rfl #[.pointer (some ⟨g, 0, none⟩), .string { data := #[102] }, .slice Ad x.f3.length cd] rfl (by (try simp only [List.map_toArray, List.map_cons, List.map_nil]); first | done | rfl) ?_; have HM := Aside0.mk (HS.out.mid (.cells #[.int .u8 x.f0, .string x.f1, .string x.f2, .slice Ad x.f3.length cd, .int .i64 x.f4, .slice Ak x.f5.length ck] 93)); refine (append_dsk _ _ _ _ _ _ _ { data := #[102] } Ad cd x.f3 _ HM.out.st.HD (by decide) (Kd.C_below HCd.out HM.out.st.HB) (by decide) HM.out.st.fresh (show al.length + x.f3.length ≤ 1000000 by have := HKL.out; omega) (by decide)).mono ?_; rintro e w5 ⟨he, hD, hK⟩; have he : e = .returned (.int .i64 0) := he; subst he; refine ⟨_, rfl, ?_⟩; have hD : Dsk w5 g b 2 false (-1) [([102], (al1, k))] _ := (by rw [H1.out]; exact hD); have n0_ := Aside0.mk (HM.out.dsk hD hK); clear HM; have HM := n0_; clear n0_; clear hD hK HS; have p0w5 : w5.cell? ⟨wr.heap.size, 0, none⟩ = some (.int .u8 x.f0) := (by rw [blk_cell HM.out.hq]; rfl); have p3w5 : w5.cell? ⟨wr.heap.size, 3, none⟩ = some (.slice Ad x.f3.length cd) := (by rw [blk_cell HM.out.hq]; rfl); have p5w5 : w5.cell? ⟨wr.heap.size, 5, none⟩ = some (.slice Ak x.f5.length ck) := (by rw [blk_cell HM.out.hq]; rfl); skip)
              | ((with_reducible refine gate_dst (N := 42) rfl ?_); refine Mine.app_u8 (w0 := W) W.heap.size rfl (.tmp 39) (.tmp 41) rfl (.slice A5 al.length c5) al x.f3 Ad x.f3.length cd (fun q => q ≠ g ∧ q ≠ b) rfl rfl HM.out.st.HR (Kd.C_below HCd.out HM.out.st.HB) (fun q hq => by have h1 := HM.out.st.HD.glt; have h2 := HM.out.st.HD.blt; omega) HM.out.st.HB HM.out.st.HB.size (by have := HKL.out; omega) ?_; intro v6 w6 ho hb_ hgr hat; rw [← H1.out] at ho; obtain ⟨A6, c6, e6⟩ := Kd.R_slice ho; subst e6; have n0_ := Aside0.mk (HM.out.app ho hb_ hgr hat); clear HM; have HM := n0_; clear n0_; clear ho hb_ hgr hat; have p0w6 : w6.cell? ⟨wr.heap.size, 0, none⟩ = some (.int .u8 x.f0) := (by rw [blk_cell HM.out.hq]; rfl); have p3w6 : w6.cell? ⟨wr.heap.size, 3, none⟩ = some (.slice Ad x.f3.length cd) := (by rw [blk_cell HM.out.hq]; rfl); have p5w6 : w6.cell? ⟨wr.heap.size, 5, none⟩ = some (.slice Ak x.f5.length ck) := (by rw [blk_cell HM.out.hq]; rfl); skip)
              | ((with_reducible refine gate_callee (f := 65) rfl ?_); refine goesL_ (some 88) rfl rfl Try.func65 (by kernel_rfl) rfl #[.pointer (some ⟨g, 0, none⟩), .string { data := #[102] }] rfl (by (try simp only [List.map_toArray, List.map_cons, List.map_nil]); first | done | rfl) ?_; refine (read_dsk _ _ _ _ _ _ _ { data := #[102] } (by decide) _ HM.out.st.HD (show al1.length ≤ 1000000 by have := HNL.out; omega)).mono ?_; rintro e w9 ⟨v9, he, hR, hb_⟩; have he : e = .returned (.tuple #[v9, .int .i64 0]) := he; subst he; refine ⟨_, rfl, ?_⟩; have hR : Kd.R (Kd.int .u8) 5 w9 _ (fun _ => True) v9 al1 := hR; obtain ⟨A9, c9, e9⟩ := Kd.R_slice hR; subst e9; have HR9 := Aside0.mk (Kd.R_reads' hR); have n0_ := Aside0.mk (HM.out.below hb_); clear HM; have HM := n0_; clear n0_; have hcg := Kd.C_string (P := Try.prog) Try.underlying22 Try.underlying5 Try.underlying9 (c := c9) HR9.out.2.2; have hca := Kd.C_string (P := Try.prog) Try.underlying22 Try.underlying5 Try.underlying9 (c := c6) (Kd.R_reads' HM.out.st.HR).2.2; clear hR hb_)
              | ((with_reducible refine gate_callee (f := 66) rfl ?_); (try (refine gate_guard (by rfl) ?_; dsimp only)); refine goesL_ (some 103) rfl rfl Try.func66 (by kernel_rfl) rfl #[.slice A9 al1.length c9, .slice A4 sr.length c4] rfl (by (try simp only [List.map_toArray, List.map_cons, List.map_nil]); first | done | rfl) ?_; refine (begins A9 c9 al1 A4 c4 sr k (HSR.out.1) _ HR9.out.2.2 HR9.out.2.1 (Kd.F_now HM.out.st.HF)).mono ?_; rintro e w10 ⟨rfl, hb_⟩; refine ⟨_, rfl, ?_⟩; have n0_ := Aside0.mk (HM.out.below hb_.below); clear HM; have HM := n0_; clear n0_; clear hb_)
              | ((with_reducible refine gate_callee (f := 67) rfl ?_); (try (refine gate_guard (by rfl) ?_; dsimp only)); refine goesL_ (some 108) rfl rfl Try.func67 (by kernel_rfl) rfl #[.pointer (some ⟨g, 0, none⟩), .string { data := #[102] }] rfl (by (try simp only [List.map_toArray, List.map_cons, List.map_nil]); first | done | rfl) ?_; refine (waits_dsk _ _ _ _ _ _ _ { data := #[102] } (by decide) _ HM.out.st.HD (show k ≤ al1.length ∧ al1.length ≤ 1000000 by have := HNL.out; omega)).mono ?_; rintro e w11 ⟨he, hb_⟩; have he : e = .returned (.int .i64 ((al1.length - k : Nat) : Int)) := he; rw [← Hnw.out] at he; subst he; refine ⟨_, rfl, ?_⟩; have n0_ := Aside0.mk (HM.out.below hb_); clear HM; have HM := n0_; clear n0_; clear hb_)
              | fail)
            go_roundg (xs.length - (i + 1))
            case measure => have := hi.out; omega
            case rel => exact ⟨i + 1, A4, c4, A6, c6, al1, sr, k, rfl, rfl, by simp, ⟨by omega, rfl⟩, ⟨HM.out.st⟩, ⟨HX.out.symm ▸ ⟨HS1.out.symm, HSR.out.1, HSC.out⟩⟩⟩
        · have hie : i = xs.length := by have := hi.out.1; omega
          subst hie
          have hltb : decide ((xs.length : Int) < (xs.length : Int)) = false := decide_eq_false (by omega)
          have hltb2 : decide (xs.length < xs.length) = false := decide_eq_false (by omega)
          go_wp2_with (fail)
          go_ret
          exact ⟨rfl, HS.out.HB⟩
end Go.Proofs.Ytobgijpbfmpdaaa.Ls
