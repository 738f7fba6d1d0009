/- DiskFuse: the walk. -/
import Derived.Test.YtobgijpbfmpdaaaFu
set_option linter.unusedVariables false
set_option linter.unusedSimpArgs false
set_option maxRecDepth 100000
namespace Go.Proofs.Ytobgijpbfmpdaaa.Ls
open Go.RowKit Go.Proofs.YtobgijpbfmpdaaaW.PrintWords Go.Proofs.YtobgijpbfmpdaaaW.PrintLast Go.Proofs.YtobgijpbfmpdaaaW.PrintMore
open Go.Proofs.Ytobgijpbfmpdaaa.Fm Go.Proofs.Ytobgijpbfmpdaaa.Mp Go.Proofs.Ytobgijpbfmpdaaa.Dk Go.Proofs.Ytobgijpbfmpdaaa.PDp
set_option maxHeartbeats 16000000
theorem two0 {W W2 W3 W4 : World} (hsz : W.heap.size ≤ W2.heap.size) (hB2 : Below W.heap.size W W2) (h3 : W3 = (W2.alloc (.map #[] 0)).alloc (.cells #[.map (some W2.heap.size), .bool false, .int .i64 (-1)] 110))
    (h4 : W4 = (W3.alloc (.map #[] 0)).alloc (.cells #[.map (some W3.heap.size), .bool false, .int .i64 (-1)] 110)) :
    Two W W4 W.heap.size (W2.heap.size + 1) W2.heap.size (W3.heap.size + 1) W3.heap.size false (-1) [] false (-1) [] := by
  have hs : ∀ k, Sy W.heap.size (W2.heap.size + 1) W2.heap.size (W3.heap.size + 1) W3.heap.size k → k ≠ W2.heap.size + 1 ∧ k ≠ W2.heap.size := fun k hk => ⟨hk.2.1, hk.2.2.1⟩
  have d1 := dsk_new W2 _ hs
  rw [← h3] at d1
  have hl := d1.glt
  have b4 : Below W3.heap.size W3 W4 := by rw [h4]; exact below_alloc (below_alloc (Below.refl _ _) _) _
  have b3 : Below W2.heap.size W2 W3 := by rw [h3]; exact below_alloc (below_alloc (Below.refl _ _) _) _
  refine ⟨d1.below b4, ?_, below_step (below_step hB2 b3) b4, by omega⟩
  rw [h4]
  exact dsk_new W3 _ (fun k hk => ⟨hk.2.2.2.1, hk.2.2.2.2⟩)
theorem fuses (xs : List S93) (A0 : Option Addr) (c0 : Nat) (n : Int) (W : World) (hC : Kd.C k93 W A0 xs.length xs) (hc0 : xs.length ≤ c0) (hQ : ∀ x ∈ xs, 0 ≤ x.f0 ∧ x.f0 < 256) (hn64 : n ≤ 9223372036854775807) :
    Calls Try.prog 17 #[.slice A0 xs.length c0, .int .i64 n] W fun e W' => e = .returned (.bool true) ∧ Below W.heap.size W W' := by
  have HC := Aside0.mk hC
  have HQ := Aside0.mk hQ
  obtain ⟨r, hl, ht⟩ := long_f2 xs
  have HL := Aside0.mk hl
  have HLT := Aside0.mk ht
  have hxl : xs.length ≤ 9223372036854775807 := hC.2.1
  clear hC hQ hl ht
  cases r with
  | true =>
    go_enter Try.func17, Try.ntmps17
    go_wp2_with (first
      | ((with_reducible refine gate_callee (f := 59) rfl ?_); refine goesL_ (some 20) rfl rfl Try.func59 (by kernel_rfl) rfl #[] rfl (by (try simp only [List.map_toArray, List.map_cons, List.map_nil]); first | done | rfl) ?_; refine (awake25 _).mono ?_; rintro e w1 ⟨rfl, hb⟩; refine ⟨_, rfl, ?_⟩; have HB1 := Aside0.mk hb; clear hb)
      | ((with_reducible refine gate_callee (f := 60) rfl ?_); refine goesL_ (some 23) rfl rfl Try.func60 (by kernel_rfl) rfl #[.slice A0 xs.length c0] rfl (by (try simp only [List.map_toArray, List.map_cons, List.map_nil]); first | done | rfl) ?_; refine (prompterlaw25_long.calls 162 A0 c0 xs _ _ (Kd.C_below HC.out HB1.out) hc0 HL.out).mono ?_; rintro e w2 ⟨rfl, hb⟩; refine ⟨_, rfl, ?_⟩; have HB2 := Aside0.mk (below_step HB1.out hb.below); clear hb HB1)
      | fail)
    go_ret
    exact ⟨rfl, HB2.out⟩
  | false =>
    by_cases h40 : 40 < xs.length
    · have h40b : decide ((40 : Int) < (xs.length : Int)) = true := decide_eq_true (by omega)
      have h40c : decide (40 < xs.length) = true := decide_eq_true h40
      go_enter Try.func17, Try.ntmps17
      go_wp2_with (first
        | ((with_reducible refine gate_callee (f := 59) rfl ?_); refine goesL_ (some 20) rfl rfl Try.func59 (by kernel_rfl) rfl #[] rfl (by (try simp only [List.map_toArray, List.map_cons, List.map_nil]); first | done | rfl) ?_; refine (awake25 _).mono ?_; rintro e w1 ⟨rfl, hb⟩; refine ⟨_, rfl, ?_⟩; have HB1 := Aside0.mk hb; clear hb)
        | ((with_reducible refine gate_callee (f := 60) rfl ?_); refine goesL_ (some 23) rfl rfl Try.func60 (by kernel_rfl) rfl #[.slice A0 xs.length c0] rfl (by (try simp only [List.map_toArray, List.map_cons, List.map_nil]); first | done | rfl) ?_; refine (prompterlaw25_long.calls 162 A0 c0 xs _ _ (Kd.C_below HC.out HB1.out) hc0 HL.out).mono ?_; rintro e w2 ⟨rfl, hb⟩; refine ⟨_, rfl, ?_⟩; have HB2 := Aside0.mk (below_step HB1.out hb.below); clear hb HB1)
        | fail)
      go_ret
      exact ⟨rfl, HB2.out⟩
    have h40b : decide ((40 : Int) < (xs.length : Int)) = false := decide_eq_false (by omega)
    have h40c : decide (40 < xs.length) = false := decide_eq_false h40
    by_cases hn0 : n < 0
    · have hnb : decide (n < 0) = true := decide_eq_true hn0
      go_enter Try.func17, Try.ntmps17
      go_wp2_with (first
        | ((with_reducible refine gate_callee (f := 59) rfl ?_); refine goesL_ (some 20) rfl rfl Try.func59 (by kernel_rfl) rfl #[] rfl (by (try simp only [List.map_toArray, List.map_cons, List.map_nil]); first | done | rfl) ?_; refine (awake25 _).mono ?_; rintro e w1 ⟨rfl, hb⟩; refine ⟨_, rfl, ?_⟩; have HB1 := Aside0.mk hb; clear hb)
        | ((with_reducible refine gate_callee (f := 60) rfl ?_); refine goesL_ (some 23) rfl rfl Try.func60 (by kernel_rfl) rfl #[.slice A0 xs.length c0] rfl (by (try simp only [List.map_toArray, List.map_cons, List.map_nil]); first | done | rfl) ?_; refine (prompterlaw25_long.calls 162 A0 c0 xs _ _ (Kd.C_below HC.out HB1.out) hc0 HL.out).mono ?_; rintro e w2 ⟨rfl, hb⟩; refine ⟨_, rfl, ?_⟩; have HB2 := Aside0.mk (below_step HB1.out hb.below); clear hb HB1)
        | fail)
      go_ret
      exact ⟨rfl, HB2.out⟩
    have hnb : decide (n < 0) = false := decide_eq_false hn0
    have hf : fuseR false (-1) n = (n, 0) := by unfold fuseR; rw [if_neg (by simp), if_neg hn0]
    have HF := Aside0.mk hf
    clear hf
    go_enter Try.func17, Try.ntmps17
    go_wp2_with (first
      | ((with_reducible refine gate_callee (f := 59) rfl ?_); refine goesL_ (some 20) rfl rfl Try.func59 (by kernel_rfl) rfl #[] rfl (by (try simp only [List.map_toArray, List.map_cons, List.map_nil]); first | done | rfl) ?_; refine (awake25 _).mono ?_; rintro e w1 ⟨rfl, hb⟩; refine ⟨_, rfl, ?_⟩; have HB1 := Aside0.mk hb; clear hb)
      | ((with_reducible refine gate_callee (f := 60) rfl ?_); refine goesL_ (some 23) rfl rfl Try.func60 (by kernel_rfl) rfl #[.slice A0 xs.length c0] rfl (by (try simp only [List.map_toArray, List.map_cons, List.map_nil]); first | done | rfl) ?_; refine (prompterlaw25_long.calls 162 A0 c0 xs _ _ (Kd.C_below HC.out HB1.out) hc0 HL.out).mono ?_; rintro e w2 ⟨rfl, hb⟩; refine ⟨_, rfl, ?_⟩; have HB2 := Aside0.mk (below_step HB1.out hb.below); clear hb HB1)
      | ((with_reducible refine gate_callee (f := 61) rfl ?_); refine goesL_ (some 33) rfl rfl Try.func61 (by kernel_rfl) rfl #[] rfl (by (try simp only [List.map_toArray, List.map_cons, List.map_nil]); first | done | rfl) ?_; refine (new_dsk _).mono ?_; rintro e w3 ⟨rfl, hw3⟩; refine ⟨_, rfl, ?_⟩; have H3 := Aside0.mk hw3; clear hw3)
      | ((with_reducible refine gate_callee (f := 61) rfl ?_); refine goesL_ (some 34) rfl rfl Try.func61 (by kernel_rfl) rfl #[] rfl (by (try simp only [List.map_toArray, List.map_cons, List.map_nil]); first | done | rfl) ?_; refine (new_dsk _).mono ?_; rintro e w4 ⟨rfl, hw4⟩; refine ⟨_, rfl, ?_⟩; have HT := Aside0.mk (two0 HB2.out.size HB2.out H3.out hw4); clear hw4)
      | ((with_reducible refine gate_callee (f := 68) rfl ?_); refine goesL_ (some 37) rfl rfl Try.func68 (by kernel_rfl) rfl #[.pointer (some ⟨w2.heap.size + 1, 0, none⟩), .int .i64 n] rfl (by (try simp only [List.map_toArray, List.map_cons, List.map_nil]); first | done | rfl) ?_; refine (fuse_dsk _ _ _ _ _ _ _ n _ HT.out.D1).mono ?_; rintro e w5 ⟨he, hD, hK⟩; rw [HF.out] at he hD; subst he; refine ⟨_, rfl, ?_⟩; have n0_ := Aside0.mk (HT.out.one hD (hK.mono (fun k _ e => Or.inl e))); clear HT hD hK; have HT := n0_; clear n0_)
      | fail)
    have HO := Aside0.mk HT.out.ho
    obtain ⟨b2, hb⟩ : ∃ b, b = w3.heap.size := ⟨_, rfl⟩
    rw [← hb] at HT ⊢
    clear hb
    obtain ⟨b1, hb⟩ : ∃ b, b = w2.heap.size := ⟨_, rfl⟩
    rw [← hb] at HT ⊢
    clear hb H3 HB2 HO
    obtain ⟨g2, hg⟩ : ∃ g, g = b2 + 1 := ⟨_, rfl⟩
    rw [← hg] at HT ⊢
    clear hg
    obtain ⟨g1, hg⟩ : ∃ g, g = b1 + 1 := ⟨_, rfl⟩
    rw [← hg] at HT ⊢
    clear hg
    go_loopg [7, 8] xs.length (fun kk v7 v8 wr => ∃ (i dn : Nat) (F : Fls), v7 = .int .i64 dn ∧ v8 = .int .i64 i ∧ Aside0 (i ≤ xs.length ∧ kk = xs.length - i ∧ dn ≤ i ∧ (dn : Int) ≤ n) ∧
      Aside0 (Good F i (tot (xs.take i))) ∧ Aside0 (Two W wr W.heap.size g1 b1 g2 b2 false (n - dn) F false (-1) F))
    case atStart => exact ⟨0, 0, [], rfl, rfl, ⟨Nat.zero_le _, rfl, Nat.le_refl _, by omega⟩, ⟨Good.nil _ _⟩, by simpa using HT⟩
    case round =>
      clear HT
      obtain ⟨i, dn, F, rfl, rfl, hi, HG, HT⟩ := hrel
      have hfin : tot (xs.take i) ≤ 5000 ∧ xs.length ≤ 40 := ⟨Nat.le_trans (tot_take xs i) (HLT.out trivial).1, by omega⟩
      by_cases hlt : i < xs.length
      · have hltb : decide ((i : Int) < (xs.length : Int)) = true := decide_eq_true (by omega)
        have hltb2 : decide (i < xs.length) = true := decide_eq_true hlt
        have hlt1 : (i : Int) < (xs.length : Int) := by omega
        have hi0 : (0 : Int) ≤ (i : Int) := by omega
        obtain ⟨x, hx⟩ : ∃ x, x = rd_T93 xs (i : Int) := ⟨_, rfl⟩
        obtain ⟨ad, Ad, cd, Ak, ck, eA, q0, q1, q2, q3, q4, q5, hcd, hCd, hck, hCk⟩ := at_T93 HC.out (i : Int) hi0 hlt1
        rw [Int.toNat_natCast] at q0 q1 q2 q3 q4 q5
        rw [← hx] at q0 q1 q2 q3 q4 q5 hcd hCd hck hCk
        replace q0 := pw_cell_below HT.out.HB q0
        replace q1 := pw_cell_below HT.out.HB q1
        replace q2 := pw_cell_below HT.out.HB q2
        replace q3 := pw_cell_below HT.out.HB q3
        replace q4 := pw_cell_below HT.out.HB q4
        replace q5 := pw_cell_below HT.out.HB q5
        subst eA
        have hxi : x = xs[i] := hx.trans (rd_at xs i hlt)
        have hxm : x ∈ xs := by rw [hxi]; exact List.getElem_mem hlt
        obtain ⟨y, hy⟩ : ∃ y : S93, y = ⟨x.f0 % 4, x.f1, x.f2, x.f3, x.f4, x.f5⟩ := ⟨_, rfl⟩
        have htot : tot (xs.take i) + x.f3.length = tot (xs.take (i + 1)) := by rw [List.take_succ_eq_append_getElem hlt, tot_app, hxi]; simp [tot]
        have htot5 : tot (xs.take (i + 1)) ≤ 5000 := Nat.le_trans (tot_take xs (i + 1)) (HLT.out trivial).1
        have hnm := (HLT.out trivial).2 x hxm
        have hstep := ch_step HG.out (n - dn) (by have := hi.out; omega) y (by rw [hy]; exact hnm)
        rw [hy] at hstep
        have hms : x.f1.size ≤ maxLen ∧ x.f2.size ≤ maxLen := ⟨Nat.le_trans hnm.1 (by decide), Nat.le_trans hnm.2 (by decide)⟩
        have HCd := Aside0.mk hCd
        have HMS := Aside0.mk hms
        have HTO := Aside0.mk (show tot (xs.take i) + x.f3.length = tot (xs.take (i + 1)) ∧ tot (xs.take (i + 1)) ≤ 5000 from ⟨htot, htot5⟩)
        have hf0 := HQ.out x hxm
        have hcu := fun k => (HG.out.cur k).2
        have HCU := Aside0.mk hcu
        have hn41 : F.length < maxLen := Nat.lt_of_le_of_lt HG.out.2.1 (Nat.lt_of_le_of_lt (show i ≤ 40 by omega) (by decide))
        have HN41 := Aside0.mk hn41
        clear hCd hCk hx hcd hxi hxm hy hnm hms hcu hn41 htot htot5 hfin
        rcases hstep with hR | ⟨hz, F', hR, hR2, hG'⟩ | ⟨hz, F1, hR, hLo, hG'⟩
        · have HR := Aside0.mk hR
          have hdn : decide (n < (dn : Int)) = false := decide_eq_false (by have := hi.out; omega)
          clear hR
          go_wp2_with (first
            | ((with_reducible refine gate_callee (f := 69) rfl ?_); refine goesL_ (some 55) rfl rfl Try.func69 (by kernel_rfl) rfl #[.pointer (some ⟨g1, 0, none⟩), .agg #[.int .u8 (x.f0 % 4), .string x.f1, .string x.f2, .slice Ad x.f3.length cd, .int .i64 x.f4, .slice Ak x.f5.length ck]] rfl (by (try simp only [List.map_toArray, List.map_cons, List.map_nil]); first | done | rfl) ?_; have n0_ := Aside0.mk (HT.out.mid (.cells #[.int .u8 (x.f0 % 4), .string x.f1, .string x.f2, .slice Ad x.f3.length cd, .int .i64 x.f4, .slice Ak x.f5.length ck] 93) (below_alloc (Below.refl _ _) _) (blk_new _ _)); clear HT; have HT := n0_; clear n0_; refine (change_c g1 b1 _ _ _ _ _ ⟨x.f0 % 4, x.f1, x.f2, x.f3, x.f4, x.f5⟩ Ad cd Ak ck _ HT.out.st.D1 HMS.out.1 HMS.out.2 (Kd.C_below HCd.out HT.out.st.HB) HN41.out HT.out.st.fresh (show (cur F (key x.f1)).1.length + x.f3.length ≤ 1000000 by have := HCU.out (key x.f1); have := HTO.out; omega) (by have := hi.out; omega)).mono ?_; rintro e w5 ⟨he, hD, hK⟩; rw [HR.out] at he hD; have he : e = .returned (.int .i64 5) := he; subst he; refine ⟨_, rfl, ?_⟩; have hD : Dsk w5 g1 b1 (F.length + 1) false (n - dn) F _ := hD; have n0_ := Aside0.mk (HT.out.one hD hK); clear HT; have HT := n0_; clear n0_; clear hD hK; have p0w5 : w5.cell? ⟨wr.heap.size, 0, none⟩ = some (.int .u8 (x.f0 % 4)) := (by rw [blk_cell HT.out.hq]; rfl); have p1w5 : w5.cell? ⟨wr.heap.size, 1, none⟩ = some (.string x.f1) := (by rw [blk_cell HT.out.hq]; rfl); have p2w5 : w5.cell? ⟨wr.heap.size, 2, none⟩ = some (.string x.f2) := (by rw [blk_cell HT.out.hq]; rfl); have p3w5 : w5.cell? ⟨wr.heap.size, 3, none⟩ = some (.slice Ad x.f3.length cd) := (by rw [blk_cell HT.out.hq]; rfl); have p4w5 : w5.cell? ⟨wr.heap.size, 4, none⟩ = some (.int .i64 x.f4) := (by rw [blk_cell HT.out.hq]; rfl); have p5w5 : w5.cell? ⟨wr.heap.size, 5, none⟩ = some (.slice Ak x.f5.length ck) := (by rw [blk_cell HT.out.hq]; rfl); skip)
            | ((with_reducible refine gate_callee (f := 70) rfl ?_); refine goesL_ (some 57) rfl rfl Try.func70 (by kernel_rfl) rfl #[.pointer (some ⟨g1, 0, none⟩)] rfl (by (try simp only [List.map_toArray, List.map_cons, List.map_nil]); first | done | rfl) ?_; refine (off_dsk _ _ _ _ _ _ _ _ HT.out.st.D1).mono ?_; rintro e w' ⟨rfl, hw⟩; have hw := hw.symm; subst hw; refine ⟨_, rfl, ?_⟩)
            | fail)
          go_roundg (xs.length - (i + 1))
          case measure => have := hi.out; omega
          case rel => exact ⟨i + 1, dn, F, rfl, by simp, ⟨by have := hi.out; omega⟩, ⟨HG.out.more (by omega) (by have := HTO.out; omega)⟩, ⟨HT.out.st⟩⟩
        · have HR := Aside0.mk hR
          have HR2 := Aside0.mk hR2
          have HG' := Aside0.mk hG'
          obtain ⟨dn1, hdn1⟩ : ∃ d, d = dn + 1 := ⟨_, rfl⟩
          have hw1 : IntKind.i64.wrap ((dn : Int) + 1) = (dn1 : Int) := by have := hi.out; rw [IntWalk.i64_in _ ⟨by omega, by omega⟩]; omega
          have hle1 : decide (n < (dn1 : Int)) = false := decide_eq_false (by omega)
          have Hdn1 := Aside0.mk (show dn1 = dn + 1 ∧ (dn1 : Int) ≤ n ∧ n - dn - 1 = n - dn1 by omega)
          clear hR hR2 hG' hz hdn1
          go_wp2_with (first
            | ((with_reducible refine gate_callee (f := 69) rfl ?_); refine goesL_ (some 55) rfl rfl Try.func69 (by kernel_rfl) rfl #[.pointer (some ⟨g1, 0, none⟩), .agg #[.int .u8 (x.f0 % 4), .string x.f1, .string x.f2, .slice Ad x.f3.length cd, .int .i64 x.f4, .slice Ak x.f5.length ck]] rfl (by (try simp only [List.map_toArray, List.map_cons, List.map_nil]); first | done | rfl) ?_; have n0_ := Aside0.mk (HT.out.mid (.cells #[.int .u8 (x.f0 % 4), .string x.f1, .string x.f2, .slice Ad x.f3.length cd, .int .i64 x.f4, .slice Ak x.f5.length ck] 93) (below_alloc (Below.refl _ _) _) (blk_new _ _)); clear HT; have HT := n0_; clear n0_; refine (change_c g1 b1 _ _ _ _ _ ⟨x.f0 % 4, x.f1, x.f2, x.f3, x.f4, x.f5⟩ Ad cd Ak ck _ HT.out.st.D1 HMS.out.1 HMS.out.2 (Kd.C_below HCd.out HT.out.st.HB) HN41.out HT.out.st.fresh (show (cur F (key x.f1)).1.length + x.f3.length ≤ 1000000 by have := HCU.out (key x.f1); have := HTO.out; omega) (by have := hi.out; omega)).mono ?_; rintro e w5 ⟨he, hD, hK⟩; rw [HR.out] at he hD; have he : e = .returned (.int .i64 0) := he; subst he; refine ⟨_, rfl, ?_⟩; have hD : Dsk w5 g1 b1 (F.length + 1) false (n - dn - 1) F' _ := hD; have n0_ := Aside0.mk (HT.out.one hD hK); clear HT; have HT := n0_; clear n0_; clear hD hK; have p0w5 : w5.cell? ⟨wr.heap.size, 0, none⟩ = some (.int .u8 (x.f0 % 4)) := (by rw [blk_cell HT.out.hq]; rfl); have p1w5 : w5.cell? ⟨wr.heap.size, 1, none⟩ = some (.string x.f1) := (by rw [blk_cell HT.out.hq]; rfl); have p2w5 : w5.cell? ⟨wr.heap.size, 2, none⟩ = some (.string x.f2) := (by rw [blk_cell HT.out.hq]; rfl); have p3w5 : w5.cell? ⟨wr.heap.size, 3, none⟩ = some (.slice Ad x.f3.length cd) := (by rw [blk_cell HT.out.hq]; rfl); have p4w5 : w5.cell? ⟨wr.heap.size, 4, none⟩ = some (.int .i64 x.f4) := (by rw [blk_cell HT.out.hq]; rfl); have p5w5 : w5.cell? ⟨wr.heap.size, 5, none⟩ = some (.slice Ak x.f5.length ck) := (by rw [blk_cell HT.out.hq]; rfl); skip)
            | ((with_reducible refine gate_callee (f := 70) rfl ?_); refine goesL_ (some 57) rfl rfl Try.func70 (by kernel_rfl) rfl #[.pointer (some ⟨g1, 0, none⟩)] rfl (by (try simp only [List.map_toArray, List.map_cons, List.map_nil]); first | done | rfl) ?_; refine (off_dsk _ _ _ _ _ _ _ _ HT.out.st.D1).mono ?_; rintro e w' ⟨rfl, hw⟩; have hw := hw.symm; subst hw; refine ⟨_, rfl, ?_⟩)
            | ((with_reducible refine gate_callee (f := 69) rfl ?_); refine goesL_ (some 67) rfl rfl Try.func69 (by kernel_rfl) rfl #[.pointer (some ⟨g2, 0, none⟩), .agg #[.int .u8 (x.f0 % 4), .string x.f1, .string x.f2, .slice Ad x.f3.length cd, .int .i64 x.f4, .slice Ak x.f5.length ck]] rfl (by (try simp only [List.map_toArray, List.map_cons, List.map_nil]); first | done | rfl) ?_; refine (change_c g2 b2 _ _ _ _ _ ⟨x.f0 % 4, x.f1, x.f2, x.f3, x.f4, x.f5⟩ Ad cd Ak ck _ HT.out.st.D2 HMS.out.1 HMS.out.2 (Kd.C_below HCd.out HT.out.st.HB) HN41.out HT.out.st.fresh (show (cur F (key x.f1)).1.length + x.f3.length ≤ 1000000 by have := HCU.out (key x.f1); have := HTO.out; omega) (by decide)).mono ?_; rintro e w6 ⟨he, hD, hK⟩; rw [HR2.out] at he hD; have he : e = .returned (.int .i64 0) := he; subst he; refine ⟨_, rfl, ?_⟩; have hD : Dsk w6 g2 b2 (F.length + 1) false (-1) F' _ := hD; have n0_ := Aside0.mk (HT.out.two hD hK); clear HT; have HT := n0_; clear n0_; clear hD hK; skip)
            | fail)
          go_roundg (xs.length - (i + 1))
          case measure => have := hi.out; omega
          case rel => exact ⟨i + 1, dn1, F', rfl, by simp, ⟨by have := hi.out; have := Hdn1.out; omega⟩, ⟨HG'.out.more (Nat.le_refl _) (by have := HTO.out; show _ + x.f3.length ≤ _; omega)⟩, ⟨by have h := HT.out.st; rw [Hdn1.out.2.2] at h; exact h⟩⟩
        · have hnd : n = dn := by omega
          subst hnd
          have HR := Aside0.mk hR
          have hG5 : Good F1 41 5000 := hG'.more (by omega) (by have := HTO.out; show _ + x.f3.length ≤ _; omega)
          have HLo := Aside0.mk hLo
          have HGa := Aside0.mk hG5
          have HGb := Aside0.mk (HG.out.more (i' := 41) (m' := 5000) (by omega) (by have := HTO.out; omega))
          have HCV := Aside0.mk (fun k => (hG5.cur k).2)
          have HN42 := Aside0.mk (show F1.length < maxLen from Nat.lt_of_le_of_lt hG5.2.1 (by decide))
          clear hR hLo hG' hG5 hz
          obtain ⟨n1s, hn1⟩ : ∃ s, s = strs ((crashF [] F1).map (·.1)) := ⟨_, rfl⟩
          obtain ⟨n2s, hn2⟩ : ∃ s, s = strs ((crashF [] F).map (·.1)) := ⟨_, rfl⟩
          have hl1 : n1s.length = (crashF [] F1).length := by rw [hn1, strs_length, List.length_map]
          have hl2 : n2s.length = (crashF [] F).length := by rw [hn2, strs_length, List.length_map]
          have hll := lost_len HGb.out HGa.out HLo.out
          have hl41 : (crashF [] F).length ≤ 41 := HGb.out.crash.2.1
          obtain ⟨m2, hm2⟩ : ∃ m, m = n2s.length + 1 := ⟨_, rfl⟩
          have hw2 : IntKind.i64.wrap ((n2s.length : Int) + 1) = (m2 : Int) := by rw [IntWalk.i64_in _ ⟨by omega, by omega⟩]; omega
          have hd1 : decide ((n1s.length : Int) < (n2s.length : Int)) = false := decide_eq_false (by omega)
          have hd2 : decide (n1s.length < n2s.length) = false := decide_eq_false (by omega)
          have hd3 : decide ((m2 : Int) < (n1s.length : Int)) = false := decide_eq_false (by omega)
          have hd4 : decide (m2 < n1s.length) = false := decide_eq_false (by omega)
          have hl2b : n2s.length ≤ 41 := by omega
          have Hn1s := Aside0.mk hn1
          have Hn2s := Aside0.mk hn2
          have Hl2 := Aside0.mk hl2
          clear hn1 hn2 hl1 hl2 hll hl41 hm2
          go_wp2_with (first
            | ((with_reducible refine gate_callee (f := 69) rfl ?_); refine goesL_ (some 55) rfl rfl Try.func69 (by kernel_rfl) rfl #[.pointer (some ⟨g1, 0, none⟩), .agg #[.int .u8 (x.f0 % 4), .string x.f1, .string x.f2, .slice Ad x.f3.length cd, .int .i64 x.f4, .slice Ak x.f5.length ck]] rfl (by (try simp only [List.map_toArray, List.map_cons, List.map_nil]); first | done | rfl) ?_; have n0_ := Aside0.mk (HT.out.mid (.cells #[.int .u8 (x.f0 % 4), .string x.f1, .string x.f2, .slice Ad x.f3.length cd, .int .i64 x.f4, .slice Ak x.f5.length ck] 93) (below_alloc (Below.refl _ _) _) (blk_new _ _)); clear HT; have HT := n0_; clear n0_; refine (change_c g1 b1 _ _ _ _ _ ⟨x.f0 % 4, x.f1, x.f2, x.f3, x.f4, x.f5⟩ Ad cd Ak ck _ HT.out.st.D1 HMS.out.1 HMS.out.2 (Kd.C_below HCd.out HT.out.st.HB) HN41.out HT.out.st.fresh (show (cur F (key x.f1)).1.length + x.f3.length ≤ 1000000 by have := HCU.out (key x.f1); have := HTO.out; omega) (by have := hi.out; omega)).mono ?_; rintro e w5 ⟨he, hD, hK⟩; rw [HR.out] at he hD; have he : e = .returned (.int .i64 250) := he; subst he; refine ⟨_, rfl, ?_⟩; have hD : Dsk w5 g1 b1 (F.length + 1) true (-1) F1 _ := hD; have n0_ := Aside0.mk (HT.out.one hD hK); clear HT; have HT := n0_; clear n0_; clear hD hK; have p0w5 : w5.cell? ⟨wr.heap.size, 0, none⟩ = some (.int .u8 (x.f0 % 4)) := (by rw [blk_cell HT.out.hq]; rfl); have p1w5 : w5.cell? ⟨wr.heap.size, 1, none⟩ = some (.string x.f1) := (by rw [blk_cell HT.out.hq]; rfl); have p2w5 : w5.cell? ⟨wr.heap.size, 2, none⟩ = some (.string x.f2) := (by rw [blk_cell HT.out.hq]; rfl); have p3w5 : w5.cell? ⟨wr.heap.size, 3, none⟩ = some (.slice Ad x.f3.length cd) := (by rw [blk_cell HT.out.hq]; rfl); have p4w5 : w5.cell? ⟨wr.heap.size, 4, none⟩ = some (.int .i64 x.f4) := (by rw [blk_cell HT.out.hq]; rfl); have p5w5 : w5.cell? ⟨wr.heap.size, 5, none⟩ = some (.slice Ak x.f5.length ck) := (by rw [blk_cell HT.out.hq]; rfl); skip)
            | ((with_reducible refine gate_callee (f := 70) rfl ?_); refine goesL_ (some 57) rfl rfl Try.func70 (by kernel_rfl) rfl #[.pointer (some ⟨g1, 0, none⟩)] rfl (by (try simp only [List.map_toArray, List.map_cons, List.map_nil]); first | done | rfl) ?_; refine (off_dsk _ _ _ _ _ _ _ _ HT.out.st.D1).mono ?_; rintro e w' ⟨rfl, hw⟩; have hw := hw.symm; subst hw; refine ⟨_, rfl, ?_⟩)
            | ((with_reducible refine gate_callee (f := 69) rfl ?_); (try (refine gate_guard (by rfl) ?_; dsimp only)); refine goesL_ (some 77) rfl rfl Try.func69 (by kernel_rfl) rfl #[.pointer (some ⟨g1, 0, none⟩), .agg #[.int .u8 (x.f0 % 4), .string x.f1, .string x.f2, .slice Ad x.f3.length cd, .int .i64 x.f4, .slice Ak x.f5.length ck]] rfl (by (try simp only [List.map_toArray, List.map_cons, List.map_nil]); first | done | rfl) ?_; refine (change_c g1 b1 _ _ _ _ _ ⟨x.f0 % 4, x.f1, x.f2, x.f3, x.f4, x.f5⟩ Ad cd Ak ck _ HT.out.st.D1 HMS.out.1 HMS.out.2 (Kd.C_below HCd.out HT.out.st.HB) HN42.out HT.out.st.fresh (show (cur F1 (key x.f1)).1.length + x.f3.length ≤ 1000000 by have := HCV.out (key x.f1); have := HTO.out; omega) (by decide)).mono ?_; rintro e w16 ⟨he, hD, hK⟩; rw [ch_true] at he hD; have he : e = .returned (.int .i64 250) := he; subst he; refine ⟨_, rfl, ?_⟩; have hD : Dsk w16 g1 b1 (F1.length + 1) true (-1) F1 _ := hD; have n0_ := Aside0.mk (HT.out.one hD hK); clear HT; have HT := n0_; clear n0_; clear hD hK; skip)
            | ((with_reducible refine gate_callee (f := 68) rfl ?_); (try (refine gate_guard (by rfl) ?_; dsimp only)); refine goesL_ (some 82) rfl rfl Try.func68 (by kernel_rfl) rfl #[.pointer (some ⟨g1, 0, none⟩), .int .i64 1] rfl (by (try simp only [List.map_toArray, List.map_cons, List.map_nil]); first | done | rfl) ?_; refine (fuse_dsk _ _ _ _ _ _ _ 1 _ HT.out.st.D1).mono ?_; rintro e w17 ⟨he, hD, hK⟩; have he : e = .returned (.int .i64 250) := he; subst he; refine ⟨_, rfl, ?_⟩; have hD : Dsk w17 g1 b1 F1.length true (-1) F1 _ := hD; have n0_ := Aside0.mk (HT.out.one hD (hK.mono (fun k _ e => Or.inl e))); clear HT; have HT := n0_; clear n0_; clear hD hK; have HTT := Aside0.mk HT.out.st; clear HT; skip)
            | ((with_reducible refine gate_callee (f := 64) rfl ?_); refine goesL_ (some 89) rfl rfl Try.func64 (by kernel_rfl) rfl #[.pointer (some ⟨g1, 0, none⟩), .slice none ([] : List Int).length 0] rfl (by (try simp only [List.map_toArray, List.map_cons, List.map_nil]); first | done | rfl) ?_; refine (crash_dsk _ _ _ _ _ _ _ none 0 [] _ HTT.out.D1 HGa.out.1 (Nat.le_trans HGa.out.2.1 (by decide)) (fun p hp => by have := HGa.out.2.2 p hp; omega) HTT.out.fresh (Kd.F_nil _ _ _)).mono ?_; rintro e w89 ⟨he, hD, hK⟩; subst he; refine ⟨_, rfl, ?_⟩; have n0_ := Aside0.mk (HTT.out.one hD hK); clear HTT; have HTT := n0_; clear n0_; clear hD hK)
            | ((with_reducible refine gate_callee (f := 64) rfl ?_); (try (refine gate_guard (by rfl) ?_; dsimp only)); refine goesL_ (some 93) rfl rfl Try.func64 (by kernel_rfl) rfl #[.pointer (some ⟨g2, 0, none⟩), .slice none ([] : List Int).length 0] rfl (by (try simp only [List.map_toArray, List.map_cons, List.map_nil]); first | done | rfl) ?_; refine (crash_dsk _ _ _ _ _ _ _ none 0 [] _ HTT.out.D2 HGb.out.1 (Nat.le_trans HGb.out.2.1 (by decide)) (fun p hp => by have := HGb.out.2.2 p hp; omega) HTT.out.fresh (Kd.F_nil _ _ _)).mono ?_; rintro e w93 ⟨he, hD, hK⟩; subst he; refine ⟨_, rfl, ?_⟩; have n0_ := Aside0.mk (HTT.out.two hD hK); clear HTT; have HTT := n0_; clear n0_; clear hD hK)
            | ((with_reducible refine gate_callee (f := 70) rfl ?_); (try (refine gate_guard (by rfl) ?_; dsimp only)); refine goesL_ (some 98) rfl rfl Try.func70 (by kernel_rfl) rfl #[.pointer (some ⟨g1, 0, none⟩)] rfl (by (try simp only [List.map_toArray, List.map_cons, List.map_nil]); first | done | rfl) ?_; refine (off_dsk _ _ _ _ _ _ _ _ HTT.out.D1).mono ?_; rintro e w' ⟨rfl, hw⟩; have hw := hw.symm; subst hw; refine ⟨_, rfl, ?_⟩)
            | ((with_reducible refine gate_callee (f := 71) rfl ?_); refine goesL_ (some 102) rfl rfl Try.func71 (by kernel_rfl) rfl #[.pointer (some ⟨g1, 0, none⟩)] rfl (by (try simp only [List.map_toArray, List.map_cons, List.map_nil]); first | done | rfl) ?_; refine (names_dsk _ _ _ _ _ _ _ _ HTT.out.D1 HGa.out.crash.1 (Nat.le_trans HGa.out.crash.2.1 (by decide))).mono ?_; rintro e w102 ⟨A102, c102, he, hF, hb_⟩; have he : e = .returned (.tuple #[.slice A102 (strs ((crashF [] F1).map (·.1))).length c102, .int .i64 0]) := he; rw [← Hn1s.out] at he; subst he; refine ⟨_, rfl, ?_⟩; have n0_ := Aside0.mk (HTT.out.below hb_); clear HTT; have HTT := n0_; clear n0_; clear hF hb_)
            | ((with_reducible refine gate_callee (f := 71) rfl ?_); refine goesL_ (some 107) rfl rfl Try.func71 (by kernel_rfl) rfl #[.pointer (some ⟨g2, 0, none⟩)] rfl (by (try simp only [List.map_toArray, List.map_cons, List.map_nil]); first | done | rfl) ?_; refine (names_dsk _ _ _ _ _ _ _ _ HTT.out.D2 HGb.out.crash.1 (Nat.le_trans HGb.out.crash.2.1 (by decide))).mono ?_; rintro e w107 ⟨A107, c107, he, hF, hb_⟩; have he : e = .returned (.tuple #[.slice A107 (strs ((crashF [] F).map (·.1))).length c107, .int .i64 0]) := he; rw [← Hn2s.out] at he; subst he; refine ⟨_, rfl, ?_⟩; have n0_ := Aside0.mk (HTT.out.below hb_); clear HTT; have HTT := n0_; clear n0_; have hF := hF rfl; rw [← Hn2s.out] at hF; have HFn := Aside0.mk (Kd.F_mono (ok' := fun _ => True) hF.2 (fun _ _ => trivial)); clear hF hb_)
            | fail)
          go_loopg [15] n2s.length (fun kk v15 wr2 => ∃ j : Nat, v15 = .int .i64 j ∧ Aside0 (j ≤ n2s.length ∧ kk = n2s.length - j) ∧ Aside0 (Two W wr2 W.heap.size g1 b1 g2 b2 false (-1) (crashF [] F1) false (-1) (crashF [] F)) ∧ Aside0 (Kd.F Kd.string wr2 (fun _ => True) A107 n2s.length n2s))
          case atStart => exact ⟨0, rfl, ⟨Nat.zero_le _, rfl⟩, HTT, HFn⟩
          case round =>
            clear HTT HFn
            obtain ⟨j, rfl, hj, HTT, HFn⟩ := hrel
            by_cases hlt2 : j < n2s.length
            · have e1 : decide ((j : Int) < (n2s.length : Int)) = true := decide_eq_true (by omega)
              have e2 : decide (j < n2s.length) = true := decide_eq_true hlt2
              have e3 : (j : Int) < (n2s.length : Int) := by omega
              have hlt3 : j < (crashF [] F).length := by rw [← Hl2.out]; exact hlt2
              obtain ⟨pc, hpc⟩ : ∃ pc, pc = (crashF [] F)[j] := ⟨_, rfl⟩
              have hnm : n2s.getD j ByteArray.empty = ⟨pc.1.toArray⟩ := by
                rw [Hn2s.out]; unfold strs
                rw [List.getD_eq_getElem?_getD, List.getElem?_map, List.getElem?_map, List.getElem?_eq_getElem hlt3, hpc]; rfl
              have hmem : pc ∈ crashF [] F := by rw [hpc]; exact List.getElem_mem hlt3
              have hgp := HGb.out.crash.2.2 pc hmem
              obtain ⟨k, al, last⟩ := pc
              have hrd := lost_read HGb.out HGa.out HLo.out k (al, last) hmem
              dsimp only at hgp hnm hrd
              obtain ⟨s, hs0⟩ : ∃ s : ByteArray, s = ⟨k.toArray⟩ := ⟨_, rfl⟩
              have hsk : s.data.toList = k := by rw [hs0]
              have hs : s.size ≤ maxLen := by rw [hs0]; show k.toArray.size ≤ maxLen; unfold maxLen; simp; omega
              rw [← hs0] at hnm
              have hFr := Kd.F_now HFn.out
              obtain ⟨ad2, csn, eA2, _, hKn, hcelln⟩ := Kd.C_get hFr ByteArray.empty (j : Int) (by omega) (by omega)
              rw [Int.toNat_natCast] at hKn hcelln
              rw [hnm] at hKn
              subst eA2
              have hKn' : csn = [.string s] := hKn
              subst hKn'
              have cN := hcelln 0 _ rfl
              rw [show Kd.string.sz = 1 from rfl, Nat.mul_one, Nat.add_zero] at cN
              have Hsk := Aside0.mk hsk
              have HRd1 := Aside0.mk hrd.2
              have HRd2 := Aside0.mk hrd.1
              clear hFr hKn hcelln hnm hs0 hsk hrd hgp hmem hpc
              go_wp2_with (first
                | ((with_reducible refine gate_callee (f := 65) rfl ?_); refine goesL_ (some 143) rfl rfl Try.func65 (by kernel_rfl) rfl #[.pointer (some ⟨g1, 0, none⟩), .string s] rfl (by (try simp only [List.map_toArray, List.map_cons, List.map_nil]); first | done | rfl) ?_; refine (read_dsk _ _ _ _ _ _ _ s hs _ HTT.out.D1 (show _ ≤ 1000000 by rw [Hsk.out]; have := (HGa.out.crash.cur k).2; omega)).mono ?_; rintro e w30 ⟨v143, he, hR, hb_⟩; rw [Hsk.out, HRd1.out] at he hR; have he : e = .returned (.tuple #[v143, .int .i64 0]) := he; subst he; refine ⟨_, rfl, ?_⟩; obtain ⟨A143, c143, e143⟩ := Kd.R_slice hR; subst e143; have n0_ := Aside0.mk (HTT.out.below hb_); clear HTT; have HTT := n0_; clear n0_; have n0_ := Aside0.mk (Kd.F_below HFn.out hb_); clear HFn; have HFn := n0_; clear n0_; have HC30 := Aside0.mk (Kd.R_reads' hR).2.2; have cN30 := pw_cell_below hb_ cN; clear hR hb_)
                | ((with_reducible refine gate_callee (f := 65) rfl ?_); refine goesL_ (some 152) rfl rfl Try.func65 (by kernel_rfl) rfl #[.pointer (some ⟨g2, 0, none⟩), .string s] rfl (by (try simp only [List.map_toArray, List.map_cons, List.map_nil]); first | done | rfl) ?_; refine (read_dsk _ _ _ _ _ _ _ s hs _ HTT.out.D2 (show _ ≤ 1000000 by rw [Hsk.out]; have := (HGb.out.crash.cur k).2; omega)).mono ?_; rintro e w31 ⟨v152, he, hR, hb_⟩; rw [Hsk.out, HRd2.out] at he hR; have he : e = .returned (.tuple #[v152, .int .i64 0]) := he; subst he; refine ⟨_, rfl, ?_⟩; obtain ⟨A152, c152, e152⟩ := Kd.R_slice hR; subst e152; have n0_ := Aside0.mk (HTT.out.below hb_); clear HTT; have HTT := n0_; clear n0_; have n0_ := Aside0.mk (Kd.F_below HFn.out hb_); clear HFn; have HFn := n0_; clear n0_; have hc1 := Kd.C_string (P := Try.prog) Try.underlying22 Try.underlying5 Try.underlying9 (c := c143) (Kd.C_below HC30.out hb_); have hc2 := Kd.C_string (P := Try.prog) Try.underlying22 Try.underlying5 Try.underlying9 (c := c152) (Kd.R_reads' hR).2.2; clear hR hb_)
                | fail)
              go_roundg (n2s.length - (j + 1))
              case measure => have := hj.out; omega
              case rel => exact ⟨j + 1, by simp, ⟨by omega, rfl⟩, HTT, HFn⟩
            · have hje : j = n2s.length := by have := hj.out.1; omega
              subst hje
              have e1 : decide ((n2s.length : Int) < (n2s.length : Int)) = false := decide_eq_false (by omega)
              have e2 : decide (n2s.length < n2s.length) = false := decide_eq_false (by omega)
              go_wp2_with (fail)
              go_ret
              exact ⟨rfl, HTT.out.HB⟩
      · have hie : i = xs.length := by have := hi.out.1; omega
        subst hie
        have hltb : decide ((xs.length : Int) < (xs.length : Int)) = false := decide_eq_false (by omega)
        have hltb2 : decide (xs.length < xs.length) = false := decide_eq_false (by omega)
        obtain ⟨F1, hF1⟩ : ∃ F1, F1 = F := ⟨_, rfl⟩
        obtain ⟨off1, hoff1⟩ : ∃ o, o = false := ⟨_, rfl⟩
        obtain ⟨z1, hz1⟩ : ∃ z, z = n - dn := ⟨_, rfl⟩
        have HTT : Aside0 (Two W wr W.heap.size g1 b1 g2 b2 off1 z1 F1 false (-1) F) := by rw [hF1, hoff1, hz1]; exact HT
        have HGb := Aside0.mk (HG.out.more (i' := 41) (m' := 5000) (by omega) (by omega))
        have HGa : Aside0 (Good F1 41 5000) := by rw [hF1]; exact HGb
        have HLo : Aside0 (Lost F F1) := ⟨.inl hF1⟩
        clear HT HG hF1 hz1
        clear hoff1
        obtain ⟨n1s, hn1⟩ : ∃ s, s = strs ((crashF [] F1).map (·.1)) := ⟨_, rfl⟩
        obtain ⟨n2s, hn2⟩ : ∃ s, s = strs ((crashF [] F).map (·.1)) := ⟨_, rfl⟩
        have hl1 : n1s.length = (crashF [] F1).length := by rw [hn1, strs_length, List.length_map]
        have hl2 : n2s.length = (crashF [] F).length := by rw [hn2, strs_length, List.length_map]
        have hll := lost_len HGb.out HGa.out HLo.out
        have hl41 : (crashF [] F).length ≤ 41 := HGb.out.crash.2.1
        obtain ⟨m2, hm2⟩ : ∃ m, m = n2s.length + 1 := ⟨_, rfl⟩
        have hw2 : IntKind.i64.wrap ((n2s.length : Int) + 1) = (m2 : Int) := by rw [IntWalk.i64_in _ ⟨by omega, by omega⟩]; omega
        have hd1 : decide ((n1s.length : Int) < (n2s.length : Int)) = false := decide_eq_false (by omega)
        have hd2 : decide (n1s.length < n2s.length) = false := decide_eq_false (by omega)
        have hd3 : decide ((m2 : Int) < (n1s.length : Int)) = false := decide_eq_false (by omega)
        have hd4 : decide (m2 < n1s.length) = false := decide_eq_false (by omega)
        have hl2b : n2s.length ≤ 41 := by omega
        have Hn1s := Aside0.mk hn1
        have Hn2s := Aside0.mk hn2
        have Hl2 := Aside0.mk hl2
        clear hn1 hn2 hl1 hl2 hll hl41 hm2
        go_wp2_with (first
          | ((with_reducible refine gate_callee (f := 64) rfl ?_); refine goesL_ (some 89) rfl rfl Try.func64 (by kernel_rfl) rfl #[.pointer (some ⟨g1, 0, none⟩), .slice none ([] : List Int).length 0] rfl (by (try simp only [List.map_toArray, List.map_cons, List.map_nil]); first | done | rfl) ?_; refine (crash_dsk _ _ _ _ _ _ _ none 0 [] _ HTT.out.D1 HGa.out.1 (Nat.le_trans HGa.out.2.1 (by decide)) (fun p hp => by have := HGa.out.2.2 p hp; omega) HTT.out.fresh (Kd.F_nil _ _ _)).mono ?_; rintro e w89 ⟨he, hD, hK⟩; subst he; refine ⟨_, rfl, ?_⟩; have n0_ := Aside0.mk (HTT.out.one hD hK); clear HTT; have HTT := n0_; clear n0_; clear hD hK)
          | ((with_reducible refine gate_callee (f := 64) rfl ?_); (try (refine gate_guard (by rfl) ?_; dsimp only)); refine goesL_ (some 93) rfl rfl Try.func64 (by kernel_rfl) rfl #[.pointer (some ⟨g2, 0, none⟩), .slice none ([] : List Int).length 0] rfl (by (try simp only [List.map_toArray, List.map_cons, List.map_nil]); first | done | rfl) ?_; refine (crash_dsk _ _ _ _ _ _ _ none 0 [] _ HTT.out.D2 HGb.out.1 (Nat.le_trans HGb.out.2.1 (by decide)) (fun p hp => by have := HGb.out.2.2 p hp; omega) HTT.out.fresh (Kd.F_nil _ _ _)).mono ?_; rintro e w93 ⟨he, hD, hK⟩; subst he; refine ⟨_, rfl, ?_⟩; have n0_ := Aside0.mk (HTT.out.two hD hK); clear HTT; have HTT := n0_; clear n0_; clear hD hK)
          | ((with_reducible refine gate_callee (f := 70) rfl ?_); (try (refine gate_guard (by rfl) ?_; dsimp only)); refine goesL_ (some 98) rfl rfl Try.func70 (by kernel_rfl) rfl #[.pointer (some ⟨g1, 0, none⟩)] rfl (by (try simp only [List.map_toArray, List.map_cons, List.map_nil]); first | done | rfl) ?_; refine (off_dsk _ _ _ _ _ _ _ _ HTT.out.D1).mono ?_; rintro e w' ⟨rfl, hw⟩; have hw := hw.symm; subst hw; refine ⟨_, rfl, ?_⟩)
          | ((with_reducible refine gate_callee (f := 71) rfl ?_); refine goesL_ (some 102) rfl rfl Try.func71 (by kernel_rfl) rfl #[.pointer (some ⟨g1, 0, none⟩)] rfl (by (try simp only [List.map_toArray, List.map_cons, List.map_nil]); first | done | rfl) ?_; refine (names_dsk _ _ _ _ _ _ _ _ HTT.out.D1 HGa.out.crash.1 (Nat.le_trans HGa.out.crash.2.1 (by decide))).mono ?_; rintro e w102 ⟨A102, c102, he, hF, hb_⟩; have he : e = .returned (.tuple #[.slice A102 (strs ((crashF [] F1).map (·.1))).length c102, .int .i64 0]) := he; rw [← Hn1s.out] at he; subst he; refine ⟨_, rfl, ?_⟩; have n0_ := Aside0.mk (HTT.out.below hb_); clear HTT; have HTT := n0_; clear n0_; clear hF hb_)
          | ((with_reducible refine gate_callee (f := 71) rfl ?_); refine goesL_ (some 107) rfl rfl Try.func71 (by kernel_rfl) rfl #[.pointer (some ⟨g2, 0, none⟩)] rfl (by (try simp only [List.map_toArray, List.map_cons, List.map_nil]); first | done | rfl) ?_; refine (names_dsk _ _ _ _ _ _ _ _ HTT.out.D2 HGb.out.crash.1 (Nat.le_trans HGb.out.crash.2.1 (by decide))).mono ?_; rintro e w107 ⟨A107, c107, he, hF, hb_⟩; have he : e = .returned (.tuple #[.slice A107 (strs ((crashF [] F).map (·.1))).length c107, .int .i64 0]) := he; rw [← Hn2s.out] at he; subst he; refine ⟨_, rfl, ?_⟩; have n0_ := Aside0.mk (HTT.out.below hb_); clear HTT; have HTT := n0_; clear n0_; have hF := hF rfl; rw [← Hn2s.out] at hF; have HFn := Aside0.mk (Kd.F_mono (ok' := fun _ => True) hF.2 (fun _ _ => trivial)); clear hF hb_)
          | fail)
        go_loopg [15] n2s.length (fun kk v15 wr2 => ∃ j : Nat, v15 = .int .i64 j ∧ Aside0 (j ≤ n2s.length ∧ kk = n2s.length - j) ∧ Aside0 (Two W wr2 W.heap.size g1 b1 g2 b2 false (-1) (crashF [] F1) false (-1) (crashF [] F)) ∧ Aside0 (Kd.F Kd.string wr2 (fun _ => True) A107 n2s.length n2s))
        case atStart => exact ⟨0, rfl, ⟨Nat.zero_le _, rfl⟩, HTT, HFn⟩
        case round =>
          clear HTT HFn
          obtain ⟨j, rfl, hj, HTT, HFn⟩ := hrel
          by_cases hlt2 : j < n2s.length
          · have e1 : decide ((j : Int) < (n2s.length : Int)) = true := decide_eq_true (by omega)
            have e2 : decide (j < n2s.length) = true := decide_eq_true hlt2
            have e3 : (j : Int) < (n2s.length : Int) := by omega
            have hlt3 : j < (crashF [] F).length := by rw [← Hl2.out]; exact hlt2
            obtain ⟨pc, hpc⟩ : ∃ pc, pc = (crashF [] F)[j] := ⟨_, rfl⟩
            have hnm : n2s.getD j ByteArray.empty = ⟨pc.1.toArray⟩ := by
              rw [Hn2s.out]; unfold strs
              rw [List.getD_eq_getElem?_getD, List.getElem?_map, List.getElem?_map, List.getElem?_eq_getElem hlt3, hpc]; rfl
            have hmem : pc ∈ crashF [] F := by rw [hpc]; exact List.getElem_mem hlt3
            have hgp := HGb.out.crash.2.2 pc hmem
            obtain ⟨k, al, last⟩ := pc
            have hrd := lost_read HGb.out HGa.out HLo.out k (al, last) hmem
            dsimp only at hgp hnm hrd
            obtain ⟨s, hs0⟩ : ∃ s : ByteArray, s = ⟨k.toArray⟩ := ⟨_, rfl⟩
            have hsk : s.data.toList = k := by rw [hs0]
            have hs : s.size ≤ maxLen := by rw [hs0]; show k.toArray.size ≤ maxLen; unfold maxLen; simp; omega
            rw [← hs0] at hnm
            have hFr := Kd.F_now HFn.out
            obtain ⟨ad2, csn, eA2, _, hKn, hcelln⟩ := Kd.C_get hFr ByteArray.empty (j : Int) (by omega) (by omega)
            rw [Int.toNat_natCast] at hKn hcelln
            rw [hnm] at hKn
            subst eA2
            have hKn' : csn = [.string s] := hKn
            subst hKn'
            have cN := hcelln 0 _ rfl
            rw [show Kd.string.sz = 1 from rfl, Nat.mul_one, Nat.add_zero] at cN
            have Hsk := Aside0.mk hsk
            have HRd1 := Aside0.mk hrd.2
            have HRd2 := Aside0.mk hrd.1
            clear hFr hKn hcelln hnm hs0 hsk hrd hgp hmem hpc
            go_wp2_with (first
              | ((with_reducible refine gate_callee (f := 65) rfl ?_); refine goesL_ (some 143) rfl rfl Try.func65 (by kernel_rfl) rfl #[.pointer (some ⟨g1, 0, none⟩), .string s] rfl (by (try simp only [List.map_toArray, List.map_cons, List.map_nil]); first | done | rfl) ?_; refine (read_dsk _ _ _ _ _ _ _ s hs _ HTT.out.D1 (show _ ≤ 1000000 by rw [Hsk.out]; have := (HGa.out.crash.cur k).2; omega)).mono ?_; rintro e w30 ⟨v143, he, hR, hb_⟩; rw [Hsk.out, HRd1.out] at he hR; have he : e = .returned (.tuple #[v143, .int .i64 0]) := he; subst he; refine ⟨_, rfl, ?_⟩; obtain ⟨A143, c143, e143⟩ := Kd.R_slice hR; subst e143; have n0_ := Aside0.mk (HTT.out.below hb_); clear HTT; have HTT := n0_; clear n0_; have n0_ := Aside0.mk (Kd.F_below HFn.out hb_); clear HFn; have HFn := n0_; clear n0_; have HC30 := Aside0.mk (Kd.R_reads' hR).2.2; have cN30 := pw_cell_below hb_ cN; clear hR hb_)
              | ((with_reducible refine gate_callee (f := 65) rfl ?_); refine goesL_ (some 152) rfl rfl Try.func65 (by kernel_rfl) rfl #[.pointer (some ⟨g2, 0, none⟩), .string s] rfl (by (try simp only [List.map_toArray, List.map_cons, List.map_nil]); first | done | rfl) ?_; refine (read_dsk _ _ _ _ _ _ _ s hs _ HTT.out.D2 (show _ ≤ 1000000 by rw [Hsk.out]; have := (HGb.out.crash.cur k).2; omega)).mono ?_; rintro e w31 ⟨v152, he, hR, hb_⟩; rw [Hsk.out, HRd2.out] at he hR; have he : e = .returned (.tuple #[v152, .int .i64 0]) := he; subst he; refine ⟨_, rfl, ?_⟩; obtain ⟨A152, c152, e152⟩ := Kd.R_slice hR; subst e152; have n0_ := Aside0.mk (HTT.out.below hb_); clear HTT; have HTT := n0_; clear n0_; have n0_ := Aside0.mk (Kd.F_below HFn.out hb_); clear HFn; have HFn := n0_; clear n0_; have hc1 := Kd.C_string (P := Try.prog) Try.underlying22 Try.underlying5 Try.underlying9 (c := c143) (Kd.C_below HC30.out hb_); have hc2 := Kd.C_string (P := Try.prog) Try.underlying22 Try.underlying5 Try.underlying9 (c := c152) (Kd.R_reads' hR).2.2; clear hR hb_)
              | fail)
            go_roundg (n2s.length - (j + 1))
            case measure => have := hj.out; omega
            case rel => exact ⟨j + 1, by simp, ⟨by omega, rfl⟩, HTT, HFn⟩
          · have hje : j = n2s.length := by have := hj.out.1; omega
            subst hje
            have e1 : decide ((n2s.length : Int) < (n2s.length : Int)) = false := decide_eq_false (by omega)
            have e2 : decide (n2s.length < n2s.length) = false := decide_eq_false (by omega)
            go_wp2_with (fail)
            go_ret
            exact ⟨rfl, HTT.out.HB⟩
end Go.Proofs.Ytobgijpbfmpdaaa.Ls
