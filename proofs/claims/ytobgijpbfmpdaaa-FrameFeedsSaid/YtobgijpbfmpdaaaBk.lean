/- FrameBack: the walk of the law. -/
import Derived.Test.YtobgijpbfmpdaaaBi
set_option linter.unusedVariables false
set_option linter.unusedSimpArgs false
namespace Go.Proofs.Ytobgijpbfmpdaaa.Bk
open Go.RowKit Go.Proofs.Ytobgijpbfmpdaaa.PFr Go.Proofs.YtobgijpbfmpdaaaW.PrintWords Go.Proofs.YtobgijpbfmpdaaaW.PrintLast Go.Proofs.YtobgijpbfmpdaaaW.PrintMore
open Go.Proofs.Ytobgijpbfmpdaaa.Crc (readP bytesOk frameF frameF_length)
open Go.Proofs.Ytobgijpbfmpdaaa.SpQ
theorem new_calls (w : World) : Calls Try.prog 35 #[] w fun e w' => e = .returned (.pointer (some ⟨w.heap.size, 0, none⟩)) ∧ w' = w.alloc (.cells #[.bool true, .slice none 0 0, .int .i64 0, .int .i64 0] 43) := by
  go_enter Try.func35, Try.ntmps35
  go_wp2
  go_ret
  exact ⟨rfl, rfl⟩
set_option maxHeartbeats 8000000 in
set_option maxRecDepth 100000 in
theorem back (A0 A1 : Option Addr) (c0 c1 : Nat) (bs : List (List Int)) (cuts : List Int) (w : World) (hr0 : Kd.C (Kd.slice 5 (Kd.int .u8)) w A0 bs.length bs) (hc0 : bs.length ≤ c0)
    (hr1 : Kd.C (Kd.int .i64) w A1 cuts.length cuts) (hc1 : cuts.length ≤ c1) (hbo : ∀ b ∈ bs, bytesOk b = true) (h30 : bs.length ≤ 30) (h60 : cuts.length ≤ 60) :
    Calls Try.prog 8 #[.slice A0 bs.length c0, .slice A1 cuts.length c1] w fun e w' => e = .returned (.bool true) ∧ Below w.heap.size w w' := by
  have HC0 := Aside0.mk hr0
  have HC1 := Aside0.mk hr1
  have Hbo := Aside0.mk hbo
  have H30 := Aside0.mk h30
  have H60 := Aside0.mk h60
  have d30 : decide (30 < (bs.length : Int)) = false := decide_eq_false (by omega)
  have d30' : decide (30 < bs.length) = false := decide_eq_false (by omega)
  have d60 : decide (60 < (cuts.length : Int)) = false := decide_eq_false (by omega)
  have d60' : decide (60 < cuts.length) = false := decide_eq_false (by omega)
  clear hr0 hr1 hbo h30 h60
  go_enter Try.func8, Try.ntmps8
  go_wp2_with (first
    | ((with_reducible refine gate_callee (f := 21) rfl ?_); refine goesL_ (some 22) rfl rfl Try.func21 (by kernel_rfl) rfl #[] rfl (by (try simp only [List.map_toArray, List.map_cons, List.map_nil]); first | done | rfl) ?_; refine (prompterlaw06_awake.calls true _ FbP.awake_f).mono ?_; rintro e w1 ⟨rfl, hb⟩; refine ⟨_, rfl, ?_⟩; have HB := Aside0.mk hb; clear hb))
  go_loopg [5, 6, 7] bs.length (fun kk v5 v6 v7 wr => ∃ (i room : Nat), v7 = .int .i64 i ∧ v5 = .int .i64 room ∧ Aside0 (i ≤ bs.length ∧ kk = bs.length - i ∧ room ≤ 3000 ∧ (cat (bs.take i)).length = 3000 - room + 12 * i ∧ ∀ b ∈ bs.take i, b.length ≤ 3000) ∧
    Aside0 (Kd.R (Kd.int .u8) 5 wr w.heap.size (fun _ => True) v6 (cat (bs.take i))) ∧ Aside0 (Below w.heap.size w wr))
  case atStart => exact ⟨0, 3000, rfl, rfl, ⟨Nat.zero_le _, rfl, Nat.le_refl _, rfl, fun b hb => by simp at hb⟩, ⟨Kd.R_nil _ _ _ _ _⟩, ⟨HB.out⟩⟩
  case round =>
    obtain ⟨i, room, rfl, rfl, hi, HR, HBl⟩ := hrel
    by_cases hlt : i < bs.length
    · have hltb : decide ((i : Int) < (bs.length : Int)) = true := decide_eq_true (by omega)
      obtain ⟨ad, cs, eA, _, hK, hcell⟩ := Kd.C_get (Kd.C_below HC0.out HBl.out) [] (i : Int) (by omega) (by omega)
      rw [Int.toNat_natCast] at hK hcell
      obtain ⟨x, hx⟩ : ∃ x, x = bs.getD i [] := ⟨_, rfl⟩
      rw [← hx] at hK
      obtain ⟨A2, c2, e2, hl2, hC2⟩ := hK
      subst e2 eA
      have cA := hcell 0 _ rfl
      have hsz : (Kd.slice 5 (Kd.int .u8)).sz = 1 := rfl
      rw [hsz, Nat.mul_one, Nat.add_zero] at cA
      have HX := Aside0.mk hC2
      have Hxe := Aside0.mk hx
      have Hl2 := Aside0.mk hl2
      clear hcell hC2 hx hsz hl2
      by_cases hgt : (room : Int) < (x.length : Int)
      · have g1 : decide ((room : Int) < (x.length : Int)) = true := decide_eq_true hgt
        have g2 : decide (room < x.length) = true := decide_eq_true (by omega)
        clear hgt
        go_wp2
        go_ret
        exact ⟨rfl, HBl.out⟩
      · have g1 : decide ((room : Int) < (x.length : Int)) = false := decide_eq_false hgt
        have g2 : decide (room < x.length) = false := decide_eq_false (by omega)
        have Hgt := Aside0.mk hgt
        have hwr : IntKind.i64.wrap ((room : Int) - (x.length : Int)) = ((room - x.length : Nat) : Int) := by
          rw [IntWalk.i64_in _ ⟨by have := hi.out.2.2.1; omega, by have := hi.out.2.2.1; omega⟩]; omega
        have AF : Aside0 (frame_Frame.f x = some (frameF x, 0)) := ⟨FrP.frame_f x (by have := hi.out.2.2.1; omega)⟩
        have hxl : x.length ≤ 3000 := by have := hi.out.2.2.1; omega
        have Hxl := Aside0.mk hxl
        clear hgt hxl
        go_wp2_with (first
          | ((with_reducible refine gate_callee (f := 23) rfl ?_); refine goesL_ (some 57) rfl rfl Try.func23 (by kernel_rfl) rfl #[.slice A2 x.length c2] rfl (by (try simp only [List.map_toArray, List.map_cons, List.map_nil]); first | done | rfl) ?_; refine (frame_Frame.calls A2 c2 x (frameF x) 0 _ HX.out Hl2.out AF.out).mono ?_; rintro e w2 ⟨v2, rfl, ho, hb⟩; refine ⟨_, rfl, ?_⟩; obtain ⟨Af, cf, ef⟩ := Kd.R_slice ho; subst ef; have n0_ := Aside0.mk (Kd.R_below HR.out hb); have n1_ := Aside0.mk ho; have n2_ := Aside0.mk (below_step HBl.out hb); clear HR HBl; have HR := n0_; have HFr := n1_; have HBl := n2_; clear n0_ n1_ n2_ ho hb)
          | ((with_reducible refine gate_dst (N := 64) rfl ?_); refine Mine.app_u8 (w0 := w) w.heap.size rfl (.tmp 62) (.tmp 63) rfl _ (cat (bs.take i)) (frameF x) Af (frameF x).length cf (fun _ => True) rfl rfl HR.out (Kd.R_reads' HFr.out).2.2 (fun _ _ => trivial) HBl.out HBl.out.size (by have := hi.out; have := Hxl.out; rw [frameF_length]; have := H30.out; omega) ?_; intro v3 w3 ho hb hgr hat; have n0_ := Aside0.mk ho; have n2_ := Aside0.mk hb; clear HR HBl HFr; have HR := n0_; have HBl := n2_; clear n0_ n2_ ho hb hgr hat))
        go_roundg (bs.length - (i + 1))
        case measure => have := hi.out; omega
        case rel =>
          have hh := hi.out
          obtain ⟨q1, q2, q3, q4, _⟩ := hi.out
          have hxl := Hxl.out
          have hg := Hgt.out
          have h30 := H30.out
          have htk : bs.take (i + 1) = bs.take i ++ [x] := by
            rw [List.take_succ_eq_append_getElem hlt, Hxe.out, List.getD_eq_getElem?_getD, List.getElem?_eq_getElem hlt]; rfl
          refine ⟨i + 1, room - x.length, by rw [Mine.wrap64_in (by omega) (by omega)]; simp, rfl, ⟨by omega, rfl, by omega, ?_, ?_⟩, ⟨?_⟩, HBl⟩
          · rw [htk, cat_snoc, List.length_append, frameF_length]; omega
          · intro b hb
            rw [htk] at hb
            rcases List.mem_append.1 hb with h | h
            · exact hh.2.2.2.2 b h
            · rw [List.mem_singleton.1 h]; exact hxl
          · rw [htk, cat_snoc]; exact HR.out
    · obtain rfl : i = bs.length := by have := hi.out; omega
      have hltb : decide ((bs.length : Int) < (bs.length : Int)) = false := decide_eq_false (by omega)
      have hh := hi.out
      rw [List.take_length] at hh HR
      obtain ⟨all, hall⟩ : ∃ all, all = cat bs := ⟨_, rfl⟩
      have hbl : ∀ b ∈ bs, bytesOk b = true ∧ b.length ≤ 65536 := fun b hb => ⟨Hbo.out b hb, by have := hh.2.2.2.2 b hb; omega⟩
      have hal : all.length ≤ 4000 := by rw [hall]; have := H30.out; omega
      have hsp : spl all = (bs, (all.length : Int), 0) := by rw [hall]; exact spl_cat bs hbl (by rw [← hall]; omega)
      have hbo2 : bytesOk all = true := by rw [hall]; exact cat_ok bs Hbo.out
      have hpre : ∀ j, (spl (all.take j)).2.2 = 0 ∨ (spl (all.take j)).2.2 = 4 := by rw [hall]; exact spl_pre bs hbl (by rw [← hall]; omega)
      rw [← hall] at HR
      obtain ⟨A6, c6, e6⟩ := Kd.R_slice HR.out
      subst e6
      have Hal := Aside0.mk hal
      have Hsp := Aside0.mk hsp
      have Hbo2 := Aside0.mk hbo2
      have Hpre := Aside0.mk hpre
      have HSp : Aside0 (∀ W : World, Kd.C (Kd.int .u8) W A6 all.length all → all.length ≤ c6 → Calls Try.prog 29 #[.slice A6 all.length c6] W fun e w' => ∃ v0_ : Value, e = .returned (.tuple #[v0_, .int .i64 (all.length : Int), .int .i64 0]) ∧
        Kd.S (Kd.slice 5 (Kd.int .u8)) 22 w' W.heap.size (fun _ => True) v0_ bs ∧ Below W.heap.size W w') := ⟨fun W hC hc => by
        have := Sp.calls A6 c6 all W hC hc hbo2 (by omega)
        rw [show Sp.splitL all all.length [] 0 = (bs, (all.length : Int), 0) from hsp] at this
        exact this⟩
      clear hh hbl hal hsp hbo2 hpre hall
      go_wp2_with (first
        | ((with_reducible refine gate_callee (f := 29) rfl ?_); refine goesL_ (some 67) rfl rfl Try.func29 (by kernel_rfl) rfl #[.slice A6 all.length c6] rfl (by (try simp only [List.map_toArray, List.map_cons, List.map_nil]); first | done | rfl) ?_; refine (HSp.out _ (Kd.R_reads' HR.out).2.2 (Kd.R_reads' HR.out).2.1).mono ?_; rintro e w4 ⟨v4, rfl, ho, hb⟩; refine ⟨_, rfl, ?_⟩; obtain ⟨A4, c4, e4⟩ := Kd.S_slice ho; subst e4; have n0_ := Aside0.mk (Kd.R_below HR.out hb); have n1_ := Aside0.mk ho; have n2_ := Aside0.mk (below_step HBl.out hb); clear HR HBl; have HR := n0_; have HL4 := n1_; have HBl := n2_; clear n0_ n1_ n2_ ho hb)
        | ((with_reducible refine gate_callee (f := 31) rfl ?_); (try (refine gate_guard (by rfl) ?_; dsimp only)); refine goesL_ (some 82) rfl rfl Try.func31 (by kernel_rfl) rfl #[.slice A4 bs.length c4, .slice A0 bs.length c0] rfl (by (try simp only [List.map_toArray, List.map_cons, List.map_nil]); first | done | rfl) ?_; refine (Sp.same A4 A0 c4 c0 bs _ (Kd.S_reads' HL4.out).2.2 (Kd.C_below HC0.out HBl.out) (Kd.S_reads' HL4.out).2.1 hc0).mono ?_; rintro e w5 ⟨rfl, ⟨m5, hm5⟩⟩; subst hm5; refine ⟨_, rfl, ?_⟩)
        | ((with_reducible refine gate_callee (f := 35) rfl ?_); refine goesL_ (some 85) rfl rfl Try.func35 (by kernel_rfl) rfl #[] rfl (by (try simp only [List.map_toArray, List.map_cons, List.map_nil]); first | done | rfl) ?_; refine (new_calls _).mono ?_; rintro e w6 ⟨rfl, hw6⟩; refine ⟨_, rfl, ?_⟩; have HW6 := Aside0.mk hw6; clear hw6))
      obtain ⟨g, hgs⟩ : ∃ g, g = w4.heap.size := ⟨_, rfl⟩
      rw [← hgs]
      have Hgs := Aside0.mk hgs
      clear hgs
      go_loopg [14, 15, 16] (cuts.length + 1) (fun kk v14 v15 v16 wr => ∃ (i n : Nat) (gv lv : Value), gv = v14 ∧ v16 = .int .i64 i ∧ v15 = .int .i64 n ∧
        Aside0 (i ≤ cuts.length + 1 ∧ kk = cuts.length + 1 - i ∧ n ≤ all.length ∧ (i = cuts.length + 1 → n = all.length)) ∧ Aside0 (Bi.Inv w g (.slice A6 all.length c6) all wr n gv lv))
      case atStart =>
        have hw6 := HW6.out
        have hg := Hgs.out
        subst hw6
        refine ⟨0, 0, .slice none 0 0, .slice none 0 0, rfl, rfl, rfl, ⟨by omega, rfl, by omega, fun h => by omega⟩, ⟨⟨?_, ?_, ?_, ?_, ?_, ?_, ?_⟩⟩⟩
        · exact Kd.R_alloc (Kd.R_drewN (Kd.R_mono (Kd.R_bound HR.out) (fun k hk => by have := hk.2.2.1; omega)) _) _
        · rw [hg]; exact blk_new (w4.drewN m5) _
        · exact Kd.R_nil _ _ _ _ _
        · exact Kd.R_nil _ _ _ _ _
        · exact below_alloc (pw_below_drewN HBl.out _) _
        · rw [hg]; exact HBl.out.size
        · rw [hg]; show w4.heap.size < ((w4.drewN m5).alloc _).heap.size; rw [World.size_alloc]; exact Nat.lt_succ_self _
      case round =>
        obtain ⟨i, n, gv, lv, rfl, rfl, rfl, hi2, HI⟩ := hrel
        by_cases hle : i ≤ cuts.length
        · have hleb : decide ((i : Int) ≤ (cuts.length : Int)) = true := decide_eq_true (by omega)
          by_cases hlt2 : i < cuts.length
          · have hltb2 : decide ((i : Int) < (cuts.length : Int)) = true := decide_eq_true (by omega)
            obtain ⟨ad1, hA1, hcut1⟩ := Kd.at_int (Kd.C_below HC1.out HI.out.below) (i : Int) (by omega) (by omega)
            subst hA1
            rw [Int.toNat_natCast] at hcut1
            obtain ⟨m1, hm1a, hm1b, hto, hnz⟩ := Bi.to_eq (rd cuts (i : Int)) n all.length hi2.out.2.2.1 (by have := Hal.out; omega)
            have hm1 : n ≤ m1 ∧ m1 ≤ all.length := ⟨hm1a, hm1b⟩
            clear hm1a hm1b
            have hmm := hm1
            have HM := Aside0.mk hm1
            obtain ⟨T, L, E, hT, hL, hE, hsum, hcase⟩ := Bi.nums_of all m1 Hbo2.out Hal.out hm1.2 (Hpre.out m1)
            obtain ⟨Am, b, hbe, hcM, hCM, hbc, hbl⟩ := Mine.cut_mid A6 c6 all (n : Int) (m1 : Int) (by omega) (by omega) (by omega) (Kd.R_reads' HI.out.hall).2.1
            obtain ⟨k, hke, hcT, hCT, hkc, hkl⟩ := Mine.cut_take A6 c6 all (m1 : Int) (by omega) (by omega) (Kd.R_reads' HI.out.hall).2.1
            rw [Int.toNat_natCast] at hbe hke hbl hkl
            rw [Int.toNat_natCast] at hbe hbl
            simp only [Int.toNat_natCast] at hcM hbc
            have HFd : Aside0 (Calls Try.prog 32 #[.pointer (some ⟨g, 0, none⟩), .slice Am b.length (c6 - n)] wr fun e W' => ∃ v lv' ms, e = .returned (.tuple #[v, .int .i64 0]) ∧ Bi.FedP w g (.slice A6 all.length c6) all wr W' n m1 gv v lv' ms) :=
              ⟨Bi.fed HI.out hm1.1 hm1.2 Hbo2.out Hal.out (Hpre.out m1) Am (c6 - n) b hbe (hCM wr (Kd.R_reads' HI.out.hall).2.2) hbc⟩
            have HSk : Aside0 (∀ W : World, Kd.C (Kd.int .u8) W A6 k.length k → Calls Try.prog 29 #[.slice A6 k.length c6] W fun e w' => ∃ v0_ : Value, e = .returned (.tuple #[v0_, .int .i64 T, .int .i64 E]) ∧
              Kd.S (Kd.slice 5 (Kd.int .u8)) 22 w' W.heap.size (fun _ => True) v0_ (spl (all.take m1)).1 ∧ Below W.heap.size W w') := ⟨fun W hC => by
              have := Sp.calls A6 c6 k W hC hkc (by rw [hke]; exact Crc.bytesOk_take Hbo2.out m1) (by have := Hal.out; omega)
              rw [show (Sp.splitL k k.length [] 0).1 = (spl (all.take m1)).1 by rw [← hke], show (Sp.splitL k k.length [] 0).2.1 = T by rw [hT, ← hke], show (Sp.splitL k k.length [] 0).2.2 = E by rw [hE, ← hke]] at this
              exact this⟩
            have HT := Aside0.mk hT
            have HL := Aside0.mk hL
            have HE := Aside0.mk hE
            have HK := Aside0.mk hke
            have HCT := Aside0.mk hCT
            clear hm1 hmm hT hL hE hke hbe hCM hCT hbc hbl hkc hkl
            rcases hcase with ⟨rfl, rfl, hT0⟩ | ⟨rfl, hL0⟩
            all_goals
              go_wp2_with (first
                | ((with_reducible refine gate_callee (f := 32) rfl ?_); refine goesL_ (some 119) rfl rfl Try.func32 (by kernel_rfl) rfl #[.pointer (some ⟨g, 0, none⟩), .slice Am b.length (c6 - n)] rfl (by (try simp only [List.map_toArray, List.map_cons, List.map_nil]); first | done | rfl) ?_; refine HFd.out.mono ?_; rintro e w2 ⟨v2, lv2, ms, rfl, hP⟩; refine ⟨_, rfl, ?_⟩; obtain ⟨Al, cl, cl1, cl2⟩ := Bi.seenF hP HT.out HL.out; have HP := Aside0.mk hP; clear hP)
                | ((with_reducible refine gate_callee (f := 33) rfl ?_); (try (refine gate_guard (by rfl) ?_; dsimp only)); refine goesL_ (some 126) rfl rfl Try.func33 (by kernel_rfl) rfl #[.pointer (some ⟨g, 0, none⟩)] rfl (by (try simp only [List.map_toArray, List.map_cons, List.map_nil]); first | done | rfl) ?_; refine (Mine.left_zero _ g _ cl Al cl1).mono ?_; rintro e _ ⟨rfl, rfl⟩; refine ⟨_, rfl, ?_⟩)
                | ((with_reducible refine gate_callee (f := 34) rfl ?_); (try (refine gate_guard (by rfl) ?_; dsimp only)); refine goesL_ (some 128) rfl rfl Try.func34 (by kernel_rfl) rfl #[.pointer (some ⟨g, 0, none⟩)] rfl (by (try simp only [List.map_toArray, List.map_cons, List.map_nil]); first | done | rfl) ?_; refine (Mine.taken_zero _ g T cl2).mono ?_; rintro e _ ⟨rfl, rfl⟩; refine ⟨_, rfl, ?_⟩)
                | ((with_reducible refine gate_dst (N := 135) rfl ?_); refine HP.out.append rfl (.tmp 133) (.tmp 134) rfl rfl rfl Hal.out ?_; intro v3 w3 hI; have HI3 := Aside0.mk hI; clear hI cl1 cl2)
                | ((with_reducible refine gate_callee (f := 29) rfl ?_); refine goesL_ (some 140) rfl rfl Try.func29 (by kernel_rfl) rfl #[.slice A6 k.length c6] rfl (by (try simp only [List.map_toArray, List.map_cons, List.map_nil]); first | done | rfl) ?_; refine (HSk.out _ (HCT.out _ (Kd.R_reads' HI3.out.hall).2.2)).mono ?_; rintro e w5 ⟨v5, rfl, ho, hb⟩; refine ⟨_, rfl, ?_⟩; obtain ⟨A5, c5, e5⟩ := Kd.S_slice ho; subst e5; have hI := HI3.out.later hb; obtain ⟨Al5, cl5, cl51, cl52⟩ := Bi.seen hI HT.out HL.out; have HI5 := Aside0.mk hI; obtain ⟨A3, c3, e3⟩ := Kd.R_slice hI.hgot; subst e3; clear hI ho hb)
                | ((with_reducible refine gate_callee (f := 33) rfl ?_); (try (refine gate_guard (by rfl) ?_; dsimp only)); refine goesL_ (some 154) rfl rfl Try.func33 (by kernel_rfl) rfl #[.pointer (some ⟨g, 0, none⟩)] rfl (by (try simp only [List.map_toArray, List.map_cons, List.map_nil]); first | done | rfl) ?_; refine (Mine.left_zero _ g _ cl5 Al5 cl51).mono ?_; rintro e _ ⟨rfl, rfl⟩; refine ⟨_, rfl, ?_⟩)
                | ((with_reducible refine gate_callee (f := 34) rfl ?_); (try (refine gate_guard (by rfl) ?_; dsimp only)); refine goesL_ (some 161) rfl rfl Try.func34 (by kernel_rfl) rfl #[.pointer (some ⟨g, 0, none⟩)] rfl (by (try simp only [List.map_toArray, List.map_cons, List.map_nil]); first | done | rfl) ?_; refine (Mine.taken_zero _ g T cl52).mono ?_; rintro e _ ⟨rfl, rfl⟩; refine ⟨_, rfl, ?_⟩))
              try (refine (Mine.taken_zero _ g T cl52).mono ?_; rintro e _ ⟨rfl, rfl⟩; go_wp2_with fail)
              go_roundg (cuts.length + 1 - (i + 1))
              case measure => have := hi2.out; omega
              case rel => exact ⟨i + 1, m1, _, _, rfl, by rw [Mine.wrap64_in (by have := hi2.out; have := H60.out; omega) (by have := hi2.out; have := H60.out; omega)]; simp, rfl, ⟨by omega, rfl, HM.out.2, fun h => by omega⟩, HI5⟩
          · have hltb2 : decide ((i : Int) < (cuts.length : Int)) = false := decide_eq_false (by omega)
            have hm1 : n ≤ all.length ∧ all.length ≤ all.length := ⟨hi2.out.2.2.1, Nat.le_refl _⟩
            have hmm := hm1
            have HM := Aside0.mk hm1
            obtain ⟨T, L, E, hT, hL, hE, hsum, hcase⟩ := Bi.nums_of all all.length Hbo2.out Hal.out hm1.2 (Hpre.out all.length)
            obtain ⟨Am, b, hbe, hcM, hCM, hbc, hbl⟩ := Mine.cut_mid A6 c6 all (n : Int) (all.length : Int) (by omega) (by omega) (by omega) (Kd.R_reads' HI.out.hall).2.1
            obtain ⟨k, hke, hcT, hCT, hkc, hkl⟩ := Mine.cut_take A6 c6 all (all.length : Int) (by omega) (by omega) (Kd.R_reads' HI.out.hall).2.1
            rw [Int.toNat_natCast] at hbe hke hbl hkl
            rw [Int.toNat_natCast] at hbe hbl
            simp only [Int.toNat_natCast] at hcM hbc
            have HFd : Aside0 (Calls Try.prog 32 #[.pointer (some ⟨g, 0, none⟩), .slice Am b.length (c6 - n)] wr fun e W' => ∃ v lv' ms, e = .returned (.tuple #[v, .int .i64 0]) ∧ Bi.FedP w g (.slice A6 all.length c6) all wr W' n all.length gv v lv' ms) :=
              ⟨Bi.fed HI.out hm1.1 hm1.2 Hbo2.out Hal.out (Hpre.out all.length) Am (c6 - n) b hbe (hCM wr (Kd.R_reads' HI.out.hall).2.2) hbc⟩
            have HSk : Aside0 (∀ W : World, Kd.C (Kd.int .u8) W A6 k.length k → Calls Try.prog 29 #[.slice A6 k.length c6] W fun e w' => ∃ v0_ : Value, e = .returned (.tuple #[v0_, .int .i64 T, .int .i64 E]) ∧
              Kd.S (Kd.slice 5 (Kd.int .u8)) 22 w' W.heap.size (fun _ => True) v0_ (spl (all.take all.length)).1 ∧ Below W.heap.size W w') := ⟨fun W hC => by
              have := Sp.calls A6 c6 k W hC hkc (by rw [hke]; exact Crc.bytesOk_take Hbo2.out all.length) (by have := Hal.out; omega)
              rw [show (Sp.splitL k k.length [] 0).1 = (spl (all.take all.length)).1 by rw [← hke], show (Sp.splitL k k.length [] 0).2.1 = T by rw [hT, ← hke], show (Sp.splitL k k.length [] 0).2.2 = E by rw [hE, ← hke]] at this
              exact this⟩
            have HT := Aside0.mk hT
            have HL := Aside0.mk hL
            have HE := Aside0.mk hE
            have HK := Aside0.mk hke
            have HCT := Aside0.mk hCT
            clear hm1 hmm hT hL hE hke hbe hCM hCT hbc hbl hkc hkl
            rcases hcase with ⟨rfl, rfl, hT0⟩ | ⟨rfl, hL0⟩
            all_goals
              go_wp2_with (first
                | ((with_reducible refine gate_callee (f := 32) rfl ?_); refine goesL_ (some 119) rfl rfl Try.func32 (by kernel_rfl) rfl #[.pointer (some ⟨g, 0, none⟩), .slice Am b.length (c6 - n)] rfl (by (try simp only [List.map_toArray, List.map_cons, List.map_nil]); first | done | rfl) ?_; refine HFd.out.mono ?_; rintro e w2 ⟨v2, lv2, ms, rfl, hP⟩; refine ⟨_, rfl, ?_⟩; obtain ⟨Al, cl, cl1, cl2⟩ := Bi.seenF hP HT.out HL.out; have HP := Aside0.mk hP; clear hP)
                | ((with_reducible refine gate_callee (f := 33) rfl ?_); (try (refine gate_guard (by rfl) ?_; dsimp only)); refine goesL_ (some 126) rfl rfl Try.func33 (by kernel_rfl) rfl #[.pointer (some ⟨g, 0, none⟩)] rfl (by (try simp only [List.map_toArray, List.map_cons, List.map_nil]); first | done | rfl) ?_; refine (Mine.left_zero _ g _ cl Al cl1).mono ?_; rintro e _ ⟨rfl, rfl⟩; refine ⟨_, rfl, ?_⟩)
                | ((with_reducible refine gate_callee (f := 34) rfl ?_); (try (refine gate_guard (by rfl) ?_; dsimp only)); refine goesL_ (some 128) rfl rfl Try.func34 (by kernel_rfl) rfl #[.pointer (some ⟨g, 0, none⟩)] rfl (by (try simp only [List.map_toArray, List.map_cons, List.map_nil]); first | done | rfl) ?_; refine (Mine.taken_zero _ g T cl2).mono ?_; rintro e _ ⟨rfl, rfl⟩; refine ⟨_, rfl, ?_⟩)
                | ((with_reducible refine gate_dst (N := 135) rfl ?_); refine HP.out.append rfl (.tmp 133) (.tmp 134) rfl rfl rfl Hal.out ?_; intro v3 w3 hI; have HI3 := Aside0.mk hI; clear hI cl1 cl2)
                | ((with_reducible refine gate_callee (f := 29) rfl ?_); refine goesL_ (some 140) rfl rfl Try.func29 (by kernel_rfl) rfl #[.slice A6 k.length c6] rfl (by (try simp only [List.map_toArray, List.map_cons, List.map_nil]); first | done | rfl) ?_; refine (HSk.out _ (HCT.out _ (Kd.R_reads' HI3.out.hall).2.2)).mono ?_; rintro e w5 ⟨v5, rfl, ho, hb⟩; refine ⟨_, rfl, ?_⟩; obtain ⟨A5, c5, e5⟩ := Kd.S_slice ho; subst e5; have hI := HI3.out.later hb; obtain ⟨Al5, cl5, cl51, cl52⟩ := Bi.seen hI HT.out HL.out; have HI5 := Aside0.mk hI; obtain ⟨A3, c3, e3⟩ := Kd.R_slice hI.hgot; subst e3; clear hI ho hb)
                | ((with_reducible refine gate_callee (f := 33) rfl ?_); (try (refine gate_guard (by rfl) ?_; dsimp only)); refine goesL_ (some 154) rfl rfl Try.func33 (by kernel_rfl) rfl #[.pointer (some ⟨g, 0, none⟩)] rfl (by (try simp only [List.map_toArray, List.map_cons, List.map_nil]); first | done | rfl) ?_; refine (Mine.left_zero _ g _ cl5 Al5 cl51).mono ?_; rintro e _ ⟨rfl, rfl⟩; refine ⟨_, rfl, ?_⟩)
                | ((with_reducible refine gate_callee (f := 34) rfl ?_); (try (refine gate_guard (by rfl) ?_; dsimp only)); refine goesL_ (some 161) rfl rfl Try.func34 (by kernel_rfl) rfl #[.pointer (some ⟨g, 0, none⟩)] rfl (by (try simp only [List.map_toArray, List.map_cons, List.map_nil]); first | done | rfl) ?_; refine (Mine.taken_zero _ g T cl52).mono ?_; rintro e _ ⟨rfl, rfl⟩; refine ⟨_, rfl, ?_⟩))
              try (refine (Mine.taken_zero _ g T cl52).mono ?_; rintro e _ ⟨rfl, rfl⟩; go_wp2_with fail)
              go_roundg (cuts.length + 1 - (i + 1))
              case measure => have := hi2.out; omega
              case rel => exact ⟨i + 1, all.length, _, _, rfl, by rw [Mine.wrap64_in (by have := hi2.out; have := H60.out; omega) (by have := hi2.out; have := H60.out; omega)]; simp, rfl, ⟨by omega, rfl, HM.out.2, fun h => by omega⟩, by simpa only [List.take_length] using HI5⟩
        · obtain rfl : i = cuts.length + 1 := by have := hi2.out; omega
          obtain rfl : n = all.length := hi2.out.2.2.2 rfl
          have hleb : decide (((cuts.length + 1 : Nat) : Int) ≤ (cuts.length : Int)) = false := decide_eq_false (by omega)
          have hh := HI.out.hgot
          rw [List.take_length, Hsp.out] at hh
          obtain ⟨A3, c3, e3⟩ := Kd.R_slice hh
          subst e3
          have HGot := Aside0.mk hh
          have hT : (all.length : Int) = (spl (all.take all.length)).2.1 := by rw [List.take_length, Hsp.out]
          obtain ⟨Al, cl, cl1, cl2⟩ := Bi.seen HI.out hT rfl
          rw [show ((all.take all.length).drop ((all.length : Int)).toNat).length = 0 by rw [List.take_length]; simp] at cl1
          clear hh hT cl2
          go_wp2_with (first
            | ((with_reducible refine gate_callee (f := 31) rfl ?_); refine goesL_ (some 174) rfl rfl Try.func31 (by kernel_rfl) rfl #[.slice A3 bs.length c3, .slice A0 bs.length c0] rfl (by (try simp only [List.map_toArray, List.map_cons, List.map_nil]); first | done | rfl) ?_; refine (Sp.same A3 A0 c3 c0 bs _ (Kd.R_reads' HGot.out).2.2 (Kd.C_below HC0.out HI.out.below) (Kd.R_reads' HGot.out).2.1 hc0).mono ?_; rintro e w5 ⟨rfl, ⟨m5, hm5⟩⟩; subst hm5; refine ⟨_, rfl, ?_⟩)
            | ((with_reducible refine gate_callee (f := 33) rfl ?_); (try (refine gate_guard (by rfl) ?_; dsimp only)); refine goesL_ (some 177) rfl rfl Try.func33 (by kernel_rfl) rfl #[.pointer (some ⟨g, 0, none⟩)] rfl (by (try simp only [List.map_toArray, List.map_cons, List.map_nil]); first | done | rfl) ?_; refine (Mine.left_zero (wr.drewN m5) g 0 cl Al cl1).mono ?_; rintro e _ ⟨rfl, rfl⟩; refine ⟨_, rfl, ?_⟩))
          go_ret
          exact ⟨rfl, pw_below_drewN HI.out.below _⟩
end Go.Proofs.Ytobgijpbfmpdaaa.Bk
