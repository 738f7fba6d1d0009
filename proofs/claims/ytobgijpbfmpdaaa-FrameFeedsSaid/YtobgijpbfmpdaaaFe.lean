/- FrameFeeds: the walk of the law. -/
import Derived.Test.YtobgijpbfmpdaaaFi
import Derived.Test.YtobgijpbfmpdaaaBk
set_option linter.unusedVariables false
set_option linter.unusedSimpArgs false
namespace Go.Proofs.Ytobgijpbfmpdaaa.Fe
open Go.RowKit Go.Proofs.Ytobgijpbfmpdaaa.PFr Go.Proofs.YtobgijpbfmpdaaaW.PrintWords Go.Proofs.YtobgijpbfmpdaaaW.PrintLast Go.Proofs.YtobgijpbfmpdaaaW.PrintMore
open Go.Proofs.Ytobgijpbfmpdaaa.Crc (readP bytesOk)
open Go.Proofs.Ytobgijpbfmpdaaa.Fi Go.Proofs.Ytobgijpbfmpdaaa.Fm
set_option maxHeartbeats 8000000
set_option maxRecDepth 100000
theorem q_ex {P : Program} {f : FuncId} {args : Array Value} {w : World} {n : Nat} {v : Value} (h : Calls P f args (w.drewN n) fun e w' => e = .returned v ∧ ∃ m, w' = (w.drewN n).drewN m) :
    Calls P f args (w.drewN n) fun e w'' => e = .returned v ∧ ∃ m, w'' = w.drewN m :=
  h.mono fun e w' ⟨he, ⟨m, hm⟩⟩ => ⟨he, n + m, by rw [hm, World.drewN_drewN]⟩
theorem q_same {P : Program} {f : FuncId} {args : Array Value} {w : World} {n : Nat} {v : Value} (h : Calls P f args (w.drewN n) fun e w' => e = .returned v ∧ w' = w.drewN n) :
    Calls P f args (w.drewN n) fun e w'' => e = .returned v ∧ ∃ m, w'' = w.drewN m :=
  h.mono fun e w' ⟨he, hm⟩ => ⟨he, n, hm⟩
theorem FI_drewN {w W : World} {g h : Nat} {left : List Int} {taken e : Int} {lv : Value} {As : Option Addr} {cs : Nat} (H : FI w W g h left taken e lv As cs) (n : Nat) : FI w (W.drewN n) g h left taken e lv As cs :=
  ⟨blk_drewN H.hg n, blk_drewN H.hh n, Kd.R_drewN H.hl n, Kd.F_drewN H.hs n, H.hcs, pw_below_drewN H.below n, H.lo1, H.lo2⟩
theorem splitL_each (b : List Int) (hb : bytesOk b = true) : ∀ (k : Nat) (l : List (List Int)) (n : Int), (∀ y ∈ l, y.length ≤ b.length) → 0 ≤ n → ∀ y ∈ (Sp.splitL b k l n).1, y.length ≤ b.length := by
  intro k
  induction k with
  | zero => intro l n h _; simpa [Sp.splitL] using h
  | succ k ih =>
    intro l n h h0
    unfold Sp.splitL
    by_cases hn : n < (b.length : Int)
    · rw [if_pos hn]
      by_cases hz : (readP (b.drop n.toNat)).2.2 = 0
      · rw [if_pos hz]
        have h3 := Sp.read_ok hz (Crc.bytesOk_drop hb _)
        refine ih _ _ (fun y hy => ?_) (by omega)
        rcases List.mem_append.1 hy with hy | hy
        · exact h y hy
        · rw [List.mem_singleton.1 hy]
          rcases FrP.readP_body hz with h4 | h4
          · rw [h4.2.2.2.1, List.length_drop, List.length_take, List.length_drop]; omega
          · rw [Crc.bytesOk_drop hb] at h4; cases h4
      · rw [if_neg hz]; exact h
    · rw [if_neg hn]; exact h
theorem stp_len (left : List Int) (taken e : Int) (x : List Int) (room : Nat) (hb : bytesOk left = true) (hx : bytesOk x = true) (ht : 0 ≤ taken) (h : taken + left.length + room ≤ 3000) (hxr : x.length ≤ room) :
    (stp left taken e x).1.length ≤ 3000 ∧ ∀ y ∈ (stp left taken e x).1, y.length ≤ 3000 := by
  unfold stp
  by_cases he : e = 0
  · rw [if_pos he]
    have h1 := Bi.spl_len (left ++ x)
    have h2 := splitL_each (left ++ x) (Crc.bytesOk_append hb hx) (left ++ x).length [] 0 (by simp) (Int.le_refl _)
    have h3 : (left ++ x).length = left.length + x.length := List.length_append
    exact ⟨by simp only []; omega, fun y hy => by have := h2 y hy; omega⟩
  · rw [if_neg he]; exact ⟨by simp, by simp⟩
theorem ret_true {w W : World} (h : Below w.heap.size w W) : Ending.returned (.bool true) = .returned (.bool true) ∧ Below w.heap.size w W := ⟨rfl, h⟩
theorem conv (x : List Int) (A : Option Addr) (c : Nat) (W : World) (hC : Kd.C (Kd.int .u8) W A x.length x) (hbx : bytesOk x = true) (hl : x.length ≤ 3000) :
    ∃ (b0 : Nat) (s : ByteArray) (w1 : World) (c1 : Nat), b0 = W.heap.size ∧ (convert 22 9 (.slice A x.length c)).run Try.prog W = .ok (.string s) W ∧ (convert 9 22 (.string s)).run Try.prog W = .ok (.slice (some ⟨b0, 0, none⟩) x.length c1) w1 ∧
      Below W.heap.size W w1 ∧ w1.heap.size = W.heap.size + 1 ∧ Kd.C (Kd.int .u8) w1 (some ⟨b0, 0, none⟩) x.length x ∧ x.length ≤ c1 ∧ InRow w1 b0 x.length := by
  have h1 := Kd.C_string (P := Try.prog) Try.underlying22 Try.underlying5 Try.underlying9 (c := c) hC
  have h2 := print_bytes (P := Try.prog) 9 22 5 Try.underlying9 Try.underlying22 Try.underlying5 (strOfNums x) W
  have hb : bytesOf (strOfNums x) = x := by
    rw [bytesOf, strOfNums_data, List.map_map]
    refine (List.map_congr_left (fun y hy => ?_)).trans (List.map_id x)
    have := Crc.bytesOk_mem hbx y hy
    simp
    omega
  have hs : (strOfNums x).size = x.length := by rw [← bytesOf_length, hb]
  have hr := bytes_reads W 5 (strOfNums x) (by omega)
  have hi := inRow_bytes W (strOfNums x)
  rw [hs] at h2 hr hi
  rw [hb] at hr
  exact ⟨_, _, _, _, rfl, h1, h2, bytes_below (Below.refl _ _) (Nat.le_refl _) _ _, Lib.bytesWorld_size _ _ _, Kd.C_of_reads (h1 := fun _ => rfl) hr, grownCap_ge _ _ _ _, hi⟩
theorem feeds (A0 : Option Addr) (c0 : Nat) (ps : List (List Int)) (w : World) (hr0 : Kd.C (Kd.slice 5 (Kd.int .u8)) w A0 ps.length ps) (hc0 : ps.length ≤ c0) (hbo : ∀ b ∈ ps, bytesOk b = true) (h60 : ps.length ≤ 60) :
    Calls Try.prog 7 #[.slice A0 ps.length c0] w fun e w' => e = .returned (.bool true) ∧ Below w.heap.size w w' := by
  have HC0 := Aside0.mk hr0
  have Hbo := Aside0.mk hbo
  have H60 := Aside0.mk h60
  have d60 : decide (60 < (ps.length : Int)) = false := decide_eq_false (by omega)
  have d60' : decide (60 < ps.length) = false := decide_eq_false (by omega)
  clear hr0 hbo h60
  go_enter Try.func7, Try.ntmps7
  go_wp2_with (first
    | ((with_reducible refine gate_callee (f := 21) rfl ?_); refine goesL_ (some 15) rfl rfl Try.func21 (by kernel_rfl) rfl #[] rfl (by (try simp only [List.map_toArray, List.map_cons, List.map_nil]); first | done | rfl) ?_; refine (prompterlaw06_awake.calls true _ FbP.awake_f).mono ?_; rintro e w1 ⟨rfl, hb⟩; refine ⟨_, rfl, ?_⟩; have HB := Aside0.mk hb; clear hb)
    | ((with_reducible refine gate_callee (f := 35) rfl ?_); refine goesL_ (some 20) rfl rfl Try.func35 (by kernel_rfl) rfl #[] rfl (by (try simp only [List.map_toArray, List.map_cons, List.map_nil]); first | done | rfl) ?_; refine (Bk.new_calls _).mono ?_; rintro e w6 ⟨rfl, hw6⟩; refine ⟨_, rfl, ?_⟩; have HW6 := Aside0.mk hw6; clear hw6))
  obtain ⟨g, hgs⟩ : ∃ g, g = w1.heap.size := ⟨_, rfl⟩
  obtain ⟨h, hhs⟩ : ∃ h, h = w6.heap.size := ⟨_, rfl⟩
  rw [← hgs, ← hhs]
  have Hgs := Aside0.mk hgs
  have Hhs := Aside0.mk hhs
  clear hgs hhs
  go_loopg [3, 6] ps.length (fun kk v3 v6 wr => ∃ (i room : Nat) (left : List Int) (taken e : Int) (lv : Value) (As : Option Addr) (cs : Nat), v6 = .int .i64 i ∧ v3 = .int .i64 room ∧
    Aside0 (i ≤ ps.length ∧ kk = ps.length - i ∧ room ≤ 3000 ∧ 0 ≤ taken ∧ taken + left.length + room ≤ 3000 ∧ bytesOk left = true) ∧ Aside0 (FI w wr g h left taken e lv As cs))
  case atStart =>
    have hg := Hgs.out
    have hh := Hhs.out
    have hw6 := HW6.out
    have hB := HB.out
    subst hw6
    refine ⟨0, 3000, [], 0, 0, .slice none 0 0, none, 0, rfl, rfl, ⟨Nat.zero_le _, rfl, Nat.le_refl _, Int.le_refl _, by simp, rfl⟩, ⟨⟨?_, ?_, Kd.R_nil _ _ _ _ _, Kd.F_nil _ _ _, Nat.le_refl _, below_alloc (below_alloc hB _) _, ?_, ?_⟩⟩⟩
    · rw [hg]; exact blk_below (blk_new w1 _) (below_alloc (Below.refl _ _) _)
    · rw [hh]; exact blk_new _ _
    · rw [hg]; exact hB.size
    · rw [hh]; exact (below_alloc hB _).size
  case round =>
    obtain ⟨i, room, left, taken, e, lv, As, cs, rfl, rfl, hi, HI⟩ := hrel
    by_cases hlt : i < ps.length
    · have hltb : decide ((i : Int) < (ps.length : Int)) = true := decide_eq_true (by omega)
      obtain ⟨ad, cs0, eA, _, hK0, hcell0⟩ := Kd.C_get HC0.out [] (i : Int) (by omega) (by omega)
      rw [Int.toNat_natCast] at hK0 hcell0
      obtain ⟨x, hx⟩ : ∃ x, x = ps.getD i [] := ⟨_, rfl⟩
      rw [← hx] at hK0
      obtain ⟨A2, c2, e2, hl2, hC2⟩ := hK0
      subst e2 eA
      have cA0 := hcell0 0 _ rfl
      have hsz : (Kd.slice 5 (Kd.int .u8)).sz = 1 := rfl
      rw [hsz, Nat.mul_one, Nat.add_zero] at cA0
      have HcA := Aside0.mk cA0
      have cA := pw_cell_below HI.out.below cA0
      have HX0 := Aside0.mk hC2
      have Hxe := Aside0.mk hx
      have Hl2 := Aside0.mk hl2
      have hbx : bytesOk x = true := by
        rw [hx, List.getD_eq_getElem?_getD, List.getElem?_eq_getElem hlt]
        exact Hbo.out _ (List.getElem_mem hlt)
      have Hbx := Aside0.mk hbx
      clear hcell0 hC2 hx hsz hl2 cA0 hbx
      by_cases hgt : (room : Int) < (x.length : Int)
      · have g1 : decide ((room : Int) < (x.length : Int)) = true := decide_eq_true hgt
        have g2 : decide (room < x.length) = true := decide_eq_true (by omega)
        clear hgt
        go_wp2
        go_ret
        exact ⟨rfl, HI.out.below⟩
      · have g1 : decide ((room : Int) < (x.length : Int)) = false := decide_eq_false hgt
        have g2 : decide (room < x.length) = false := decide_eq_false (by omega)
        have Hgt : Aside0 (x.length ≤ room) := ⟨by omega⟩
        have hwr : IntKind.i64.wrap ((room : Int) - (x.length : Int)) = ((room - x.length : Nat) : Int) := by
          have := hi.out.2.2.1
          rw [IntWalk.i64_in _ ⟨by omega, by omega⟩]; omega
        obtain ⟨b0, s, w1', c1, hb0, hcv1, hcv2, hb1, hsz1, hC1, hc1, hin1⟩ := conv x A2 c2 wr (Kd.C_below HX0.out HI.out.below) Hbx.out (by have := hi.out.2.2.1; omega)
        have HF := Aside0.mk (fed HI.out hb1 hsz1 (some ⟨b0, 0, none⟩) c1 x hC1 hc1 hi.out.2.2.2.2.2 Hbx.out hi.out.2.2.2.1 (by have := hi.out; have := Hgt.out; omega))
        have Hin1 := Aside0.mk hin1
        have Hsz1 := Aside0.mk hsz1
        have Hb0g : Aside0 (¬ (b0 = g ∨ some b0 = lv.ownBlock)) := ⟨by
          rintro (e | e)
          · have := blk_lt HI.out.hg; omega
          · have := ((Kd.R_bound HI.out.hl).1 b0 e.symm).2.2.1; omega⟩
        have hnums := stp_nums left taken e x room hi.out.2.2.2.2.2 Hbx.out hi.out.2.2.2.1 hi.out.2.2.2.2.1 Hgt.out
        obtain ⟨st, hst⟩ : ∃ st, st = stp left taken e x := ⟨_, rfl⟩
        rw [← hst, ← hb0] at HF
        rw [← hst] at hnums
        obtain ⟨l, left', taken', e'⟩ := st
        have Hst := Aside0.mk hst
        have Hnums := Aside0.mk hnums
        have Hlb : Aside0 (l.length ≤ 3000 ∧ ∀ y ∈ l, y.length ≤ 3000) := ⟨by
          have := stp_len left taken e x room hi.out.2.2.2.2.2 Hbx.out hi.out.2.2.2.1 hi.out.2.2.2.2.1 Hgt.out
          rw [← hst] at this
          exact this⟩
        clear hgt hb1 hsz1 hC1 hc1 hin1 hst hnums hb0
        dsimp only at HF
        go_wp2_with (first
          | ((with_reducible refine gate_callee (f := 32) rfl ?_); refine goesL_ (some 52) rfl rfl Try.func32 (by kernel_rfl) rfl #[.pointer (some ⟨g, 0, none⟩), .slice (some ⟨b0, 0, none⟩) x.length c1] rfl (by (try simp only [List.map_toArray, List.map_cons, List.map_nil]); first | done | rfl) ?_; refine HF.out.mono ?_; rintro en w2 ⟨v2, lv2, rfl, hM, hkb⟩; refine ⟨_, rfl, ?_⟩; obtain ⟨Av, cv, ev⟩ := Kd.R_slice hM.hv; subst ev; obtain ⟨Al, cl, el⟩ := Kd.R_slice hM.hl; subst el; have HM := Aside0.mk hM; have Hkb := Aside0.mk hkb; clear hM hkb))
        have Hin2 : Aside0 (InRow w2 b0 x.length) := ⟨Hin1.out.kb Hkb.out Hb0g.out⟩
        clear cA hcv1 hcv2
        obtain ⟨wo, hwo⟩ : ∃ wo : World, wo = wr := ⟨_, rfl⟩
        subst hwo
        go_loopg [10] x.length (fun kk v10 wq => ∃ k : Nat, v10 = .int .i64 k ∧ Aside0 (k ≤ x.length ∧ kk = x.length - k) ∧ Aside0 (Kb (fun j => j = b0) w2 wq ∧ InRow wq b0 x.length))
        case atStart => exact ⟨0, rfl, ⟨Nat.zero_le _, rfl⟩, ⟨Kb.refl _ _, Hin2.out⟩⟩
        case round =>
          obtain ⟨k, rfl, hk, HQ⟩ := hrel
          by_cases hkl : k < x.length
          · have hklb : decide ((k : Int) < (x.length : Int)) = true := decide_eq_true (by omega)
            obtain ⟨u, hcell⟩ := HQ.out.2.cell hkl
            have hfz := HQ.out.2.frozen hkl
            go_wp2
            go_roundg (x.length - (k + 1))
            case measure => have := hk.out; omega
            case rel =>
              have h0 := hi.out
              have h1 := Hgt.out
              exact ⟨k + 1, by rw [Mine.wrap64_in (by omega) (by omega)]; simp, ⟨by omega, rfl⟩, ⟨HQ.out.1.trans (Kb.set _ _ _ _ rfl), HQ.out.2.set _ _⟩⟩
          · obtain rfl : k = x.length := by have := hk.out; omega
            have hklb : decide ((x.length : Int) < (x.length : Int)) = false := decide_eq_false (by omega)
            obtain ⟨w3, hw3⟩ : ∃ w3 : World, w3 = wr := ⟨_, rfl⟩
            subst hw3
            have HM3 : Aside0 (Mid w w3 g h b0 left left' taken taken' e e' (.slice Al left'.length cl) As cs (.slice Av l.length cv) l) := ⟨HM.out.kb HQ.out.1⟩
            have cA3 := pw_cell_below HM3.out.below HcA.out
            have HRF : Aside0 (Calls Try.prog 36 #[.pointer (some ⟨h, 0, none⟩), .slice A2 x.length c2] w3 fun en W2 => ∃ Am cm As' cs', en = .returned (.tuple #[.slice Am l.length cm, .int .i64 e']) ∧ Fin w W2 g h b0 w3.heap.size left' taken' e' (.slice Al left'.length cl) As' cs' (.slice Av l.length cv) l Am cm) := ⟨by
              have hst := Hst.out
              have hM := HM3.out
              have hi' := hi.out
              have hgt := Hgt.out
              have := @refed w w3 g h b0 left taken e x (.slice Al left'.length cl) As cs (.slice Av l.length cv) (by rw [← hst]; exact hM) A2 c2 (Kd.C_below HX0.out hM.below) Hl2.out hi'.2.2.2.2.2 Hbx.out hi'.2.2.2.1 (by omega)
              rw [← hst] at this
              exact this⟩
            go_wp2_with (first
              | ((with_reducible refine gate_callee (f := 36) rfl ?_); refine goesL_ (some 70) rfl rfl Try.func36 (by kernel_rfl) rfl #[.pointer (some ⟨h, 0, none⟩), .slice A2 x.length c2] rfl (by (try simp only [List.map_toArray, List.map_cons, List.map_nil]); first | done | rfl) ?_; refine HRF.out.mono ?_; rintro en w4 ⟨Am, cm, As', cs', rfl, hF⟩; refine ⟨_, rfl, ?_⟩; have HFin := Aside0.mk hF; have cg1 : w4.cell? ⟨g, 1, none⟩ = some (.slice Al left'.length cl) := (by rw [blk_cell hF.hg]; rfl); have cg2 : w4.cell? ⟨g, 2, none⟩ = some (.int .i64 taken') := (by rw [blk_cell hF.hg]; rfl); have ch0 : w4.cell? ⟨h, 0, none⟩ = some (.slice As' left'.length cs') := (by rw [blk_cell hF.hh]; rfl); have ch1 : w4.cell? ⟨h, 1, none⟩ = some (.int .i64 taken') := (by rw [blk_cell hF.hh]; rfl); clear hF)
              | go_quiet (first | (go_at_call 31; exact q_ex (Sp.same Av Am cv cm l _ (Kd.C_drewN (Kd.R_reads' HFin.out.hv).2.2 _) (Kd.C_drewN HFin.out.hm _) (Kd.R_reads' HFin.out.hv).2.1 HFin.out.hmc)) | (go_at_call 33; exact q_same (Mine.left_zero _ g left'.length cl Al cg1)) | (go_at_call 34; exact q_same (Mine.taken_zero _ g taken' cg2))))
            have HRw : Aside0 (0 < l.length → ∃ g0, Av = some ⟨g0, 0, none⟩ ∧ Rowy (w4.drewN nq) (fun k => b0 ≤ k ∧ k < w3.heap.size ∧ some k ≠ (Value.slice Al left'.length cl).ownBlock) g0 (l.map List.length)) := ⟨fun hp => by
              obtain ⟨g0, c', hv, _, hR⟩ := Rowy.of_R (Kd.R_bound (Kd.R_drewN HFin.out.hv nq)) hp
              injection hv with hA _ _
              refine ⟨g0, hA, ?_⟩
              obtain ⟨cs, h1, h2⟩ := hR.outer
              refine ⟨cs, h1, fun k n hn => ?_⟩
              obtain ⟨Ak, ck, h3, h4⟩ := h2 k n hn
              refine ⟨Ak, ck, h3, fun hpn => ?_⟩
              obtain ⟨b, h5, h6, h7⟩ := h4 hpn
              exact ⟨b, h5, ⟨by have := h6.2.1; omega, h6.1.2, h6.1.1⟩, h7⟩⟩
            clear cA3 cg1 cg2 ch0 ch1
            go_loopg [13] l.length (fun kk v13 wq => ∃ k : Nat, v13 = .int .i64 k ∧ Aside0 (k ≤ l.length ∧ kk = l.length - k) ∧ Aside0 (Kb (fun k => b0 ≤ k ∧ k < w3.heap.size ∧ some k ≠ (Value.slice Al left'.length cl).ownBlock) w4 wq) ∧
              Aside0 (0 < l.length → ∃ g0, Av = some ⟨g0, 0, none⟩ ∧ Rowy wq (fun k => b0 ≤ k ∧ k < w3.heap.size ∧ some k ≠ (Value.slice Al left'.length cl).ownBlock) g0 (l.map List.length)))
            case atStart => exact ⟨0, rfl, ⟨Nat.zero_le _, rfl⟩, ⟨Kb.drewN _ _ _⟩, HRw⟩
            case round =>
              obtain ⟨k, rfl, hk3, HK3, HR3⟩ := hrel
              obtain ⟨w5, hw5⟩ : ∃ w5 : World, w5 = wr := ⟨_, rfl⟩
              subst hw5
              by_cases hkl : k < l.length
              · have hklb3 : decide ((k : Int) < (l.length : Int)) = true := decide_eq_true (by omega)
                obtain ⟨g0, hA, hRow⟩ := HR3.out (by omega)
                subst hA
                have HRow := Aside0.mk hRow
                obtain ⟨n, hn⟩ : ∃ n, (l.map List.length)[k]? = some n := ⟨l[k].length, by rw [List.getElem?_map, List.getElem?_eq_getElem hkl]; rfl⟩
                have Hn := Aside0.mk hn
                have Hnl : Aside0 (n ≤ 3000) := ⟨by
                  rw [List.getElem?_map, List.getElem?_eq_getElem hkl] at hn
                  have hne : l[k].length = n := by simpa using hn
                  have := Hlb.out.2 l[k] (List.getElem_mem hkl)
                  omega⟩
                clear hRow hn
                go_wp2
                go_loopg [14] n (fun kk v14 wz => ∃ j : Nat, v14 = .int .i64 j ∧ Aside0 (j ≤ n ∧ kk = n - j) ∧ Aside0 (Kb (fun k => b0 ≤ k ∧ k < w3.heap.size ∧ some k ≠ (Value.slice Al left'.length cl).ownBlock) w4 wz) ∧
                  Aside0 (Rowy wz (fun k => b0 ≤ k ∧ k < w3.heap.size ∧ some k ≠ (Value.slice Al left'.length cl).ownBlock) g0 (l.map List.length)))
                case atStart => exact ⟨0, rfl, ⟨Nat.zero_le _, rfl⟩, HK3, HRow⟩
                case round =>
                  obtain ⟨j, rfl, hj, HK4, HR4⟩ := hrel
                  obtain ⟨cz, hcz, hcell⟩ := HR4.out.outer
                  obtain ⟨Ak, ck, hck, hput⟩ := hcell k n Hn.out
                  have cK : wr.cell? ⟨g0, k, none⟩ = some (.slice Ak n ck) := by rw [blk_cell hcz]; exact hck
                  have Hput := Aside0.mk hput
                  clear hcz hcell hck hput
                  by_cases hjn : j < n
                  · have hjb : decide ((j : Int) < (n : Int)) = true := decide_eq_true (by omega)
                    obtain ⟨b, hAb, hok, hIn⟩ := Hput.out (by omega)
                    subst hAb
                    obtain ⟨u, hcu⟩ := hIn.cell hjn
                    have hfu := hIn.frozen hjn
                    have HIn := Aside0.mk hIn
                    have Hok := Aside0.mk hok
                    clear hIn hok
                    go_wp2
                    go_roundg (n - (j + 1))
                    case measure => have := hj.out; omega
                    case rel =>
                      have := Hnl.out
                      exact ⟨j + 1, by rw [Mine.wrap64_in (by omega) (by omega)]; simp, ⟨by omega, rfl⟩, ⟨HK4.out.trans (Kb.set _ _ _ _ Hok.out)⟩, ⟨HR4.out.put HIn.out _ _⟩⟩
                  · obtain rfl : j = n := by have := hj.out; omega
                    have hjb : decide ((j : Int) < (j : Int)) = false := decide_eq_false (by omega)
                    go_wp2
                    go_roundg (l.length - (k + 1))
                    case measure => have := hk3.out; omega
                    case rel =>
                      have := Hlb.out.1
                      exact ⟨k + 1, by rw [Mine.wrap64_in (by omega) (by omega)]; simp, ⟨by omega, rfl⟩, HK4, ⟨fun _ => ⟨g0, rfl, HR4.out⟩⟩⟩
              · obtain rfl : k = l.length := by have := hk3.out; omega
                have hklb3 : decide ((l.length : Int) < (l.length : Int)) = false := decide_eq_false (by omega)
                have HFI : Aside0 (FI w w5 g h left' taken' e' (.slice Al left'.length cl) As' cs') := ⟨HFin.out.over HK3.out⟩
                have cg1 : w5.cell? ⟨g, 1, none⟩ = some (.slice Al left'.length cl) := by rw [blk_cell HFI.out.hg]; rfl
                have ch0 : w5.cell? ⟨h, 0, none⟩ = some (.slice As' left'.length cs') := by rw [blk_cell HFI.out.hh]; rfl
                have he0 : (e' != 0) = true ∨ (e' != 0) = false := by cases e' != 0 <;> simp
                rcases he0 with he0 | he0
                all_goals
                  go_wp2_with (first
                    | go_quiet (first | (go_at_call 33; exact q_same (Mine.left_zero _ g left'.length cl Al cg1))))
                  go_roundg (ps.length - (i + 1))
                  case measure => have := hi.out; omega
                  case rel =>
                    have h0 := hi.out
                    have h1 := Hnums.out
                    have h6 := H60.out
                    exact ⟨i + 1, room - x.length, left', taken', e', .slice Al left'.length cl, As', cs', by rw [Mine.wrap64_in (by omega) (by omega)]; simp, rfl, ⟨by omega, rfl, by omega, h1.2.1, h1.2.2, h1.1⟩, ⟨FI_drewN HFI.out _⟩⟩
    · obtain rfl : i = ps.length := by have := hi.out; omega
      have hltb : decide ((ps.length : Int) < (ps.length : Int)) = false := decide_eq_false (by omega)
      go_wp2
      go_ret
      exact ⟨rfl, HI.out.below⟩
end Go.Proofs.Ytobgijpbfmpdaaa.Fe
