/- CheckBound: the walk. -/
import Derived.Test.YtobgijpbfmpdaaaSu
import Derived.BigQuiet
set_option linter.unusedVariables false
set_option linter.unusedSimpArgs false
set_option maxRecDepth 100000
namespace Go.Proofs.Ytobgijpbfmpdaaa.Ck
open Go.RowKit Go.Proofs.YtobgijpbfmpdaaaW.PrintWords Go.Proofs.YtobgijpbfmpdaaaW.PrintLast Go.Proofs.YtobgijpbfmpdaaaW.PrintMore
open Go.Proofs.Ytobgijpbfmpdaaa.Fm Go.Proofs.Ytobgijpbfmpdaaa.Mp Go.Proofs.Ytobgijpbfmpdaaa.PCk Go.Proofs.Ytobgijpbfmpdaaa.Tb
set_option maxHeartbeats 16000000
theorem makes_f (x : S61) : prompterlaw11_makes.f x.f0 x.f1 x.f2 x.f3 = some (makes x) := by
  unfold prompterlaw11_makes.f makes
  by_cases h : x.f0 = 2
  · rw [if_pos h, h]; rfl
  · rw [if_neg h, beq_eq_false_iff_ne.2 h]; rfl
theorem uses_f (x : S61) : prompterlaw11_uses.f x.f0 x.f1 x.f2 x.f3 = some (uses x) := by
  unfold prompterlaw11_uses.f uses
  by_cases h : x.f0 = 5
  · rw [if_pos h, h]; rfl
  · rw [if_neg h, beq_eq_false_iff_ne.2 h]; rfl
theorem init_inv : Inv init [] := ⟨⟨rfl, Nat.zero_le _⟩, fun k v h => by cases h⟩
/-- What check.Slots tells, as the law reads it. -/
theorem post_bound {ts : List S61} {W W' : World} {e : Ending} (h : SlotsPost ts W e W') :
    (∃ (at_ er : Int), er ≠ 0 ∧ 0 ≤ at_ ∧ at_ ≤ ts.length ∧ e = .returned (.tuple #[.slice none 0 0, .int .i64 at_, .int .i64 er])) ∨
    (∃ (v : Value) (l : List Int) (nf : List Ky), e = .returned (.tuple #[v, .int .i64 0, .int .i64 0]) ∧ (Kd.int .i64).R 3 W' W.heap.size (fun _ => True) v l ∧ l.length = ts.length ∧ ts.length ≤ 2048 ∧ bnd ts l [] = some nf) := by
  obtain ⟨hb, h⟩ := h
  rcases h with ⟨h, he⟩ | ⟨h0, Tn, h1, h2, h3, h4⟩
  · refine .inl ⟨_, _, h, ?_, ?_, he⟩
    · unfold checkP
      have hbd := walk_bd ts (ts.length + 1) 0 1 (fun _ => true) (-1) (-1) (Int.le_refl _) (by unfold InB; dsimp only; omega)
      unfold InB at hbd
      unfold walk0
      repeat' split
      all_goals dsimp only
      all_goals omega
    · unfold checkP
      have hbd := walk_bd ts (ts.length + 1) 0 1 (fun _ => true) (-1) (-1) (Int.le_refl _) (by unfold InB; dsimp only; omega)
      unfold InB at hbd
      unfold walk0
      repeat' split
      all_goals dsimp only
      all_goals omega
  · rcases h4 with ⟨_, he⟩ | ⟨_, hf, he⟩ | ⟨_, hf, v, he, hR⟩
    · exact .inl ⟨0, 3, by decide, Int.le_refl _, by omega, he⟩
    · have hn := slT_next Tn init
      rw [← h1] at hn
      refine .inl ⟨_, _, hf, by omega, ?_, he⟩
      have : init.next = 0 := rfl
      omega
    · obtain ⟨⟨o, ns', e1, e2, _⟩, _⟩ := slT_good Tn init [] init_inv rfl hf
      have e1 : (slT Tn init).1.out = o := e1
      rw [e1] at hR
      rw [← h1] at e2
      have hl : ∀ (a : List S61) (b : List Int) (n : List Ky) (m : List Ky), bnd a b n = some m → b.length = a.length := by
        intro a
        induction a with
        | nil => intro b n m h; cases b with
          | nil => rfl
          | cons _ _ => simp [bnd] at h
        | cons x r ih =>
          intro b n m h
          cases b with
          | nil => simp [bnd] at h
          | cons y q =>
            simp only [bnd] at h
            have : ∃ n2, bnd r q n2 = some m := by
              split at h
              · split at h
                · exact ⟨_, h⟩
                · cases h
              · split at h
                · split at h
                  · exact ⟨_, h⟩
                  · cases h
                · split at h
                  · exact ⟨_, h⟩
                  · cases h
            obtain ⟨n2, h2⟩ := this
            simp only [List.length_cons]
            rw [ih q n2 m h2]
      exact .inr ⟨v, o, ns', he, hR, hl _ _ _ _ e2, h3, e2⟩
theorem bound_c (ts : List S61) (A : Option Addr) (c : Nat) (W : World) (hC : Kd.C k61 W A ts.length ts) (hc : ts.length ≤ c) (hts : ∀ x ∈ ts, TwOk x) :
    Calls Try.prog 10 #[.slice A ts.length c] W fun e W' => e = .returned (.bool true) ∧ Below W.heap.size W W' := by
  have hn64 : ts.length ≤ 9223372036854775807 := hC.2.1
  by_cases h5 : 5000 < ts.length
  · have g1 : decide ((5000 : Int) < (ts.length : Int)) = true := decide_eq_true (by omega)
    have g2 : decide (5000 < ts.length) = true := decide_eq_true h5
    clear hC hts h5
    go_enter Try.func10, Try.ntmps10
    go_wp2_with (first
      | ((with_reducible refine gate_callee (f := 37) rfl ?_); refine goesL_ (some 11) rfl rfl Try.func37 (by kernel_rfl) rfl #[] rfl (by (try simp only [List.map_toArray, List.map_cons, List.map_nil]); first | done | rfl) ?_; refine (wakes_c _).mono ?_; rintro e wz ⟨he, hd⟩; subst he; refine ⟨_, rfl, ?_⟩; have HBZ := Aside0.mk (hd); clear hd)
      | fail)
    go_ret
    exact ⟨rfl, HBZ.out⟩
  have g1 : decide ((5000 : Int) < (ts.length : Int)) = false := decide_eq_false (by omega)
  have g2 : decide (5000 < ts.length) = false := decide_eq_false h5
  have HC := Aside0.mk hC
  have HTS := Aside0.mk hts
  have HSL := Aside0.mk (slots_c ts A c W hC hts)
  have HL5 := Aside0.mk h5
  clear hC hts h5
  go_enter Try.func10, Try.ntmps10
  go_wp2_with (first
    | ((with_reducible refine gate_callee (f := 38) rfl ?_); refine goesL_ (some 14) rfl rfl Try.func38 (by kernel_rfl) rfl #[.slice A ts.length c] rfl (by (try simp only [List.map_toArray, List.map_cons, List.map_nil]); first | done | rfl) ?_; refine HSL.out.mono ?_; rintro e w2 hp; have HB2 := Aside0.mk hp.1; rcases post_bound hp with ⟨at_, er, hn0, ha0, ha1, he⟩ | ⟨v2, l, nf, he, hR2, hl2, ht2, hbn⟩ <;> subst he <;> refine ⟨_, rfl, ?_⟩ <;> (first | (obtain ⟨A2, c2, e2⟩ := Kd.R_slice hR2; rw [hl2] at e2; subst e2; have HR2 := Aside0.mk hR2; have HL2 := Aside0.mk hl2; have HT2 := Aside0.mk ht2; have HBN := Aside0.mk hbn; clear hR2 hl2 ht2 hbn hp) | (clear hp)))
    | ((with_reducible refine gate_callee (f := 37) rfl ?_); (try (refine gate_guard (by rfl) ?_; dsimp only)); refine goesL_ (some 34) rfl rfl Try.func37 (by kernel_rfl) rfl #[] rfl (by (try simp only [List.map_toArray, List.map_cons, List.map_nil]); first | done | rfl) ?_; refine (wakes_c _).mono ?_; rintro e wz ⟨he, hd⟩; subst he; refine ⟨_, rfl, ?_⟩; have HBZ := Aside0.mk (below_step HB2.out hd); clear hd)
    | fail)
  · go_ret
    exact ⟨rfl, HBZ.out⟩
  · go_loopg [6, 7] ts.length (fun kk v6 v7 wr => ∃ (i : Nat) (ns : List Ky) (Am : Option Addr) (cm : Nat), v6 = .slice Am ns.length cm ∧ v7 = .int .i64 i ∧ Aside0 (i ≤ ts.length ∧ kk = ts.length - i) ∧ Aside0 (bnd (ts.drop i) (l.drop i) ns = some nf ∧ ns.length ≤ 100) ∧
      Aside0 (Below W.heap.size W wr) ∧ Aside0 ((Kd.int .i64).R 3 wr W.heap.size (fun _ => True) (.slice A2 ts.length c2) l) ∧ Aside0 (Kd.string.R 9 wr W.heap.size (fun _ => True) (.slice Am ns.length cm) (strK ns)))
    case atStart => exact ⟨0, [], none, 0, rfl, rfl, ⟨Nat.zero_le _, rfl⟩, ⟨HBN.out, Nat.zero_le _⟩, HB2, HR2, ⟨Kd.R_nil _ _ _ _ _⟩⟩
    case round =>
      clear HB2 HR2
      obtain ⟨i, ns, Am, cm, rfl, rfl, hi, HBD, HB, HRl, HRn⟩ := hrel
      have hi0 : (0 : Int) ≤ (i : Int) := by omega
      have hl2 := HL2.out
      have ht2 := HT2.out
      by_cases hil : i < ts.length
      · have a1 : decide ((i : Int) < (ts.length : Int)) = true := decide_eq_true (by omega)
        have a2 : decide (i < ts.length) = true := decide_eq_true hil
        have a3 : (i : Int) < (ts.length : Int) := by omega
        have a4 : (i : Int) < (l.length : Int) := by omega
        obtain ⟨x, hx⟩ : ∃ x, x = rd_T61 ts (i : Int) := ⟨_, rfl⟩
        obtain ⟨ad, eA, q0, q1, q2, q3⟩ := at_T61 (Kd.C_below HC.out HB.out) (i : Int) hi0 a3
        rw [Int.toNat_natCast] at q0 q1 q2 q3
        rw [← hx] at q0 q1 q2 q3
        subst eA
        have hxt : x = ts[i] := by
          rw [hx]; unfold rd_T61
          rw [Int.toNat_natCast, List.getD_eq_getElem?_getD, List.getElem?_eq_getElem hil]; rfl
        obtain ⟨y, hy⟩ : ∃ y, y = l[i]'(by omega) := ⟨_, rfl⟩
        obtain ⟨al, csl, eL, _, hKl, hcl⟩ := Kd.C_get (Kd.R_reads' HRl.out).2.2 0 (i : Int) hi0 a4
        rw [Int.toNat_natCast] at hKl hcl
        have hly : l.getD i 0 = y := by rw [List.getD_eq_getElem?_getD, List.getElem?_eq_getElem (by omega), hy]; rfl
        rw [hly] at hKl
        subst eL
        have hKl' : csl = [.int .i64 y] := hKl
        subst hKl'
        have cl := hcl 0 _ rfl
        rw [show (Kd.int .i64).sz = 1 from rfl, Nat.mul_one, Nat.add_zero] at cl
        have hb := HBD.out.1
        rw [List.drop_eq_getElem_cons hil, List.drop_eq_getElem_cons (show i < l.length by omega), ← hxt, ← hy] at hb
        simp only [bnd] at hb
        have HM := Aside0.mk (makes_f x)
        have HU := Aside0.mk (uses_f x)
        have hns := HBD.out.2
        have hxf : 0 ≤ x.f0 ∧ x.f0 < 256 := (HTS.out x (by rw [hxt]; exact List.getElem_mem hil)).1
        have hkey : (⟨(key x).toArray⟩ : ByteArray) = x.f3 := key_str x
        clear hx hxt hy hly hKl hcl
        by_cases hm : makes x = true
        · rw [if_pos hm] at hb
          rw [hm] at HM
          by_cases hg : y = (ns.length : Int) ∧ ns.length < 100
          · rw [if_pos hg] at hb
            obtain ⟨hg1, hg2⟩ := hg
            subst hg1
            have b1 : decide ((100 : Int) ≤ (ns.length : Int)) = false := decide_eq_false (by omega)
            have b2 : decide (100 ≤ ns.length) = false := decide_eq_false (by omega)
            have HB8 := Aside0.mk (show bnd (ts.drop (i + 1)) (l.drop (i + 1)) (ns ++ [key x]) = some nf ∧ (ns ++ [key x]).length ≤ 100 from ⟨hb, by rw [List.length_append]; exact hg2⟩)
            have HKE := Aside0.mk hkey
            clear hb hm hkey
            go_wp2_with (first
              | ((with_reducible refine gate_callee (f := 41) rfl ?_); refine goesL_ (some 56) rfl rfl Try.func41 (by kernel_rfl) rfl #[.agg #[.int .u8 x.f0, .int .i64 x.f1, .int .i64 x.f2, .string x.f3]] rfl (by (try simp only [List.map_toArray, List.map_cons, List.map_nil]); first | done | rfl) ?_; refine (prompterlaw11_makes.calls x.f0 x.f1 x.f2 x.f3 _ _ HM.out).mono ?_; rintro e w7 ⟨he, hd⟩; subst he; refine ⟨_, rfl, ?_⟩; have HB7 := Aside0.mk hd; have q07 := pw_cell_below hd q0; have q17 := pw_cell_below hd q1; have q27 := pw_cell_below hd q2; have q37 := pw_cell_below hd q3; have cl7 := pw_cell_below hd cl; clear hd)
              | ((with_reducible refine gate_builtin (b := .append) (xs := #[.tmp 69, .tmp 75]) rfl ?_); at_builtin; refine Kd.R_append Kd.string (w0 := W) W.heap.size rfl (.tmp 69) (.tmp 75) 58 9 (.string ⟨#[]⟩) 16 rfl Try.underlying58 info9 rfl (by decide) (by decide) (.slice Am ns.length cm) _ x.f3 [.string x.f3] (fun _ => True) (fun _ => False) rfl rfl rfl (fun _ hk => hk.elim) (fun _ _ => trivial) (Kd.R_below HRn.out HB7.out) (below_step HB.out HB7.out) (below_step HB.out HB7.out).size (by rw [strK_len]; omega) ?_; intro v8 w8 ho hb hg hat; obtain ⟨A8, c8, e8⟩ := Kd.R_slice ho; have e9 : v8 = .slice A8 (ns.length + 1) c8 := (by rw [e8, List.length_append, strK_len]; rfl); clear e8; subst e9; have HRN : Aside0 (Kd.string.R 9 w8 W.heap.size (fun _ => True) (.slice A8 (ns ++ [key x]).length c8) (strK (ns ++ [key x]))) := ⟨by rw [List.length_append]; unfold strK; rw [List.map_append]; show Kd.string.R 9 w8 W.heap.size (fun _ => True) _ (strK ns ++ [⟨(key x).toArray⟩]); rw [HKE.out]; exact ho⟩; have HRL := Aside0.mk (Kd.R_over (Kd.R_below HRl.out HB7.out) (Kd.R_below HRn.out HB7.out) (by decide) hg); have HBQ := Aside0.mk hb; clear ho hb hg hat)
              | fail)
            go_roundg (ts.length - (i + 1))
            case measure => have := hi.out; omega
            case rel => exact ⟨i + 1, ns ++ [key x], A8, c8, by rw [List.length_append]; rfl, rfl, ⟨by omega, rfl⟩, HB8, HBQ, HRL, HRN⟩
          · rw [if_neg hg] at hb; cases hb
        · rw [if_neg hm] at hb
          have hm0 : makes x = false := by simpa using hm
          rw [hm0] at HM
          by_cases hu : uses x = true
          · rw [if_pos hu] at hb
            rw [hu] at HU
            by_cases hg : 0 ≤ y ∧ y < (ns.length : Int) ∧ ns[y.toNat]? = some (key x)
            · rw [if_pos hg] at hb
              obtain ⟨hg1, hg2, hg3⟩ := hg
              have HB8 := Aside0.mk (show bnd (ts.drop (i + 1)) (l.drop (i + 1)) ns = some nf ∧ ns.length ≤ 100 from ⟨hb, hns⟩)
              have b1 : decide (y < 0) = false := decide_eq_false (by omega)
              have b2 : decide ((ns.length : Int) ≤ y) = false := decide_eq_false (by omega)
              have hyn : y.toNat < ns.length := by omega
              have a5 : y < ((strK ns).length : Int) := by rw [strK_len]; exact hg2
              obtain ⟨an, csn, eN, _, hKn, hcn⟩ := Kd.C_get (Kd.R_reads' HRn.out).2.2 ByteArray.empty y hg1 a5
              rw [strK_get ns y.toNat hyn, show ns[y.toNat] = key x from by rw [List.getElem?_eq_getElem hyn] at hg3; exact Option.some.inj hg3, hkey] at hKn
              subst eN
              have hKn' : csn = [.string x.f3] := hKn
              subst hKn'
              have cn := hcn 0 _ rfl
              rw [show Kd.string.sz = 1 from rfl, Nat.mul_one, Nat.add_zero] at cn
              clear hb hm hm0 hu hkey hKn hcn hg3
              go_wp2_with (first
                | ((with_reducible refine gate_callee (f := 41) rfl ?_); refine goesL_ (some 56) rfl rfl Try.func41 (by kernel_rfl) rfl #[.agg #[.int .u8 x.f0, .int .i64 x.f1, .int .i64 x.f2, .string x.f3]] rfl (by (try simp only [List.map_toArray, List.map_cons, List.map_nil]); first | done | rfl) ?_; refine (prompterlaw11_makes.calls x.f0 x.f1 x.f2 x.f3 _ _ HM.out).mono ?_; rintro e w7 ⟨he, hd⟩; subst he; refine ⟨_, rfl, ?_⟩; have HB7 := Aside0.mk hd; have q07 := pw_cell_below hd q0; have q17 := pw_cell_below hd q1; have q27 := pw_cell_below hd q2; have q37 := pw_cell_below hd q3; have cl7 := pw_cell_below hd cl; clear hd)
                | ((with_reducible refine gate_callee (f := 42) rfl ?_); refine goesL_ (some 82) rfl rfl Try.func42 (by kernel_rfl) rfl #[.agg #[.int .u8 x.f0, .int .i64 x.f1, .int .i64 x.f2, .string x.f3]] rfl (by (try simp only [List.map_toArray, List.map_cons, List.map_nil]); first | done | rfl) ?_; refine (prompterlaw11_uses.calls x.f0 x.f1 x.f2 x.f3 _ _ HU.out).mono ?_; rintro e w8 ⟨he, hd⟩; subst he; refine ⟨_, rfl, ?_⟩; have HBU := Aside0.mk (below_step HB7.out hd); have q08 := pw_cell_below hd q07; have q18 := pw_cell_below hd q17; have q28 := pw_cell_below hd q27; have q38 := pw_cell_below hd q37; have cl8 := pw_cell_below hd cl7; (try have cn8 := pw_cell_below HBU.out cn); clear hd)
                | fail)
              go_quiet (fail)
              have HBX := Aside0.mk (pw_below_drewN HBU.out nq)
              go_wp2_with (fail)
              go_roundg (ts.length - (i + 1))
              case measure => have := hi.out; omega
              case rel => exact ⟨i + 1, ns, some an, cm, rfl, rfl, ⟨by omega, rfl⟩, HB8, ⟨below_step HB.out HBX.out⟩, ⟨Kd.R_below HRl.out HBX.out⟩, ⟨Kd.R_below HRn.out HBX.out⟩⟩
            · rw [if_neg hg] at hb; cases hb
          · rw [if_neg hu] at hb
            have hu0 : uses x = false := by simpa using hu
            rw [hu0] at HU
            by_cases hg : y = -1
            · rw [if_pos hg] at hb
              subst hg
              have HB8 := Aside0.mk (show bnd (ts.drop (i + 1)) (l.drop (i + 1)) ns = some nf ∧ ns.length ≤ 100 from ⟨hb, hns⟩)
              clear hb hm hm0 hu hu0 hkey
              go_wp2_with (first
                | ((with_reducible refine gate_callee (f := 41) rfl ?_); refine goesL_ (some 56) rfl rfl Try.func41 (by kernel_rfl) rfl #[.agg #[.int .u8 x.f0, .int .i64 x.f1, .int .i64 x.f2, .string x.f3]] rfl (by (try simp only [List.map_toArray, List.map_cons, List.map_nil]); first | done | rfl) ?_; refine (prompterlaw11_makes.calls x.f0 x.f1 x.f2 x.f3 _ _ HM.out).mono ?_; rintro e w7 ⟨he, hd⟩; subst he; refine ⟨_, rfl, ?_⟩; have HB7 := Aside0.mk hd; have q07 := pw_cell_below hd q0; have q17 := pw_cell_below hd q1; have q27 := pw_cell_below hd q2; have q37 := pw_cell_below hd q3; have cl7 := pw_cell_below hd cl; clear hd)
                | ((with_reducible refine gate_callee (f := 42) rfl ?_); refine goesL_ (some 82) rfl rfl Try.func42 (by kernel_rfl) rfl #[.agg #[.int .u8 x.f0, .int .i64 x.f1, .int .i64 x.f2, .string x.f3]] rfl (by (try simp only [List.map_toArray, List.map_cons, List.map_nil]); first | done | rfl) ?_; refine (prompterlaw11_uses.calls x.f0 x.f1 x.f2 x.f3 _ _ HU.out).mono ?_; rintro e w8 ⟨he, hd⟩; subst he; refine ⟨_, rfl, ?_⟩; have HBU := Aside0.mk (below_step HB7.out hd); have q08 := pw_cell_below hd q07; have q18 := pw_cell_below hd q17; have q28 := pw_cell_below hd q27; have q38 := pw_cell_below hd q37; have cl8 := pw_cell_below hd cl7; (try have cn8 := pw_cell_below HBU.out cn); clear hd)
                | fail)
              go_roundg (ts.length - (i + 1))
              case measure => have := hi.out; omega
              case rel => exact ⟨i + 1, ns, Am, cm, rfl, rfl, ⟨by omega, rfl⟩, HB8, ⟨below_step HB.out HBU.out⟩, ⟨Kd.R_below HRl.out HBU.out⟩, ⟨Kd.R_below HRn.out HBU.out⟩⟩
            · rw [if_neg hg] at hb; cases hb
      · have a1 : decide ((i : Int) < (ts.length : Int)) = false := decide_eq_false (by omega)
        have a2 : decide (i < ts.length) = false := decide_eq_false hil
        go_wp2_with (first
          | ((with_reducible refine gate_callee (f := 37) rfl ?_); refine goesL_ (some 118) rfl rfl Try.func37 (by kernel_rfl) rfl #[] rfl (by (try simp only [List.map_toArray, List.map_cons, List.map_nil]); first | done | rfl) ?_; refine (wakes_c _).mono ?_; rintro e wz ⟨he, hd⟩; subst he; refine ⟨_, rfl, ?_⟩; have HBZ := Aside0.mk (below_step HB.out hd); clear hd)
          | fail)
        go_ret
        exact ⟨rfl, HBZ.out⟩
end Go.Proofs.Ytobgijpbfmpdaaa.Ck
