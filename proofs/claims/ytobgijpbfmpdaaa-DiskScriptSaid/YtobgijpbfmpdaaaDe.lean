/- A disk's methods: Names and Crash. -/
import Derived.Test.YtobgijpbfmpdaaaDd
set_option linter.unusedVariables false
set_option linter.unusedSimpArgs false
set_option maxRecDepth 100000
namespace Go.Proofs.Ytobgijpbfmpdaaa.Dk
open Go.RowKit Go.Proofs.YtobgijpbfmpdaaaW.PrintWords Go.Proofs.YtobgijpbfmpdaaaW.PrintLast Go.Proofs.YtobgijpbfmpdaaaW.PrintMore
open Go.Proofs.Ytobgijpbfmpdaaa.Fm Go.Proofs.Ytobgijpbfmpdaaa.Mp
set_option maxHeartbeats 4000000
def strs (ks : List Ky) : List ByteArray := ks.map fun l => ⟨l.toArray⟩
theorem strs_length (ks : List Ky) : (strs ks).length = ks.length := by simp [strs]
theorem F_strs {W : World} {base n : Nat} {v : Value} {ks : List Ky} {S : Nat → Prop} (h : W.ownsRow base 9 1 v n (ks.map encStr)) (hn : n = ks.length) (hS : ∀ k, base ≤ k → S k) :
    ∃ A c, v = .slice A (strs ks).length c ∧ (strs ks).length ≤ c ∧ Kd.F Kd.string W S A (strs ks).length (strs ks) := by
  obtain ⟨A, c, rfl⟩ := own_slice h
  have hl : n = (strs ks).length := by rw [hn, strs_length]
  subst hl
  have he : ks.map encStr = encs Value.string (strs ks) := by simp [strs, encs]
  rw [he] at h
  exact ⟨A, c, rfl, own_cap h, fun W' hW' => Kd.C_of_reads (d := ByteArray.empty) (h1 := fun _ => rfl) (own_reads_of' (own_move h (fun k hk => hW' k (hS k (own_base h k hk)) (own_lt h k hk))))⟩
theorem own_len {W : World} {b n : Nat} {m : List (Ky × Value)} (h : Own W b n m) : Own W b m.length m := by
  obtain ⟨es, clock, hb, F, hs, hD⟩ := h
  refine ⟨es, clock, hb, F, ?_, hD⟩
  unfold toD at hD
  injection hD with hD
  have := congrArg List.length hD
  rw [List.length_map, length_sorted, List.length_map] at this
  rw [this]
  exact Nat.le_of_eq Array.length_toList.symm
theorem Fs.len {W : World} {S : Nat → Prop} {vs : List (Ky × Value)} {cs : Fls} (h : Fs W S vs cs) : vs.length = cs.length := by
  induction h with
  | nil => rfl
  | cons _ _ ih => simp [ih]
theorem Fs.keys {W : World} {S : Nat → Prop} {vs : List (Ky × Value)} {cs : Fls} (h : Fs W S vs cs) : vs.map (·.1) = cs.map (·.1) := by
  induction h with
  | nil => rfl
  | cons _ _ ih => simp [ih]
theorem Fs.ris {W : World} {S : Nat → Prop} {vs : List (Ky × Value)} {cs : Fls} (h : Fs W S vs cs) (hr : Ris cs) : Ris vs := by
  have hk := h.keys
  have h1 : (cs.map (·.1)).Pairwise (fun a b => bytesBefore a b = true) := List.pairwise_map.2 hr
  rw [← hk] at h1
  exact List.pairwise_map.1 h1
/-- The bound of a disk's map is the number of its files. -/
theorem Dsk.tight {W : World} {g b n : Nat} {off : Bool} {fuse : Int} {F : Fls} {S : Nat → Prop} (h : Dsk W g b n off fuse F S) : Dsk W g b F.length off fuse F S := by
  obtain ⟨vs, h1, h2⟩ := h.hm
  exact ⟨h.hg, ⟨vs, by rw [← h2.len]; exact own_len h1, h2⟩, h.hS⟩
/-- The call of slices.Sorted(maps.Keys(m)). -/
theorem sorted_dsk (g b n : Nat) (off : Bool) (fuse : Int) (F : List (Ky × Cont)) (S : Nat → Prop) (W : World) (D : Dsk W g b n off fuse F S) (hr : Ris F) (hl : F.length ≤ 1000000) : Calls Try.prog 123 #[.func (.func 172) #[] #[.pointer (some ⟨W.heap.size, 0, none⟩)]] (W.alloc (.cells #[.map (some b)] 108)) fun e W' =>
    ∃ A c, e = .returned (.slice A (strs (F.map (·.1))).length c) ∧ (strs (F.map (·.1))).length ≤ c ∧ Kd.F Kd.string W' (fun k => W.heap.size ≤ k) A (strs (F.map (·.1))).length (strs (F.map (·.1))) ∧ Below W.heap.size W W' := by
  obtain ⟨vs, hO, hF⟩ := D.hm
  refine (Sk.sorted b n vs W hO (hF.ris hr) (by rw [hF.len]; exact hl)).mono ?_
  rintro e W' ⟨v, rfl, hrow, _, hb⟩
  rw [hF.keys] at hrow
  obtain ⟨A, c, rfl, hc, hFF⟩ := F_strs (S := fun k => W.heap.size ≤ k) hrow rfl (fun k hk => by omega)
  exact ⟨A, c, rfl, hc, hFF, hb⟩
theorem names_dsk (g b n : Nat) (off : Bool) (fuse : Int) (F : List (Ky × Cont)) (S : Nat → Prop) (W : World) (D : Dsk W g b n off fuse F S) (hr : Ris F) (hl : F.length ≤ 1000000) : Calls Try.prog 71 #[.pointer (some ⟨g, 0, none⟩)] W fun e W' =>
    ∃ A c, e = .returned (.tuple #[.slice A (if off then 0 else (strs (F.map (·.1))).length) c, .int .i64 (if off then 250 else 0)]) ∧ (off = false → (strs (F.map (·.1))).length ≤ c ∧ Kd.F Kd.string W' (fun k => W.heap.size ≤ k) A (strs (F.map (·.1))).length (strs (F.map (·.1)))) ∧ Below W.heap.size W W' := by
  have c0 : W.cell? ⟨g, 0, none⟩ = some (.map (some b)) := by rw [blk_cell D.hg]; rfl
  have HD := Aside0.mk D
  clear D
  cases off
  · go_enter Try.func71, Try.ntmps71
    go_wp2_with (first
      | ((with_reducible refine gate_callee (f := 116) rfl ?_); refine goesL_ (some 6) rfl rfl Try.func116 (by kernel_rfl) rfl #[.pointer (some ⟨g, 0, none⟩)] rfl (by (try simp only [List.map_toArray, List.map_cons, List.map_nil]); first | done | rfl) ?_; refine (goes_dsk _ _ _ _ _ _ _ _ HD.out).mono ?_; rintro e w' ⟨rfl, hw⟩; have hw := hw.symm; subst hw; refine ⟨_, rfl, ?_⟩)
      | ((with_reducible refine gate_callee (f := 124) rfl ?_); refine goesL_ (some 14) rfl rfl Try.func124 (by kernel_rfl) rfl #[.map (some b)] rfl (by (try simp only [List.map_toArray, List.map_cons, List.map_nil]); first | done | rfl) ?_; refine (Sk.keys (some b) _).mono ?_; rintro e w2 ⟨rfl, hw2⟩; refine ⟨_, rfl, ?_⟩; subst hw2)
      | ((with_reducible refine gate_callee (f := 123) rfl ?_); refine goesL_ (some 15) rfl rfl Try.func123 (by kernel_rfl) rfl #[.func (.func 172) #[] #[.pointer (some ⟨W.heap.size, 0, none⟩)]] rfl (by (try simp only [List.map_toArray, List.map_cons, List.map_nil]); first | done | rfl) ?_; refine (sorted_dsk _ _ _ _ _ _ _ _ HD.out hr hl).mono ?_; rintro e w3 ⟨An, cn, rfl, hcn, hFn, hb⟩; refine ⟨_, rfl, ?_⟩; have Hcn := Aside0.mk hcn; have HFn := Aside0.mk hFn; have Hb3 := Aside0.mk hb; clear hcn hFn hb))
    go_ret2
    exact ⟨An, cn, rfl, ⟨Hcn.out, HFn.out⟩, Hb3.out⟩
  · go_enter Try.func71, Try.ntmps71
    go_wp2_with (first
      | ((with_reducible refine gate_callee (f := 116) rfl ?_); refine goesL_ (some 6) rfl rfl Try.func116 (by kernel_rfl) rfl #[.pointer (some ⟨g, 0, none⟩)] rfl (by (try simp only [List.map_toArray, List.map_cons, List.map_nil]); first | done | rfl) ?_; refine (goes_dsk _ _ _ _ _ _ _ _ HD.out).mono ?_; rintro e w' ⟨rfl, hw⟩; have hw := hw.symm; subst hw; refine ⟨_, rfl, ?_⟩)
      | fail)
    go_ret2
    exact ⟨⟨none, 0, rfl⟩, Below.refl _ _⟩
/-- A crash, file by file: what has gone by, and how many lost bytes. -/
def keptN (keep : List Int) (i : Nat) (c : Cont) : Nat := if (i : Int) < keep.length then (max 0 (min (rd keep i) ((c.1.length - c.2 : Nat) : Int))).toNat else 0
def crStep (keep : List Int) (a : Fls × Nat) (p : Ky × Cont) : Fls × Nat :=
  if p.2.2 = p.2.1.length then (a.1 ++ [p], a.2) else (a.1 ++ [(p.1, (p.2.1.take (p.2.2 + keptN keep a.2 p.2), p.2.2 + keptN keep a.2 p.2))], a.2 + 1)
def crS (keep : List Int) (F : Fls) : Fls × Nat := F.foldl (crStep keep) ([], 0)
theorem crS_snoc (keep : List Int) (F : Fls) (p : Ky × Cont) : crS keep (F ++ [p]) = crStep keep (crS keep F) p := by unfold crS; rw [List.foldl_append]; rfl
theorem crS_keys (keep : List Int) : ∀ F : Fls, (crS keep F).1.map (·.1) = F.map (·.1) ∧ (crS keep F).2 ≤ F.length := by
  have h : ∀ (F : Fls) (a : Fls × Nat), (F.foldl (crStep keep) a).1.map (·.1) = a.1.map (·.1) ++ F.map (·.1) ∧ (F.foldl (crStep keep) a).2 ≤ a.2 + F.length := by
    intro F
    induction F with
    | nil => intro a; simp
    | cons p r ih =>
      intro a
      rw [List.foldl_cons]
      obtain ⟨h1, h2⟩ := ih (crStep keep a p)
      rw [h1]
      unfold crStep at h2 ⊢
      split at h2 <;> split <;> first | contradiction | skip
      all_goals
        simp only [List.map_append, List.map_cons, List.map_nil, List.append_assoc, List.cons_append, List.nil_append, List.length_cons] at h2 ⊢
        exact ⟨trivial, by omega⟩
  intro F
  have := h F ([], 0)
  unfold crS
  simpa using this
def crashF (keep : List Int) (F : Fls) : Fls := (crS keep F).1
theorem put_mid {α : Type} (a : List (Ky × α)) (k : Ky) (c c' : α) (r : List (Ky × α)) (hr : Ris (a ++ (k, c) :: r)) : put (a ++ (k, c) :: r) k c' = a ++ (k, c') :: r := by
  obtain ⟨h1, h2, h3⟩ := List.pairwise_append.1 hr
  obtain ⟨h4, h5⟩ := List.pairwise_cons.1 h2
  have hd : Mp.del (a ++ (k, c) :: r) k = a ++ r := by
    unfold Mp.del
    rw [List.filter_append, List.filter_cons]
    have e1 : a.filter (fun p => !(p.1 == k)) = a := List.filter_eq_self.2 (fun p hp => by
      have := bb_ne (h3 p hp (k, c) (by simp))
      simpa using this)
    have e2 : r.filter (fun p => !(p.1 == k)) = r := List.filter_eq_self.2 (fun p hp => by
      have := bb_ne (h4 p hp)
      simpa using Ne.symm this)
    rw [e1, e2]
    simp
  unfold put
  rw [hd]
  clear hd hr h1 h2
  induction a with
  | nil =>
    cases r with
    | nil => rfl
    | cons y r =>
      show ins (k, c') (y :: r) = _
      unfold ins
      rw [if_pos (h4 y (by simp))]
      rfl
  | cons x a ih =>
    show ins (k, c') (x :: (a ++ r)) = _
    unfold ins
    have hx := h3 x (by simp) (k, c) (by simp)
    rw [if_neg (by simp [bb_asymm hx])]
    rw [ih (fun p hp q hq => h3 p (List.mem_cons_of_mem _ hp) q hq)]
    rfl
theorem get_mid {α : Type} (a : List (Ky × α)) (k : Ky) (c : α) (r : List (Ky × α)) (hr : Ris (a ++ (k, c) :: r)) : Mp.get (a ++ (k, c) :: r) k = some c := get_mem hr (p := (k, c)) (by simp)
theorem ris_keys {α β : Type} {m : List (Ky × α)} {m' : List (Ky × β)} (h : Ris m) (hk : m'.map (·.1) = m.map (·.1)) : Ris m' := by
  have h1 : (m.map (·.1)).Pairwise (fun a b => bytesBefore a b = true) := List.pairwise_map.2 h
  rw [← hk] at h1
  exact List.pairwise_map.1 h1
theorem crash_dsk (g b n : Nat) (off : Bool) (fuse : Int) (F : List (Ky × Cont)) (S : Nat → Prop) (A0 : Option Addr) (c0_ : Nat) (keep : List Int) (W : World) (D : Dsk W g b n off fuse F S) (hr : Ris F) (hl : F.length ≤ 1000) (hc : ∀ p ∈ F, p.2.2 ≤ p.2.1.length ∧ p.2.1.length ≤ 1000000 ∧ p.1.length ≤ 1000000)
    (hS : ∀ k, W.heap.size ≤ k → S k) (hK : Kd.F (Kd.int .i64) W (fun k => k ≠ g ∧ k ≠ b) A0 keep.length keep) :
    Calls Try.prog 64 #[.pointer (some ⟨g, 0, none⟩), .slice A0 keep.length c0_] W fun e W' => e = .returned (.int .i64 0) ∧ Dsk W' g b F.length false (-1) (crashF keep F) S ∧ Kb (fun k => k = g ∨ k = b) W W' := by
  have c0 : W.cell? ⟨g, 0, none⟩ = some (.map (some b)) := by rw [blk_cell D.hg]; rfl
  have HD := Aside0.mk D
  have HK := Aside0.mk hK
  have Hc := Aside0.mk hc
  have HS := Aside0.mk hS
  have hkl : keep.length ≤ 9223372036854775807 := (Kd.F_max hK)
  clear D hK hc hS
  go_enter Try.func64, Try.ntmps64
  go_wp2_with (first
    | ((with_reducible refine gate_callee (f := 122) rfl ?_); refine goesL_ (some 11) rfl rfl Try.func122 (by kernel_rfl) rfl #[.pointer (some ⟨g, 0, none⟩)] rfl (by (try simp only [List.map_toArray, List.map_cons, List.map_nil]); first | done | rfl) ?_; refine (made_dsk _ _ _ _ _ _ _ _ HD.out).mono ?_; rintro e w' ⟨rfl, hw⟩; have hw := hw.symm; subst hw; refine ⟨_, rfl, ?_⟩)
    | ((with_reducible refine gate_callee (f := 124) rfl ?_); refine goesL_ (some 17) rfl rfl Try.func124 (by kernel_rfl) rfl #[.map (some b)] rfl (by (try simp only [List.map_toArray, List.map_cons, List.map_nil]); first | done | rfl) ?_; refine (Sk.keys (some b) _).mono ?_; rintro e w2 ⟨rfl, hw2⟩; refine ⟨_, rfl, ?_⟩; subst hw2)
    | ((with_reducible refine gate_callee (f := 123) rfl ?_); refine goesL_ (some 18) rfl rfl Try.func123 (by kernel_rfl) rfl #[.func (.func 172) #[] #[.pointer (some ⟨W.heap.size, 0, none⟩)]] rfl (by (try simp only [List.map_toArray, List.map_cons, List.map_nil]); first | done | rfl) ?_; refine (sorted_dsk _ _ _ _ _ _ _ _ HD.out hr (by omega)).mono ?_; rintro e w3 ⟨An, cn, rfl, hcn, hFn, hb⟩; refine ⟨_, rfl, ?_⟩; have Hcn := Aside0.mk hcn; have HFn := Aside0.mk hFn; have Hb3 := Aside0.mk hb; clear hcn hFn hb))
  have hsl : (strs (F.map (·.1))).length = F.length := by rw [strs_length, List.length_map]
  have Hsl := Aside0.mk hsl
  clear hsl
  go_loopg [5, 20] F.length (fun kk v5 v20 wr => ∃ (j i : Nat), v5 = .int .i64 i ∧ v20 = .int .i64 j ∧ Aside0 (j ≤ F.length ∧ kk = F.length - j ∧ i = (crS keep (F.take j)).2) ∧
    Aside0 (Dsk wr g b F.length off fuse ((crS keep (F.take j)).1 ++ F.drop j) S ∧ Kb (fun k => k = b) w3 wr))
  case atStart => exact ⟨0, 0, rfl, rfl, ⟨Nat.zero_le _, rfl, rfl⟩, ⟨(HD.out.below Hb3.out).tight, Kb.refl _ _⟩⟩
  case round =>
    obtain ⟨j, i, rfl, rfl, hj, HI⟩ := hrel
    by_cases hlt : j < F.length
    · have hltb : decide ((j : Int) < (F.length : Int)) = true := decide_eq_true (by omega)
      have hltb2 : decide (j < (strs (F.map (·.1))).length) = true := by rw [Hsl.out]; exact decide_eq_true hlt
      have hltb3 : (j : Int) < ((strs (F.map (·.1))).length : Int) := by rw [Hsl.out]; omega
      have hltb4 : j < (strs (F.map (·.1))).length := by rw [Hsl.out]; exact hlt
      obtain ⟨wo, hwo⟩ : ∃ wo : World, wo = wr := ⟨_, rfl⟩
      subst hwo
      obtain ⟨kc, hkc⟩ : ∃ kc, kc = F[j] := ⟨_, rfl⟩
      have hdrop : F.drop j = kc :: F.drop (j + 1) := by rw [hkc]; exact List.drop_eq_getElem_cons hlt
      have htake : F.take (j + 1) = F.take j ++ [kc] := by rw [hkc]; exact List.take_succ_eq_append_getElem hlt
      have hcc := Hc.out kc (by rw [hkc]; exact List.getElem_mem hlt)
      have hnm : (strs (F.map (·.1))).getD j ByteArray.empty = ⟨kc.1.toArray⟩ := by
        unfold strs
        rw [List.getD_eq_getElem?_getD, List.getElem?_map, List.getElem?_map, List.getElem?_eq_getElem hlt, hkc]; rfl
      obtain ⟨k, xs, last⟩ := kc
      dsimp only at hcc hnm
      obtain ⟨s, hs0⟩ : ∃ s : ByteArray, s = ⟨k.toArray⟩ := ⟨_, rfl⟩
      have hsk : s.data.toList = k := by rw [hs0]
      have hs : s.size ≤ maxLen := by rw [hs0]; show k.toArray.size ≤ maxLen; unfold maxLen; simp; omega
      rw [← hs0] at hnm
      have hFr : Kd.C Kd.string wo An (strs (F.map (·.1))).length (strs (F.map (·.1))) := Kd.F_now (Kd.F_step HFn.out (fun q hq hlt => HI.out.2.block q hlt (by have := HD.out.blt; omega)))
      obtain ⟨ad, csn, eA, _, hKn, hcelln⟩ := Kd.C_get hFr ByteArray.empty (j : Int) (by omega) (by rw [Hsl.out]; omega)
      rw [Int.toNat_natCast] at hKn hcelln
      rw [hnm] at hKn
      subst eA
      have hKn' : csn = [.string s] := hKn
      subst hKn'
      have cN := hcelln 0 _ rfl
      rw [show Kd.string.sz = 1 from rfl, Nat.mul_one, Nat.add_zero] at cN
      have hDj := HI.out.1
      rw [hdrop] at hDj
      have hkeys : ((crS keep (F.take j)).1 ++ (k, xs, last) :: F.drop (j + 1)).map (·.1) = F.map (·.1) := by
        rw [List.map_append, (crS_keys keep (F.take j)).1, ← hdrop, ← List.map_append, List.take_append_drop]
      have hrj : Ris ((crS keep (F.take j)).1 ++ (k, xs, last) :: F.drop (j + 1)) := ris_keys hr hkeys
      have hgj := get_mid _ k (xs, last) _ hrj
      have c0w : wo.cell? ⟨g, 0, none⟩ = some (.map (some b)) := by rw [blk_cell hDj.hg]; rfl
      obtain ⟨vs, hO, hF⟩ := hDj.hm
      obtain ⟨⟨Af, cf, hv, hcf, hFf⟩, _⟩ := hF.get s.data.toList
      rw [hsk, hgj] at hv hcf hFf
      dsimp only [Option.getD_some] at hv hcf hFf
      rw [← hsk] at hv
      have Hvl : Aside0 (vs.length < maxLen) := ⟨by
        have h3 := hF.len
        have h4 := congrArg List.length hkeys
        rw [List.length_map, List.length_map] at h4
        have h5 : vs.length ≤ 1000 := by rw [h3, h4]; exact hl
        exact Nat.lt_of_le_of_lt h5 (by decide)⟩
      have HO := Aside0.mk hO
      have HF := Aside0.mk hF
      have Hv := Aside0.mk hv
      have HFf := Aside0.mk hFf
      have Hcf := Aside0.mk hcf
      have Hcc := Aside0.mk hcc
      have Hsk := Aside0.mk hsk
      have Hrj := Aside0.mk hrj
      have Hkeys := Aside0.mk hkeys
      have Hdrop := Aside0.mk hdrop
      have Htake := Aside0.mk htake
      have HDj := Aside0.mk hDj
      have hil : i ≤ 1000 := by have h1 := hj.out; have h2 := (crS_keys keep (F.take j)).2; have h3 := List.length_take_le j F; omega
      have Hil := Aside0.mk hil
      clear hdrop htake hcc hnm hs0 hsk hFr hKn hcelln hDj hkeys hrj hgj hO hF hv hcf hFf hkc hil
      by_cases hfull : last = xs.length
      · subst hfull
        go_wp2_with (first
          | ((with_reducible refine gate_dst (N := 29) rfl ?_); refine at_get rfl (.tmp 27) (.tmp 28) 108 175 noFile rfl Try.underlying108 zfile rfl HO.out s rfl hs ?_; have Z := Hv.out; rw [Z]; clear Z))
        go_roundg (F.length - (j + 1))
        case measure => have := hj.out; omega
        case rel =>
          have hst : crS keep (F.take (j + 1)) = ((crS keep (F.take j)).1 ++ [(k, xs, xs.length)], (crS keep (F.take j)).2) := by rw [Htake.out, crS_snoc]; unfold crStep; simp
          have hba : Below wo.heap.size wo (wo.alloc (.cells #[.slice Af xs.length cf, .int .i64 xs.length] 175)) := below_alloc (Below.refl _ _) _
          refine ⟨j + 1, i, rfl, by simp, ⟨by omega, rfl, by rw [hst]; exact hj.out.2.2⟩, ⟨?_, HI.out.2.trans (Kb.of_below _ hba)⟩⟩
          rw [hst, List.append_assoc]
          exact HDj.out.below hba
      · have hfb1 : ((last : Int) == (xs.length : Int)) = false := by simpa using (by omega : ¬ (last : Int) = xs.length)
        have hfb2 : (last == xs.length) = false := by simpa using hfull
        have hsub : IntKind.i64.wrap ((xs.length : Int) - (last : Int)) = ((xs.length - last : Nat) : Int) := by have := Hcc.out; rw [IntWalk.i64_in _ ⟨by omega, by omega⟩]; omega
        obtain ⟨nn, hnn⟩ : ∃ nn, nn = keptN keep i (xs, last) := ⟨_, rfl⟩
        have hnl : last + nn ≤ xs.length := by
          rw [hnn]; unfold keptN
          have := Hcc.out
          split
          · simp only []; omega
          · omega
        obtain ⟨N, hN⟩ : ∃ N, N = last + nn := ⟨_, rfl⟩
        rw [← hN] at hnl
        have hadd : IntKind.i64.wrap ((last : Int) + (nn : Int)) = (N : Int) := by have := Hcc.out; rw [IntWalk.i64_in _ ⟨by omega, by omega⟩]; omega
        obtain ⟨m, hm, hcut, hCm, hmc, hml⟩ := Mine.cut_take Af cf xs (N : Int) (by omega) (by omega) Hcf.out
        rw [Int.toNat_natCast] at hm hml
        rw [hml] at hcut
        have hFm := Kd.F_imp (d' := Kd.int .u8) HFf.out (fun W' h => hCm W' h)
        rw [hml] at hFm
        have HFm := Aside0.mk hFm
        have HN := Aside0.mk hN
        have Hm := Aside0.mk hm
        have Hml := Aside0.mk hml
        have Hmc := Aside0.mk hmc
        clear hmc
        have Hnn := Aside0.mk hnn
        have Hnl := Aside0.mk hnl
        have hff : ¬ last = xs.length := hfull
        have Hfull := Aside0.mk hff
        clear hm hml hnn hnl hff hFm hCm hN
        by_cases hik : i < keep.length
        · have hik1 : decide ((i : Int) < (keep.length : Int)) = true := decide_eq_true (by omega)
          have hik2 : decide (i < keep.length) = true := decide_eq_true hik
          have hik3 : (i : Int) < (keep.length : Int) := by omega
          have hmm : max 0 (min (rd keep (i : Int)) ((xs.length - last : Nat) : Int)) = (nn : Int) := by
            rw [Hnn.out]; unfold keptN; rw [if_pos hik3]; simp only []; omega
          obtain ⟨ak, hAk, hck⟩ := Kd.at_int (Kd.F_now (Kd.F_step (Kd.F_below HK.out Hb3.out) (fun q hq hlt => HI.out.2.block q hlt hq.2))) (i : Int) (by omega) hik3
          subst hAk
          rw [Int.toNat_natCast] at hck
          have hckl := World.block_lt_of_cell? _ _ hck
          have hck2 : (wo.alloc (.cells #[.slice Af xs.length cf, .int .i64 last] 175)).cell? (ak.add i) = some (.int .i64 (rd keep (i : Int))) := pw_cell_below (below_alloc (Below.refl _ _) _) hck
          go_wp2_with (first
            | ((with_reducible refine gate_dst (N := 29) rfl ?_); refine at_get rfl (.tmp 27) (.tmp 28) 108 175 noFile rfl Try.underlying108 zfile rfl HO.out s rfl hs ?_; have Z := Hv.out; rw [Z]; clear Z)
            | go_quiet (fail))
          obtain ⟨q, hq⟩ : ∃ q, q = wo.heap.size := ⟨_, rfl⟩
          rw [← hq]
          obtain ⟨w5, hw5⟩ : ∃ w5, w5 = ((((wo.alloc (.cells #[.slice Af xs.length cf, .int .i64 last] 175)).drewN nq).setCell ⟨q, 1, none⟩ (.int .i64 N)).setCell ⟨q, 0, none⟩ (.slice Af N cf)) := ⟨_, rfl⟩
          rw [← hw5]
          have hq5 : w5.heap[q]? = some (.cells #[.slice Af N cf, .int .i64 N] 175 (0, 0)) := by
            have hq0 : (wo.alloc (.cells #[.slice Af xs.length cf, .int .i64 last] 175)).heap[q]? = some (.cells #[.slice Af xs.length cf, .int .i64 last] 175 (0, 0)) := by rw [hq]; exact blk_new wo _
            rw [hw5]; exact blk_put (blk_put hq0 1 _ rfl) 0 _ rfl
          have hB5 : Below wo.heap.size wo w5 := by rw [hw5]; exact ((pw_below_drewN (below_alloc (Below.refl _ _) _) _).setCell (p := ⟨q, 1, none⟩) (by rw [hq]; exact Nat.le_refl _) _).setCell (p := ⟨q, 0, none⟩) (by rw [hq]; exact Nat.le_refl _) _
          have hB5d := below_drew hB5
          obtain ⟨w6, hrun6, hO6, hk6⟩ := put_run 108 175 Try.underlying108 (own_len (HO.out.kb (Kb.of_below (fun _ => False) hB5d) id)) Hvl.out s hs (.agg #[.slice Af N cf, .int .i64 N])
          have k1 : w5.drew.cell? ⟨g, 0, none⟩ = some (.map (some b)) := pw_cell_below hB5d c0w
          have k2 : w5.drew.cell? ⟨q, 0, none⟩ = some (.slice Af N cf) := by rw [show w5.drew.cell? ⟨q, 0, none⟩ = w5.cell? ⟨q, 0, none⟩ from rfl, blk_cell hq5]; rfl
          have k3 : w5.drew.cell? ⟨q, 1, none⟩ = some (.int .i64 N) := by rw [show w5.drew.cell? ⟨q, 1, none⟩ = w5.cell? ⟨q, 1, none⟩ from rfl, blk_cell hq5]; rfl
          clear hw5 hq hq5 hadd hsub hcut
          try clear hmm
          try clear hwN hwi
          refine start_ (n := 7) (S := fun w' => w'.cell? ⟨g, 0, none⟩ = some (.map (some b)) ∧ w'.cell? ⟨q, 0, none⟩ = some (.slice Af N cf) ∧ w'.cell? ⟨q, 1, none⟩ = some (.int .i64 N)) (ds := [6]) #[false, false, false, false, false, false, false] (by kernel_rfl) rfl rfl ⟨k1, k2, k3⟩ (fun hHeld => ?_)
          refine pure_ (i := 0) (N := some 65) (v := ?_) (a' := ?_) #[true, false, false, false, false, false, false] rfl rfl (by kernel_rfl) (fun _ _ _ h => h) (Or.inl ⟨by rfl, ?_⟩) ?_ ?_
          rotate_left
          · intro w'
            go_simp
            with_reducible rfl
          rotate_left
          · simp only [Act.put, List.setIfInBounds_toArray, List.set_cons_zero, List.set_cons_succ, i64_w, i32_w]
            rfl
          refine pure_ (i := 1) (N := some 66) (v := ?_) (a' := ?_) #[true, true, false, false, false, false, false] rfl rfl (by kernel_rfl) (fun _ _ _ h => h) (Or.inl ⟨by rfl, ?_⟩) ?_ ?_
          rotate_left
          · intro w'
            go_simp
            with_reducible rfl
          rotate_left
          · simp only [Act.put, List.setIfInBounds_toArray, List.set_cons_zero, List.set_cons_succ, i64_w, i32_w]
            rfl
          refine pure_ (i := 2) (N := some 67) (v := ?_) (a' := ?_) #[true, true, true, false, false, false, false] rfl rfl (by kernel_rfl) (fun _ _ _ h => h) (Or.inl ⟨by rfl, ?_⟩) ?_ ?_
          rotate_left
          · intro w'
            go_simp
            with_reducible rfl
          rotate_left
          · simp only [Act.put, List.setIfInBounds_toArray, List.set_cons_zero, List.set_cons_succ, i64_w, i32_w]
            rfl
          refine take_ (i := 3) (N := some 68) (v := ?_) (a' := ?_) #[true, true, true, true, false, false, false] rfl rfl (by kernel_rfl) (fun _ _ _ h => h) (Or.inl ⟨by rfl, ?_⟩) hHeld ?_ ?_
          rotate_left
          · intro w' hS_
            obtain ⟨s0_, s1_, s2_⟩ := hS_
            go_simp
            with_reducible rfl
          rotate_left
          · simp only [Act.put, List.setIfInBounds_toArray, List.set_cons_zero, List.set_cons_succ, i64_w, i32_w]
            rfl
          refine pure_ (i := 4) (N := some 69) (v := ?_) (a' := ?_) #[true, true, true, true, true, false, false] rfl rfl (by kernel_rfl) (fun _ _ _ h => h) (Or.inl ⟨by rfl, ?_⟩) ?_ ?_
          rotate_left
          · intro w'
            go_simp
            with_reducible rfl
          rotate_left
          · simp only [Act.put, List.setIfInBounds_toArray, List.set_cons_zero, List.set_cons_succ, i64_w, i32_w]
            rfl
          refine take_ (i := 5) (N := some 70) (v := ?_) (a' := ?_) #[true, true, true, true, true, true, false] rfl rfl (by kernel_rfl) (fun _ _ _ h => h) (Or.inl ⟨by rfl, ?_⟩) hHeld ?_ ?_
          rotate_left
          · intro w' hS_
            obtain ⟨s0_, s1_, s2_⟩ := hS_
            go_simp
            with_reducible rfl
          rotate_left
          · simp only [Act.put, List.setIfInBounds_toArray, List.set_cons_zero, List.set_cons_succ, i64_w, i32_w]
            rfl
          refine last_ (i := 6) (N := none) #[true, true, true, true, true, true, true] rfl rfl (by kernel_rfl) (by decide) (fun K hK => ?_)
          refine put_step (by rfl) rfl (.tmp 68) (.tmp 69) (.tmp 70) 108 rfl rfl rfl rfl hrun6 ?_
          refine hK.out _ _ ?_
          clear hK K
          refine done_ (by kernel_rfl) ?_
          go_wp2
          go_roundg (F.length - (j + 1))
          case measure => have := hj.out; omega
          case rel =>
            have hkT : Kb (fun k => k = b) wo w6 := (Kb.of_below _ hB5d).trans hk6
            have hst : crS keep (F.take (j + 1)) = ((crS keep (F.take j)).1 ++ [(k, m, N)], (crS keep (F.take j)).2 + 1) := by
              rw [Htake.out, crS_snoc]; unfold crStep
              rw [if_neg Hfull.out]
              have hk : keptN keep (crS keep (F.take j)).2 (xs, last) = nn := by rw [← hj.out.2.2]; exact Hnn.out.symm
              have hN := HN.out.symm
              simp only [hk, hN, Hm.out]
            have hD := HDj.out
            refine ⟨j + 1, i + 1, by simp, by simp, ⟨by omega, rfl, by rw [hst]; simp only []; rw [hj.out.2.2]⟩, ⟨?_, HI.out.2.trans hkT⟩⟩
            rw [hst, List.append_assoc]
            have hmid := put_mid _ k (xs, last) (m, N) _ Hrj.out
            have hF6 := (HF.out.imp fun v c hv => hv.step fun k hS hlt => hkT.block k hlt (hD.hS k hS).2).put s.data.toList (v := .agg #[.slice Af N cf, .int .i64 N]) (c := (m, N)) ⟨Af, cf, by rw [Hml.out], by rw [Hml.out]; exact Nat.le_trans (by rw [← Hml.out]; exact Hmc.out) (Nat.le_refl _), by rw [Hml.out]; exact Kd.F_step HFm.out (fun k hS hlt => hkT.block k hlt (hD.hS k hS).2)⟩
            rw [Hsk.out, hmid] at hF6
            rw [Hsk.out] at hO6
            have hfin : Dsk w6 g b _ off fuse ((crS keep (F.take j)).1 ++ ([(k, m, N)] ++ F.drop (j + 1))) S := ⟨hkT.blk hD.hg hD.gb, ⟨_, hO6, hF6⟩, hD.hS⟩
            have h8 := hfin.tight
            have h9 : ((crS keep (F.take j)).1 ++ ([(k, m, N)] ++ F.drop (j + 1))).length = F.length := by
              have h4 := congrArg List.length Hkeys.out
              simpa using h4
            rw [h9] at h8
            exact h8
        · have hik1 : decide ((i : Int) < (keep.length : Int)) = false := decide_eq_false (by omega)
          have hik2 : decide (i < keep.length) = false := decide_eq_false hik
          have hN0 : N = last := by rw [HN.out, Hnn.out]; unfold keptN; rw [if_neg (by omega)]; rfl
          subst hN0
          have hwN : wrap64 (N : Int) = (N : Int) := by have := Hcc.out; rw [Mine.wrap64_in (by omega) (by omega)]
          have hwi : wrap64 ((i : Int) + 1) = ((i + 1 : Nat) : Int) := by have := Hil.out; rw [Mine.wrap64_in (by omega) (by omega)]; simp
          go_wp2_with (first
            | ((with_reducible refine gate_dst (N := 29) rfl ?_); refine at_get rfl (.tmp 27) (.tmp 28) 108 175 noFile rfl Try.underlying108 zfile rfl HO.out s rfl hs ?_; have Z := Hv.out; rw [Z]; clear Z)
            | fail)
          obtain ⟨q, hq⟩ : ∃ q, q = wo.heap.size := ⟨_, rfl⟩
          rw [← hq]
          obtain ⟨w5, hw5⟩ : ∃ w5, w5 = (wo.alloc (.cells #[.slice Af N cf, .int .i64 N] 175)) := ⟨_, rfl⟩
          rw [← hw5]
          have hq5 : w5.heap[q]? = some (.cells #[.slice Af N cf, .int .i64 N] 175 (0, 0)) := by rw [hw5, hq]; exact blk_new wo _
          have hB5 : Below wo.heap.size wo w5 := by rw [hw5]; exact below_alloc (Below.refl _ _) _
          have hB5d := below_drew hB5
          obtain ⟨w6, hrun6, hO6, hk6⟩ := put_run 108 175 Try.underlying108 (own_len (HO.out.kb (Kb.of_below (fun _ => False) hB5d) id)) Hvl.out s hs (.agg #[.slice Af N cf, .int .i64 N])
          have k1 : w5.drew.cell? ⟨g, 0, none⟩ = some (.map (some b)) := pw_cell_below hB5d c0w
          have k2 : w5.drew.cell? ⟨q, 0, none⟩ = some (.slice Af N cf) := by rw [show w5.drew.cell? ⟨q, 0, none⟩ = w5.cell? ⟨q, 0, none⟩ from rfl, blk_cell hq5]; rfl
          have k3 : w5.drew.cell? ⟨q, 1, none⟩ = some (.int .i64 N) := by rw [show w5.drew.cell? ⟨q, 1, none⟩ = w5.cell? ⟨q, 1, none⟩ from rfl, blk_cell hq5]; rfl
          clear hw5 hq hq5 hadd hsub hcut
          try clear hmm
          try clear hwN hwi
          refine start_ (n := 7) (S := fun w' => w'.cell? ⟨g, 0, none⟩ = some (.map (some b)) ∧ w'.cell? ⟨q, 0, none⟩ = some (.slice Af N cf) ∧ w'.cell? ⟨q, 1, none⟩ = some (.int .i64 N)) (ds := [6]) #[false, false, false, false, false, false, false] (by kernel_rfl) rfl rfl ⟨k1, k2, k3⟩ (fun hHeld => ?_)
          refine pure_ (i := 0) (N := some 65) (v := ?_) (a' := ?_) #[true, false, false, false, false, false, false] rfl rfl (by kernel_rfl) (fun _ _ _ h => h) (Or.inl ⟨by rfl, ?_⟩) ?_ ?_
          rotate_left
          · intro w'
            go_simp
            with_reducible rfl
          rotate_left
          · simp only [Act.put, List.setIfInBounds_toArray, List.set_cons_zero, List.set_cons_succ, i64_w, i32_w]
            rfl
          refine pure_ (i := 1) (N := some 66) (v := ?_) (a' := ?_) #[true, true, false, false, false, false, false] rfl rfl (by kernel_rfl) (fun _ _ _ h => h) (Or.inl ⟨by rfl, ?_⟩) ?_ ?_
          rotate_left
          · intro w'
            go_simp
            with_reducible rfl
          rotate_left
          · simp only [Act.put, List.setIfInBounds_toArray, List.set_cons_zero, List.set_cons_succ, i64_w, i32_w]
            rfl
          refine pure_ (i := 2) (N := some 67) (v := ?_) (a' := ?_) #[true, true, true, false, false, false, false] rfl rfl (by kernel_rfl) (fun _ _ _ h => h) (Or.inl ⟨by rfl, ?_⟩) ?_ ?_
          rotate_left
          · intro w'
            go_simp
            with_reducible rfl
          rotate_left
          · simp only [Act.put, List.setIfInBounds_toArray, List.set_cons_zero, List.set_cons_succ, i64_w, i32_w]
            rfl
          refine take_ (i := 3) (N := some 68) (v := ?_) (a' := ?_) #[true, true, true, true, false, false, false] rfl rfl (by kernel_rfl) (fun _ _ _ h => h) (Or.inl ⟨by rfl, ?_⟩) hHeld ?_ ?_
          rotate_left
          · intro w' hS_
            obtain ⟨s0_, s1_, s2_⟩ := hS_
            go_simp
            with_reducible rfl
          rotate_left
          · simp only [Act.put, List.setIfInBounds_toArray, List.set_cons_zero, List.set_cons_succ, i64_w, i32_w]
            rfl
          refine pure_ (i := 4) (N := some 69) (v := ?_) (a' := ?_) #[true, true, true, true, true, false, false] rfl rfl (by kernel_rfl) (fun _ _ _ h => h) (Or.inl ⟨by rfl, ?_⟩) ?_ ?_
          rotate_left
          · intro w'
            go_simp
            with_reducible rfl
          rotate_left
          · simp only [Act.put, List.setIfInBounds_toArray, List.set_cons_zero, List.set_cons_succ, i64_w, i32_w]
            rfl
          refine take_ (i := 5) (N := some 70) (v := ?_) (a' := ?_) #[true, true, true, true, true, true, false] rfl rfl (by kernel_rfl) (fun _ _ _ h => h) (Or.inl ⟨by rfl, ?_⟩) hHeld ?_ ?_
          rotate_left
          · intro w' hS_
            obtain ⟨s0_, s1_, s2_⟩ := hS_
            go_simp
            with_reducible rfl
          rotate_left
          · simp only [Act.put, List.setIfInBounds_toArray, List.set_cons_zero, List.set_cons_succ, i64_w, i32_w]
            rfl
          refine last_ (i := 6) (N := none) #[true, true, true, true, true, true, true] rfl rfl (by kernel_rfl) (by decide) (fun K hK => ?_)
          refine put_step (by rfl) rfl (.tmp 68) (.tmp 69) (.tmp 70) 108 rfl rfl rfl rfl hrun6 ?_
          refine hK.out _ _ ?_
          clear hK K
          refine done_ (by kernel_rfl) ?_
          go_wp2
          go_roundg (F.length - (j + 1))
          case measure => have := hj.out; omega
          case rel =>
            have hkT : Kb (fun k => k = b) wo w6 := (Kb.of_below _ hB5d).trans hk6
            have hst : crS keep (F.take (j + 1)) = ((crS keep (F.take j)).1 ++ [(k, m, N)], (crS keep (F.take j)).2 + 1) := by
              rw [Htake.out, crS_snoc]; unfold crStep
              rw [if_neg Hfull.out]
              have hk : keptN keep (crS keep (F.take j)).2 (xs, N) = nn := by rw [← hj.out.2.2]; exact Hnn.out.symm
              have hN := HN.out.symm
              simp only [hk, hN, Hm.out]
            have hD := HDj.out
            refine ⟨j + 1, i + 1, by simp, by simp, ⟨by omega, rfl, by rw [hst]; simp only []; rw [hj.out.2.2]⟩, ⟨?_, HI.out.2.trans hkT⟩⟩
            rw [hst, List.append_assoc]
            have hmid := put_mid _ k (xs, N) (m, N) _ Hrj.out
            have hF6 := (HF.out.imp fun v c hv => hv.step fun k hS hlt => hkT.block k hlt (hD.hS k hS).2).put s.data.toList (v := .agg #[.slice Af N cf, .int .i64 N]) (c := (m, N)) ⟨Af, cf, by rw [Hml.out], by rw [Hml.out]; exact Nat.le_trans (by rw [← Hml.out]; exact Hmc.out) (Nat.le_refl _), by rw [Hml.out]; exact Kd.F_step HFm.out (fun k hS hlt => hkT.block k hlt (hD.hS k hS).2)⟩
            rw [Hsk.out, hmid] at hF6
            rw [Hsk.out] at hO6
            have hfin : Dsk w6 g b _ off fuse ((crS keep (F.take j)).1 ++ ([(k, m, N)] ++ F.drop (j + 1))) S := ⟨hkT.blk hD.hg hD.gb, ⟨_, hO6, hF6⟩, hD.hS⟩
            have h8 := hfin.tight
            have h9 : ((crS keep (F.take j)).1 ++ ([(k, m, N)] ++ F.drop (j + 1))).length = F.length := by
              have h4 := congrArg List.length Hkeys.out
              simpa using h4
            rw [h9] at h8
            exact h8
    · obtain rfl : j = F.length := by have := hj.out; omega
      have hltb2 : decide (F.length < (strs (F.map (·.1))).length) = false := by rw [Hsl.out]; simp
      have hltb3 : ¬ (F.length : Int) < ((strs (F.map (·.1))).length : Int) := by rw [Hsl.out]; omega
      have hltb4 : ¬ F.length < (strs (F.map (·.1))).length := by rw [Hsl.out]; omega
      have hfin := HI.out
      rw [List.take_length, List.drop_length, List.append_nil] at hfin
      have hd1 := dsk_set hfin.1 1 (.bool false) (off' := false) (fuse' := fuse) rfl
      have hd2 := dsk_set hd1.1 2 (.int .i64 (-1)) (off' := false) (fuse' := -1) rfl
      have HDf := Aside0.mk hd2.1
      have HKf : Aside0 (Kb (fun k => k = g ∨ k = b) W _) := ⟨((Kb.of_below _ Hb3.out).trans (hfin.2.mono fun k _ e => .inr e)).trans ((hd1.2.trans hd2.2).mono fun k _ e => .inl e)⟩
      have c1 : wr.cell? ⟨g, 1, none⟩ = some (.bool off) := by rw [blk_cell hfin.1.hg]; rfl
      have c2 : wr.cell? ⟨g, 2, none⟩ = some (.int .i64 fuse) := by rw [blk_cell hfin.1.hg]; rfl
      have f1 : wr.frozen? ⟨g, 1, none⟩ = false := blk_frozen hfin.1.hg 1
      have f2 : wr.frozen? ⟨g, 2, none⟩ = false := blk_frozen hfin.1.hg 2
      clear hfin hd1 hd2
      go_wp2
      go_ret
      exact ⟨rfl, HDf.out, HKf.out⟩
end Go.Proofs.Ytobgijpbfmpdaaa.Dk
