/- FrameBits, as a statement over lists and numbers: a frame of which a bit is turned is not read; bits turned within 32 are told by ErrSum. -/
import Derived.Test.YtobgijpbfmpdaaaFrP
import Derived.Test.YtobgijpbfmpdaaaCb
set_option linter.unusedVariables false
set_option linter.unusedSimpArgs false
namespace Go.Proofs.Ytobgijpbfmpdaaa.FbP
open Go.RowKit Go.Proofs.Ytobgijpbfmpdaaa.PFr Go.Proofs.YtobgijpbfmpdaaaW.PrintWords Go.Proofs.YtobgijpbfmpdaaaW.PrintMore
open Go.Proofs.Ytobgijpbfmpdaaa.Crc (W32 B I bstep bsteps sumB crc crc_lo crc_hi bytesOk bytesOk_mem bytesOk_of bytesOk_take bytesOk_drop bytesOk_append le4 le4_length le4_ok num4 num4_le4 num4_take num4_range le4_num4 frameF frameF_length frameF_ok readP ones_I resid valid_iff flip flip_length flip_ok flip_flip sumB_flip flip_append_left flip_append_right bit_steps bsteps_ne bsteps_xor bsteps_inj xor_eq_zero)
theorem ones_ne (n : Nat) (h : n = n) : bsteps n 1#32 ≠ 0#32 := bsteps_ne (by decide) n
theorem xor_ne {a b : W32} (h : b ≠ 0#32) : a ^^^ b ≠ a := by
  intro e
  apply h
  have : a ^^^ (a ^^^ b) = a ^^^ a := by rw [e]
  rwa [← BitVec.xor_assoc, BitVec.xor_self, BitVec.zero_xor] at this
def hdr (L : Nat) : List Int := le4 (L : Int) ++ le4 (crc (le4 (L : Int)))
theorem hdr_length (L : Nat) : (hdr L).length = 8 := rfl
theorem hdr_ok (L : Nat) : bytesOk (hdr L) = true := bytesOk_append (le4_ok _) (le4_ok _)
theorem hdr_sum (L : Nat) : sumB (BitVec.allOnes 32) (hdr L) = resid := by
  refine (valid_iff (hdr L) 4 rfl (hdr_ok L)).1 ?_
  show num4 (le4 (crc (le4 (L : Int))) ) = crc (le4 (L : Int))
  have := num4_le4 (crc (le4 (L : Int))) (crc_lo _) (crc_hi _) []
  rwa [List.append_nil] at this
theorem frame_split (l : List Int) : frameF l = hdr l.length ++ (l ++ le4 (crc l)) := by simp [frameF, hdr]
/-- A whole header, and as many bytes behind it as it says. -/
theorem read_hdr (L : Nat) (hL : L ≤ 65536) (bt : List Int) (hl : bt.length = L + 4) (hb : bytesOk bt = true) :
    readP (hdr L ++ bt) = if sumB (BitVec.allOnes 32) bt = resid then (bt.take L, 8 + (L : Int) + 4, 0) else ([], 8 + (L : Int), 8) := by
  have hn : num4 (hdr L ++ bt) = L := by
    unfold hdr; rw [List.append_assoc]; exact num4_le4 _ (by omega) (by omega) _
  unfold readP
  have hlen : (hdr L ++ bt).length = 8 + L + 4 := by rw [List.length_append, hdr_length]; omega
  rw [if_neg (by omega)]
  have hd4 : (hdr L ++ bt).drop 4 = le4 (crc (le4 (L : Int))) ++ bt := by unfold hdr; rw [List.append_assoc]; rfl
  have ht4 : (hdr L ++ bt).take 4 = le4 (L : Int) := by unfold hdr; rw [List.append_assoc]; rfl
  rw [hd4, ht4, num4_le4 _ (crc_lo _) (crc_hi _), if_neg (by simp), hn, if_neg (by omega), if_neg (by omega)]
  have hL8 : (8 + (L : Int)).toNat = 8 + L := by omega
  have hd8 : (hdr L ++ bt).drop (8 + (L : Int)).toNat = bt.drop L := by
    rw [hL8, List.drop_append, hdr_length, List.drop_of_length_le (by rw [hdr_length]; omega), List.nil_append]
    congr 1; omega
  have ht8 : ((hdr L ++ bt).take (8 + (L : Int)).toNat).drop 8 = bt.take L := by
    rw [hL8, List.take_append, hdr_length, List.take_of_length_le (by rw [hdr_length]; omega), List.drop_append, hdr_length, List.drop_of_length_le (by rw [hdr_length]; omega), List.nil_append]
    simp
  rw [hd8, ht8]
  by_cases hv : sumB (BitVec.allOnes 32) bt = resid
  · rw [if_pos hv, if_neg (show ¬ (num4 (bt.drop L) ≠ crc (bt.take L)) from fun h => h ((valid_iff bt L hl hb).2 hv))]
  · rw [if_neg hv, if_pos (fun h => hv ((valid_iff bt L hl hb).1 h))]
/-- Another header: it is not read. -/
theorem read_bad (hd bt : List Int) (hl : hd.length = 8) (hb : bytesOk hd = true) (hs : sumB (BitVec.allOnes 32) hd ≠ resid) : (readP (hd ++ bt)).2.2 ≠ 0 := by
  have h := fun e => hs ((valid_iff hd 4 hl hb).1 e)
  unfold readP
  have e1 : (hd ++ bt).take 4 = hd.take 4 := by rw [List.take_append_of_le_length (by omega)]
  have e2 : num4 ((hd ++ bt).drop 4) = num4 (hd.drop 4) := by
    rw [List.drop_append_of_le_length (by omega), ← num4_take (by rw [List.length_append, List.length_drop]; omega), ← num4_take (l := hd.drop 4) (by rw [List.length_drop]; omega), List.take_append_of_le_length (by rw [List.length_drop]; omega)]
  split
  · simp
  · rw [e1, e2, if_pos h]
    simp
theorem sum_frame (l : List Int) (hb : bytesOk l = true) : sumB (BitVec.allOnes 32) (l ++ le4 (crc l)) = resid := by
  refine (valid_iff _ l.length (by simp [le4]) (bytesOk_append hb (le4_ok _))).1 ?_
  rw [List.drop_left, List.take_left]
  have := num4_le4 (crc l) (crc_lo _) (crc_hi _) []
  rwa [List.append_nil] at this
/-- One bit turned. -/
theorem read_flip (l : List Int) (hL : l.length ≤ 65536) (hb : bytesOk l = true) (n : Nat) (hn : n < 8 * (frameF l).length) : (readP (flip (frameF l) n)).2.2 ≠ 0 := by
  rw [frameF_length] at hn
  rw [frame_split]
  by_cases h : n < 64
  · rw [flip_append_left _ _ _ (by rw [hdr_length]; omega)]
    refine read_bad _ _ (by rw [flip_length, hdr_length]) (flip_ok (hdr_ok _) _) ?_
    rw [sumB_flip (hdr_ok _) _ _ (by rw [hdr_length]; omega), hdr_sum]
    exact xor_ne (ones_ne _ rfl)
  · rw [flip_append_right _ _ _ (by rw [hdr_length]; omega)]
    have hbt : bytesOk (l ++ le4 (crc l)) = true := bytesOk_append hb (le4_ok _)
    have hlen : (l ++ le4 (crc l)).length = l.length + 4 := by simp [le4]
    rw [read_hdr l.length hL _ (by rw [flip_length, hlen]) (flip_ok hbt _), if_neg]
    · simp
    · rw [sumB_flip hbt _ _ (by rw [hlen, hdr_length]; omega), sum_frame l hb]
      exact xor_ne (ones_ne _ rfl)
theorem read_frame (l : List Int) (hL : l.length ≤ 65536) (hb : bytesOk l = true) : readP (frameF l) = (l, 8 + (l.length : Int) + 4, 0) := by
  rw [frame_split, read_hdr l.length hL _ (by simp [le4]) (bytesOk_append hb (le4_ok _)), if_pos (sum_frame l hb), List.take_left]
theorem set_flip (b : List Int) (n : Nat) (hn : n < 1099511627776) :
    b.set (wrap64 (Int.tdiv (n : Int) 8)).toNat (Go.bits .xor .u8 (rd b (wrap64 (Int.tdiv (n : Int) 8))) (shl .u8 1 (IntKind.u64.wrap (Int.tmod (n : Int) 8)))) = flip b n := by
  have e1 : wrap64 (Int.tdiv (n : Int) 8) = ((n / 8 : Nat) : Int) := by
    rw [Int.tdiv_eq_ediv_of_nonneg (by omega)]; unfold wrap64; omega
  have e2 : IntKind.u64.wrap (Int.tmod (n : Int) 8) = ((n % 8 : Nat) : Int) := by
    rw [Int.tmod_eq_emod_of_nonneg (by omega), IntKind.wrap_u64]; omega
  have e3 : shl .u8 1 ((n % 8 : Nat) : Int) = 2 ^ (n % 8) := by
    have h : n % 8 < 8 := by omega
    generalize n % 8 = r at h
    match r, h with
    | 0, _ => decide +kernel
    | 1, _ => decide +kernel
    | 2, _ => decide +kernel
    | 3, _ => decide +kernel
    | 4, _ => decide +kernel
    | 5, _ => decide +kernel
    | 6, _ => decide +kernel
    | 7, _ => decide +kernel
  rw [e1, e2, e3]
  unfold Crc.flip rd
  rw [Int.toNat_natCast]
theorem xor_bit_ne (D : W32) (i : Nat) (hi : i < 32) (h : D.getLsbD i = false) : D ^^^ (1#32 <<< i) ≠ 0#32 := by
  intro e
  have := congrArg (fun v : W32 => v.getLsbD i) e
  simp only [BitVec.getLsbD_xor, h, BitVec.getLsbD_shiftLeft] at this
  simp [hi] at this
theorem xor_bit_hi (D : W32) (i j : Nat) (hij : i < j) (h : D.getLsbD j = false) : (D ^^^ (1#32 <<< i)).getLsbD j = false := by
  rw [BitVec.getLsbD_xor, h, BitVec.getLsbD_shiftLeft]
  have : ∀ k : Nat, k ≠ 0 → (1#32).getLsbD k = false := by
    intro k hk; simp [BitVec.getLsbD_one]; omega
  rw [this _ (by omega)]
  simp
/-- The turning of the bits of the mask, one by one, and what is read then. -/
theorem loop (x0 : List Int) (hL : x0.length ≤ 3000) (x3 : Int) (fr : Nat) (hfr : fr < 8 * (x0.length + 4)) : ∀ (d i : Nat) (D : W32) (bt : List Int) (t : Bool), i + d = 32 → bt.length = x0.length + 4 → bytesOk bt = true →
    sumB (BitVec.allOnes 32) bt = resid ^^^ bsteps (8 * (x0.length + 4) - fr) D → (∀ j, i ≤ j → D.getLsbD j = false) → t = decide (D ≠ 0#32) →
    prompterlaw06_FrameBits.l0 (2 * d + 2) x0 x3 (hdr x0.length ++ bt) ((8 * (x0.length + 4) : Nat) : Int) (fr : Int) t (i : Int) = some true := by
  intro d
  have hend : ∀ (k : Nat) (i : Nat) (D : W32) (bt : List Int) (t : Bool), bt.length = x0.length + 4 → bytesOk bt = true →
    sumB (BitVec.allOnes 32) bt = resid ^^^ bsteps (8 * (x0.length + 4) - fr) D → t = decide (D ≠ 0#32) →
    prompterlaw06_FrameBits.j2 (k + 1) x0 x3 (hdr x0.length ++ bt) ((8 * (x0.length + 4) : Nat) : Int) (fr : Int) t (i : Int) false = some true := by
    intro k i D bt t hl hb hs ht
    simp only [prompterlaw06_FrameBits.j2]
    have hr := read_hdr x0.length (by omega) bt hl hb
    rw [if_neg (by decide), FrP.read_f _ (bytesOk_append (hdr_ok _) hb) (by rw [List.length_append, hdr_length]; omega)]
    simp only [Option.bind_some]
    have hw : wrap64 (8 + (x0.length : Int)) = 8 + (x0.length : Int) := by unfold wrap64; omega
    by_cases hD : D = 0#32
    · subst hD
      rw [if_pos (by rw [hs, Crc.bsteps_zero, BitVec.xor_zero])] at hr
      rw [hr, ht, if_neg (by decide)]
      simp only [if_true, List.length_append, hdr_length, hl]
      congr 1
      simp
      omega
    · have ht' : t = true := by rw [ht]; exact decide_eq_true hD
      rw [if_neg (by rw [hs]; exact xor_ne (bsteps_ne hD _))] at hr
      rw [hr, if_pos ht', hw]
      simp
  induction d with
  | zero =>
    intro i D bt t hi hl hb hs hj ht
    simp only [prompterlaw06_FrameBits.l0]
    rw [if_neg (by omega)]
    exact hend _ i D bt t hl hb hs ht
  | succ d ih =>
    intro i D bt t hi hl hb hs hj ht
    rw [show 2 * (d + 1) + 2 = (2 * d + 2) + 1 + 1 by omega]
    simp only [prompterlaw06_FrameBits.l0]
    rw [if_pos (by omega)]
    have hw : wrap64 ((fr : Int) + (i : Int)) = ((fr + i : Nat) : Int) := by unfold wrap64; omega
    rw [hw]
    by_cases hfit : fr + i < 8 * (x0.length + 4)
    · rw [decide_eq_true (by omega)]
      simp only [prompterlaw06_FrameBits.j2]
      have hu : (0 : Int) ≤ IntKind.u64.wrap (i : Int) := by rw [IntKind.wrap_u64]; omega
      have hw1 : wrap64 ((i : Int) + 1) = ((i + 1 : Nat) : Int) := by unfold wrap64; omega
      have hw2 : wrap64 (wrap64 (64 + (fr : Int)) + (i : Int)) = ((64 + fr + i : Nat) : Int) := by
        rw [show wrap64 (64 + (fr : Int)) = ((64 + fr : Nat) : Int) by unfold wrap64; omega]; unfold wrap64; omega
      rw [if_pos trivial, if_pos hu, hw1, hw2]
      have hdv : wrap64 (Int.tdiv ((64 + fr + i : Nat) : Int) 8) = (((64 + fr + i) / 8 : Nat) : Int) := by
        rw [Int.tdiv_eq_ediv_of_nonneg (by omega)]; unfold wrap64; omega
      have hu8 : (0 : Int) ≤ IntKind.u64.wrap (Int.tmod ((64 + fr + i : Nat) : Int) 8) := by rw [IntKind.wrap_u64]; omega
      by_cases hbit : Go.bits .and .u32 (shr .u32 x3 (IntKind.u64.wrap (i : Int))) 1 = 1
      · rw [if_pos hbit, if_pos (by rw [hdv]; omega), if_pos (by rw [hdv, List.length_append, hdr_length, hl]; omega), if_pos hu8, set_flip _ _ (by omega), flip_append_right _ _ _ (by rw [hdr_length]; omega)]
        have hk : 64 + fr + i - 8 * (hdr x0.length).length = fr + i := by rw [hdr_length]; omega
        rw [hk]
        refine ih (i + 1) (D ^^^ (1#32 <<< i)) (Crc.flip bt (fr + i)) true (by omega) (by rw [flip_length, hl]) (flip_ok hb _) ?_ ?_ ?_
        · rw [sumB_flip hb _ _ (by omega), hs, bsteps_xor, bit_steps i _ (by omega) (by omega), BitVec.xor_assoc, hl]
          congr 2
          congr 1
          omega
        · intro j hj'
          exact xor_bit_hi D i j (by omega) (hj j (by omega))
        · exact (decide_eq_true (xor_bit_ne D i (by omega) (hj i (Nat.le_refl _)))).symm
      · rw [if_neg hbit]
        exact ih (i + 1) D bt t (by omega) hl hb hs (fun j hj' => hj j (by omega)) ht
    · rw [decide_eq_false (by omega)]
      exact hend _ i D bt t hl hb hs ht
theorem awake_f : prompterlaw06_awake.f = some true := by decide +kernel
theorem tmod_nat (x : Int) (m : Nat) (hm : 0 < m) (hm2 : m < 1000000000) : ∃ n : Nat, wrap64 (Int.tmod (IntKind.u64.wrap x) (m : Int)) = (n : Int) ∧ n < m := by
  have h0 : 0 ≤ IntKind.u64.wrap x := by rw [IntKind.wrap_u64]; omega
  rw [Int.tmod_eq_emod_of_nonneg h0]
  have h2 := Int.emod_nonneg (IntKind.u64.wrap x) (b := (m : Int)) (by omega)
  have h3 := Int.emod_lt_of_pos (IntKind.u64.wrap x) (b := (m : Int)) (by omega)
  refine ⟨(IntKind.u64.wrap x % (m : Int)).toNat, ?_, by omega⟩
  generalize IntKind.u64.wrap x % (m : Int) = y at h2 h3
  unfold wrap64
  omega
theorem tail_f (l0 : List Int) (hL : l0.length ≤ 3000) (hb : bytesOk l0 = true) (a2 a3 : Int) : prompterlaw06_FrameBits.j0 67 l0 a2 a3 (frameF l0) false = some true := by
  simp only [prompterlaw06_FrameBits.j0]
  have e1 : wrap64 ((l0.length : Int) + 4) = ((l0.length + 4 : Nat) : Int) := by unfold wrap64; omega
  have e2 : wrap64 (8 * ((l0.length + 4 : Nat) : Int)) = ((8 * (l0.length + 4) : Nat) : Int) := by unfold wrap64; omega
  have e3 : IntKind.u64.wrap ((8 * (l0.length + 4) : Nat) : Int) = ((8 * (l0.length + 4) : Nat) : Int) := by rw [IntKind.wrap_u64]; omega
  have e4 : ¬ (((8 * (l0.length + 4) : Nat) : Int) = 0) := by omega
  have e5 : ¬ (false = true) := by decide
  obtain ⟨fr, hfr, hfr2⟩ := tmod_nat a2 (8 * (l0.length + 4)) (by omega) (by omega)
  rw [if_neg e5, e1, e2, e3, if_neg e4, hfr, frame_split]
  exact loop l0 (by omega) a3 fr hfr2 32 0 0#32 _ false (by omega) (by simp [le4]) (bytesOk_append hb (le4_ok _)) (by rw [sum_frame l0 hb, Crc.bsteps_zero, BitVec.xor_zero]) (by simp) (by decide)
theorem main_f (k : Nat) (l0 b : List Int) (a1 a2 a3 : Int) (hs : ¬ (l0.length : Int) > 3000) (hF : frame_Frame.f l0 = some (b, 0)) (hlen : b.length = l0.length + 12) (hfb : bytesOk b = true)
    (hr0 : readP b = (l0, 8 + (l0.length : Int) + 4, 0)) (hrf : ∀ n, n < 8 * b.length → (readP (Crc.flip b n)).2.2 ≠ 0)
    (ht : prompterlaw06_FrameBits.j0 k l0 a2 a3 b false = some true) : prompterlaw06_FrameBits.f k l0 a1 a2 a3 = some true := by
  unfold prompterlaw06_FrameBits.f
  rw [awake_f, Option.bind_some, if_pos rfl, if_neg hs, hF, Option.bind_some, if_pos rfl]
  have e1 : IntKind.u64.wrap (wrap64 (8 * (b.length : Int))) = ((8 * (l0.length + 12) : Nat) : Int) := by
    rw [hlen, IntKind.wrap_u64]; unfold wrap64; omega
  show (if IntKind.u64.wrap (wrap64 (8 * (b.length : Int))) = 0 then _ else _) = _
  rw [e1, if_neg (by omega)]
  obtain ⟨n, hn, hn2⟩ := tmod_nat a1 (8 * (l0.length + 12)) (by omega) (by omega)
  rw [hn]
  have hdv : wrap64 (Int.tdiv (n : Int) 8) = ((n / 8 : Nat) : Int) := by rw [Int.tdiv_eq_ediv_of_nonneg (by omega)]; unfold wrap64; omega
  have hu8 : (0 : Int) ≤ IntKind.u64.wrap (Int.tmod (n : Int) 8) := by rw [IntKind.wrap_u64]; omega
  rw [if_pos (by rw [hdv]; omega), if_pos (by rw [hdv, hlen]; omega), if_pos hu8]
  rw [set_flip _ n (by omega), Option.bind_some]
  rw [FrP.read_f _ (flip_ok hfb n) (by rw [flip_length, hlen]; omega), Option.bind_some]
  rw [set_flip _ n (by omega), flip_flip hfb n (by rw [hlen]; omega), Option.bind_some, FrP.read_f _ hfb (by rw [hlen]; omega), hr0, Option.bind_some]
  rw [if_neg (hrf n (by rw [hlen]; omega))]
  exact ht
theorem FrameBits : prompterlaw06_FrameBits.Pure := by
  intro l0 a1 a2 a3 hm h1 hwf w1 w2 w3
  have hb : bytesOk l0 = true := bytesOk_of fun x hx => by
    have := hwf x hx
    simp [Lit.wf, IntKind.min, IntKind.max, IntKind.signed, IntKind.bits] at this
    omega
  by_cases hs : (l0.length : Int) > 3000
  · refine ⟨0, ?_⟩
    unfold prompterlaw06_FrameBits.f
    rw [awake_f, Option.bind_some, if_pos rfl, if_pos hs]
  · exact ⟨67, main_f 67 l0 (frameF l0) a1 a2 a3 hs (FrP.frame_f l0 (by omega)) (frameF_length l0) (frameF_ok hb) (read_frame l0 (by omega) hb) (fun n hn => read_flip l0 (by omega) hb n hn) (tail_f l0 (by omega) hb a2 a3)⟩
end Go.Proofs.Ytobgijpbfmpdaaa.FbP
