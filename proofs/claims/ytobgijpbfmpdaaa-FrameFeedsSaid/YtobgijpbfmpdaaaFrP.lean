/- What the printed functions of layer 6 compute, in plain words: Crc.crc, Crc.frameF, Crc.readP. No memory. -/
import Derived.Test.YtobgijpbfmpdaaaPFrx4
set_option linter.unusedVariables false
set_option linter.unusedSimpArgs false
namespace Go.Proofs.Ytobgijpbfmpdaaa.FrP
open Go.RowKit Go.Proofs.Ytobgijpbfmpdaaa.PFr Go.Proofs.YtobgijpbfmpdaaaW.PrintWords
open Go.Proofs.Ytobgijpbfmpdaaa.Crc (W32 B I I_lo I_hi B_I I_B I_inj B_mod xor_I and_I or_I half_I six_I poly bstep bsteps bsteps_succ bbyte sumB crc crc_lo crc_hi bytesOk bytesOk_mem bytesOk_of bytesOk_take bytesOk_drop bytesOk_append le4 le4_length le4_ok num4 num4_le4 num4_take num4_range le4_num4 frameF frameF_length frameF_ok readP ones_I)
theorem stepc_I (v : W32) : Mine.stepc (I v) = I (bstep v) := by
  unfold Mine.stepc bstep
  rw [and_I, B_I, half_I, xor_I, B_I]
  have h1 : B 1 = 1#32 := by decide
  rw [h1]
  have hb : v &&& 1#32 = if v.getLsbD 0 = true then 1#32 else 0#32 := by
    apply BitVec.eq_of_getLsbD_eq; intro i hi
    rw [BitVec.getLsbD_and]
    by_cases h0 : i = 0
    · subst h0
      cases v.getLsbD 0 <;> decide
    · have : ∀ j : Nat, j < 32 → j ≠ 0 → (1#32).getLsbD j = false := by decide
      rw [this i hi h0, Bool.and_false]
      cases v.getLsbD 0 <;> simp [this i hi h0]
  rw [hb]
  cases v.getLsbD 0
  · rfl
  · rfl
theorem itc_I (n : Nat) (v : W32) : Mine.itc n (I v) = I (bsteps n v) := by
  induction n generalizing v with
  | zero => rfl
  | succ n ih => rw [Mine.itc, stepc_I, ih]; rfl
theorem tab_I (v : W32) : Mine.tab (Go.bits .and .u32 (I v) 15).toNat = I (bsteps 4 (v &&& 15#32)) := by
  rw [and_I, B_I]
  have h15 : B 15 = 15#32 := by decide
  rw [h15]
  unfold Mine.tab
  rw [Int.toNat_of_nonneg (I_lo _), itc_I]
theorem byteStep_I (v : W32) (x : Int) : Mine.byteStep (I v) x = I (bbyte v x) := by
  rw [Crc.bbyte_nibs]
  unfold Mine.byteStep
  simp only
  have e1 : Go.bits .xor .u32 (I v) (x % 4294967296) = I (v ^^^ B x) := by rw [xor_I, B_I, B_mod]
  rw [e1, tab_I, six_I]
  have e2 : Go.bits .xor .u32 (I ((v ^^^ B x) >>> 4)) (I (bsteps 4 ((v ^^^ B x) &&& 15#32))) = I ((v ^^^ B x) >>> 4 ^^^ bsteps 4 ((v ^^^ B x) &&& 15#32)) := by rw [xor_I, B_I, B_I]
  rw [e2, tab_I, six_I, xor_I, B_I, B_I]
theorem sumc_I (v : W32) (l : List Int) : l.foldl Mine.byteStep (I v) = I (sumB v l) := by
  induction l generalizing v with
  | nil => rfl
  | cons x l ih => rw [List.foldl_cons, byteStep_I, ih]; rfl
theorem sum_eq (l : List Int) : Mine.notc (Mine.sumc l) = crc l := by
  unfold Mine.notc Mine.sumc
  rw [show (4294967295 : Int) = I (BitVec.allOnes 32) from ones_I.symm, sumc_I, xor_I, B_I]
  rfl
theorem sum_f (l : List Int) : frame_Sum.f l = some (crc l) := by unfold frame_Sum.f; rw [sum_eq]
theorem put_f (l : List Int) (n : Int) (h : l.length + 4 < 140737488355328) : frame_put.f l n = some (l ++ le4 n) := by
  unfold frame_put.f
  simp only [Option.bind_some]
  rw [if_pos (by simpa using h)]
  rfl
theorem frame_long (l : List Int) (h : (l.length : Int) > 65536) : frame_Frame.f l = some ([], 2) := by
  unfold frame_Frame.f; rw [if_pos h]
theorem frame_f (l : List Int) (h : l.length ≤ 65536) : frame_Frame.f l = some (frameF l, 0) := by
  unfold frame_Frame.f
  rw [if_neg (by omega), Int.emod_eq_of_lt (by omega) (by omega), put_f _ _ (by simp)]
  simp only [Option.bind_some, List.nil_append]
  rw [sum_f]
  simp only [Option.bind_some]
  rw [put_f _ _ (by simp [le4])]
  simp only [Option.bind_some]
  rw [if_pos (by simp [le4]; omega), sum_f]
  simp only [Option.bind_some]
  rw [put_f _ _ (by simp [le4]; omega)]
  rfl
theorem or_sum (i : Nat) (x q : Int) (hx0 : 0 ≤ x) (hx : x < 2 ^ i) (hq : 0 ≤ q) (hb : 2 ^ i * q < 4294967296) (hx2 : x < 4294967296) : Go.bits .or .u32 x (2 ^ i * q) = x + 2 ^ i * q := by
  obtain ⟨a, rfl⟩ := Int.eq_ofNat_of_zero_le hx0
  obtain ⟨b, rfl⟩ := Int.eq_ofNat_of_zero_le hq
  have e : ((2 : Int) ^ i * (b : Int)) = ((2 ^ i * b : Nat) : Int) := by push_cast; rfl
  rw [e] at hb ⊢
  have ha : a < 2 ^ i := by exact_mod_cast hx
  rw [u32_or_nat a (2 ^ i * b) (by omega) (by omega), Nat.or_comm, ← Nat.two_pow_add_eq_or_of_lt ha]
  push_cast
  omega
theorem get_f (l : List Int) (hl : 4 ≤ l.length) (hb : bytesOk l = true) : frame_get.f l = some (num4 l) := by
  match l, hl with
  | a :: b :: c :: d :: r, _ =>
    have h1 := bytesOk_mem hb a (by simp); have h2 := bytesOk_mem hb b (by simp); have h3 := bytesOk_mem hb c (by simp); have h4 := bytesOk_mem hb d (by simp)
    unfold frame_get.f
    have e3 : rd (a :: b :: c :: d :: r) 3 = d := rfl
    have e2 : rd (a :: b :: c :: d :: r) 2 = c := rfl
    have e1 : rd (a :: b :: c :: d :: r) 1 = b := rfl
    have e0 : rd (a :: b :: c :: d :: r) 0 = a := rfl
    have hlen : ((a :: b :: c :: d :: r).length : Int) = r.length + 4 := by simp; omega
    rw [if_pos (by omega), if_pos (by omega), if_pos (by omega), if_pos (by omega), e0, e1, e2, e3]
    have m : ∀ x : Int, 0 ≤ x → x < 4294967296 → x % 4294967296 = x := fun x h h' => Int.emod_eq_of_lt h h'
    rw [m a (by omega) (by omega), m b (by omega) (by omega), m c (by omega) (by omega), m d (by omega) (by omega), m (b * 256) (by omega) (by omega), m (c * 65536) (by omega) (by omega), m (d * 16777216) (by omega) (by omega)]
    have o1 := or_sum 8 a b (by omega) (by omega) (by omega) (by omega) (by omega)
    have o2 := or_sum 16 (a + 256 * b) c (by omega) (by omega) (by omega) (by omega) (by omega)
    have o3 := or_sum 24 (a + 256 * b + 65536 * c) d (by omega) (by omega) (by omega) (by omega) (by omega)
    rw [show ((2 : Int) ^ 8) = 256 from rfl] at o1
    rw [show ((2 : Int) ^ 16) = 65536 from rfl] at o2
    rw [show ((2 : Int) ^ 24) = 16777216 from rfl] at o3
    rw [Int.mul_comm b 256, o1, Int.mul_comm c 65536, o2, Int.mul_comm d 16777216, o3]
    rfl
theorem look_f (l : List Int) (hb : bytesOk l = true) (hl : l.length ≤ 140737488355000) : frame_look.f l = some (if (readP l).2.2 = 0 then (((readP l).1.length : Int), 0, 0) else (0, (readP l).2.1, (readP l).2.2)) := by
  unfold frame_look.f readP
  by_cases h8 : l.length < 8
  · rw [if_pos (by omega), if_pos h8]; rfl
  · rw [if_neg (by omega), if_neg h8, get_f l (by omega) hb]
    simp only [Option.bind_some]
    rw [if_pos (by omega), get_f _ (by rw [List.length_drop]; omega) (bytesOk_drop hb _)]
    simp only [Option.bind_some]
    rw [sum_f]
    simp only [Option.bind_some]
    by_cases hs : num4 (l.drop 4) = crc (l.take 4)
    · rw [if_pos hs, if_neg (show ¬ (num4 (l.drop 4) ≠ crc (l.take 4)) from fun h => h hs)]
      have hr := num4_range hb
      by_cases hbig : num4 l > 65536
      · rw [if_pos hbig, if_pos hbig]; rfl
      · rw [if_neg hbig, if_neg hbig]
        have w1 : wrap64 (num4 l) = num4 l := by unfold wrap64; omega
        have w2 : wrap64 (8 + num4 l) = 8 + num4 l := by unfold wrap64; omega
        have w3 : wrap64 (8 + num4 l + 4) = 8 + num4 l + 4 := by unfold wrap64; omega
        rw [w1, w2, w3]
        by_cases hsh : (l.length : Int) < 8 + num4 l + 4
        · rw [if_pos hsh, if_pos hsh]; rfl
        · rw [if_neg hsh, if_neg hsh, if_pos (by omega), if_pos (by omega), get_f _ (by rw [List.length_drop]; omega) (bytesOk_drop hb _)]
          simp only [Option.bind_some]
          rw [if_pos (by omega), sum_f]
          simp only [Option.bind_some]
          by_cases hs2 : num4 (l.drop (8 + num4 l).toNat) = crc ((l.take (8 + num4 l).toNat).drop 8)
          · rw [if_pos hs2, if_neg (show ¬ (num4 (l.drop (8 + num4 l).toNat) ≠ crc ((l.take (8 + num4 l).toNat).drop 8)) from fun h => h hs2)]
            simp only [if_true]
            rw [List.length_drop, List.length_take]
            congr 2
            omega
          · rw [if_neg hs2, if_pos hs2]; rfl
    · rw [if_neg hs, if_pos hs]; rfl
theorem readP_body {l : List Int} (h : (readP l).2.2 = 0) : 0 ≤ num4 l ∧ num4 l ≤ 65536 ∧ 8 + num4 l + 4 ≤ (l.length : Int) ∧ (readP l).1 = (l.take (8 + num4 l).toNat).drop 8 ∧ (readP l).2.1 = 8 + num4 l + 4 ∨ bytesOk l = false := by
  cases hb : bytesOk l with
  | false => exact .inr rfl
  | true =>
    left
    have hr := num4_range hb
    unfold readP at h ⊢
    split at h
    · simp at h
    · rename_i h8
      rw [if_neg h8]
      split at h
      · simp at h
      · rename_i hs
        rw [if_neg hs]
        split at h
        · simp at h
        · rename_i hbig
          rw [if_neg hbig]
          split at h
          · simp at h
          · rename_i hsh
            rw [if_neg hsh]
            split at h
            · simp at h
            · rename_i hs2
              rw [if_neg hs2]
              exact ⟨by omega, by omega, by omega, rfl, rfl⟩
theorem read_f (l : List Int) (hb : bytesOk l = true) (hl : l.length ≤ 140737488355000) : frame_Read.f l = some (readP l) := by
  unfold frame_Read.f
  rw [look_f l hb hl]
  simp only [Option.bind_some]
  by_cases h : (readP l).2.2 = 0
  · rcases readP_body h with ⟨h0, h1, h2, h3, h4⟩ | h'
    · have hlen : ((readP l).1.length : Int) = num4 l := by rw [h3, List.length_drop, List.length_take]; omega
      have w2 : wrap64 (8 + num4 l) = 8 + num4 l := by unfold wrap64; omega
      have w3 : wrap64 (8 + num4 l + 4) = 8 + num4 l + 4 := by unfold wrap64; omega
      rw [if_pos h, if_pos rfl]
      simp only [hlen, w2, w3]
      rw [if_pos (by omega), if_pos (by omega), if_pos (by simp only [List.length_nil, List.length_drop, List.length_take]; omega)]
      rw [List.nil_append]
      have e : readP l = ((readP l).1, (readP l).2.1, (readP l).2.2) := rfl
      rw [e, h3, h4, h]
    · rw [hb] at h'; cases h'
  · have hne : (readP l).1 = [] := by
      unfold readP at h ⊢
      split
      · rfl
      · rename_i h8
        rw [if_neg h8] at h
        split
        · rfl
        · rename_i hs
          rw [if_neg hs] at h
          split
          · rfl
          · rename_i hbig
            rw [if_neg hbig] at h
            split
            · rfl
            · rename_i hsh
              rw [if_neg hsh] at h
              split
              · rfl
              · rename_i hs2
                rw [if_neg hs2] at h
                exact absurd rfl h
    rw [if_neg h, if_neg h]
    have e : readP l = ((readP l).1, (readP l).2.1, (readP l).2.2) := rfl
    rw [e, hne]
end Go.Proofs.Ytobgijpbfmpdaaa.FrP
