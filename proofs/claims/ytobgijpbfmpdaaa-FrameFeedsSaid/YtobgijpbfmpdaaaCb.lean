/- What turning bits does to the sum: plain lemmas over 32 bits, no program. -/
import Derived.Test.YtobgijpbfmpdaaaCr
set_option linter.unusedVariables false
set_option linter.unusedSimpArgs false
namespace Go.Proofs.Ytobgijpbfmpdaaa.Crc
open Go
theorem bstep_ne {w : W32} (h : w ≠ 0#32) : bstep w ≠ 0#32 := by
  intro h0
  apply h
  unfold bstep at h0
  cases hl : w.getLsbD 0 with
  | true =>
    exfalso
    rw [hl] at h0
    have h31 := congrArg (fun v : W32 => v.getLsbD 31) h0
    simp only [BitVec.getLsbD_xor, BitVec.getLsbD_ushiftRight, if_true] at h31
    rw [BitVec.getLsbD_of_ge w _ (by omega)] at h31
    revert h31
    decide
  | false =>
    rw [hl] at h0
    have h1 : w >>> 1 = 0#32 := by simpa using h0
    apply BitVec.eq_of_getLsbD_eq
    intro i hi
    by_cases hi0 : i = 0
    · subst hi0; rw [hl]; rfl
    · have := congrArg (fun v : W32 => v.getLsbD (i - 1)) h1
      simp only [BitVec.getLsbD_ushiftRight] at this
      rw [show 1 + (i - 1) = i by omega] at this
      rw [this]
      simp
theorem bsteps_ne {w : W32} (h : w ≠ 0#32) (n : Nat) : bsteps n w ≠ 0#32 := by
  induction n generalizing w with
  | zero => exact h
  | succ n ih => exact ih (bstep_ne h)
theorem xor_eq_zero {a b : W32} (h : a ^^^ b = 0#32) : a = b := by
  have : a ^^^ b ^^^ b = 0#32 ^^^ b := by rw [h]
  rwa [BitVec.xor_assoc, BitVec.xor_self, BitVec.xor_zero, BitVec.zero_xor] at this
theorem bsteps_inj {u v : W32} {n : Nat} (h : bsteps n u = bsteps n v) : u = v := by
  have h1 : bsteps n (u ^^^ v) = 0#32 := by rw [bsteps_xor, h, BitVec.xor_self]
  by_cases h0 : u ^^^ v = 0#32
  · exact xor_eq_zero h0
  · exact absurd h1 (bsteps_ne h0 n)
/-- Steps of a word whose low bits are nought. -/
theorem bsteps_low (n : Nat) : ∀ w : W32, (∀ j, j < n → w.getLsbD j = false) → bsteps n w = w >>> n := by
  induction n with
  | zero => intro w _; simp [bsteps]
  | succ n ih =>
    intro w h
    rw [bsteps, bstep_even w (h 0 (by omega)), ih]
    · rw [← BitVec.shiftRight_add, Nat.add_comm]
    · intro j hj
      rw [BitVec.getLsbD_ushiftRight]
      exact h _ (by omega)
theorem step8 (s w : W32) : bsteps 8 (s ^^^ w) = bbyte s (I (w &&& 255#32)) ^^^ (w >>> 8) := by
  have hs : w = (w &&& 255#32) ^^^ (w &&& 0xffffff00#32) := by
    apply BitVec.eq_of_getLsbD_eq; intro i hi
    rw [BitVec.getLsbD_xor, BitVec.getLsbD_and, BitVec.getLsbD_and]
    have : ∀ j : Nat, j < 32 → (0xffffff00#32).getLsbD j = !(255#32).getLsbD j := by decide
    rw [this i hi]
    cases w.getLsbD i <;> cases (255#32).getLsbD i <;> rfl
  have hh : bsteps 8 (w &&& 0xffffff00#32) = w >>> 8 := by
    rw [bsteps_low 8]
    · apply BitVec.eq_of_getLsbD_eq; intro i hi
      simp only [BitVec.getLsbD_ushiftRight, BitVec.getLsbD_and]
      by_cases h : 8 + i < 32
      · have : ∀ j : Nat, j < 32 → 8 ≤ j → (0xffffff00#32).getLsbD j = true := by decide
        rw [this _ h (by omega), Bool.and_true]
      · rw [BitVec.getLsbD_of_ge w _ (by omega), Bool.false_and]
    · intro j hj
      rw [BitVec.getLsbD_and]
      have : ∀ j : Nat, j < 8 → (0xffffff00#32).getLsbD j = false := by decide
      rw [this j hj, Bool.and_false]
  unfold bbyte
  rw [B_I]
  conv => lhs; rw [hs]
  rw [← BitVec.xor_assoc, bsteps_xor, hh]
theorem byte_I (w : W32) : I w % 256 = I (w &&& 255#32) := by
  unfold I
  rw [BitVec.toNat_and]
  have : w.toNat &&& (255#32).toNat = w.toNat % 256 := Nat.and_two_pow_sub_one_eq_mod w.toNat 8
  rw [this]
  omega
theorem sh_I (w : W32) : I w / (256 : Int) = I (w >>> 8) := by
  unfold I; rw [BitVec.toNat_ushiftRight, Nat.shiftRight_eq_div_pow]; omega
theorem le4_I (w : W32) : le4 (I w) = [I (w &&& 255#32), I (w >>> 8 &&& 255#32), I (w >>> 8 >>> 8 &&& 255#32), I (w >>> 8 >>> 8 >>> 8 &&& 255#32)] := by
  unfold le4
  have e2 : I w / (65536 : Int) = I (w >>> 8 >>> 8) := by rw [← sh_I, ← sh_I]; have := I_lo w; omega
  have e3 : I w / (16777216 : Int) = I (w >>> 8 >>> 8 >>> 8) := by rw [← sh_I, ← sh_I, ← sh_I]; have := I_lo w; omega
  rw [byte_I, sh_I, byte_I, e2, byte_I, e3, byte_I]
theorem sum_le4 (s w : W32) : sumB s (le4 (I w)) = bsteps 32 (s ^^^ w) := by
  rw [le4_I]
  show bbyte (bbyte (bbyte (bbyte s _) _) _) _ = _
  have h32 : bsteps 32 (s ^^^ w) = bsteps 8 (bsteps 8 (bsteps 8 (bsteps 8 (s ^^^ w)))) := by
    rw [← bsteps_add, ← bsteps_add, ← bsteps_add]
  rw [h32, step8, step8, step8, step8]
  have h0 : w >>> 8 >>> 8 >>> 8 >>> 8 = 0#32 := by
    apply BitVec.eq_of_getLsbD_eq; intro i hi
    simp only [BitVec.getLsbD_ushiftRight]
    rw [BitVec.getLsbD_of_ge w _ (by omega)]
    simp
  rw [h0, BitVec.xor_zero]
theorem sumB_append (v : W32) (l m : List Int) : sumB v (l ++ m) = sumB (sumB v l) m := by unfold sumB; rw [List.foldl_append]
theorem bbyte_xor (u v : W32) (x : Int) : bbyte (u ^^^ v) x = bbyte u x ^^^ bsteps 8 v := by
  unfold bbyte
  rw [← bsteps_xor]
  congr 1
  ac_rfl
theorem sumB_xor (l : List Int) : ∀ u v : W32, sumB (u ^^^ v) l = sumB u l ^^^ bsteps (8 * l.length) v := by
  induction l with
  | nil => intro u v; rfl
  | cons x l ih =>
    intro u v
    show sumB (bbyte (u ^^^ v) x) l = sumB (bbyte u x) l ^^^ _
    rw [bbyte_xor, ih, List.length_cons, show 8 * (l.length + 1) = 8 + 8 * l.length by omega, bsteps_add]
/-- What the sum of a body and its own four bytes comes to. -/
def resid : W32 := bsteps 32 (BitVec.allOnes 32)
/-- Bytes whose last four are the sum of the others. -/
theorem valid_iff (l : List Int) (n : Nat) (hl : l.length = n + 4) (hb : bytesOk l = true) : num4 (l.drop n) = crc (l.take n) ↔ sumB (BitVec.allOnes 32) l = resid := by
  have hd : le4 (num4 (l.drop n)) = l.drop n := le4_num4 (by rw [List.length_drop]; omega) (bytesOk_drop hb _)
  have hr := num4_range (bytesOk_drop hb n)
  have hw := I_B (num4 (l.drop n)) hr.1 hr.2
  have e : sumB (BitVec.allOnes 32) l = bsteps 32 (sumB (BitVec.allOnes 32) (l.take n) ^^^ B (num4 (l.drop n))) := by
    conv => lhs; rw [← List.take_append_drop n l]
    rw [sumB_append, ← sum_le4, hw, hd]
  rw [e]
  unfold resid crc
  constructor
  · intro h
    rw [h, B_I, ← BitVec.xor_assoc, BitVec.xor_comm (sumB _ _), BitVec.xor_assoc, BitVec.xor_self, BitVec.xor_zero]
  · intro h
    have h2 := bsteps_inj h
    rw [← hw]
    congr 1
    have h3 : sumB (BitVec.allOnes 32) (l.take n) ^^^ (sumB (BitVec.allOnes 32) (l.take n) ^^^ B (num4 (l.drop n))) = sumB (BitVec.allOnes 32) (l.take n) ^^^ BitVec.allOnes 32 := by rw [h2]
    rw [← BitVec.xor_assoc, BitVec.xor_self, BitVec.zero_xor] at h3
    rw [h3, BitVec.xor_comm]
/-! ### A bit that is turned -/
def flip (l : List Int) (k : Nat) : List Int := l.set (k / 8) (Go.bits .xor .u8 (l.getD (k / 8) 0) (2 ^ (k % 8)))
theorem flip_length (l : List Int) (k : Nat) : (flip l k).length = l.length := by simp [flip]
theorem xor8 (x : Int) (r : Nat) (h0 : 0 ≤ x) (h1 : x < 256) (hr : r < 8) : 0 ≤ Go.bits .xor .u8 x (2 ^ r) ∧ Go.bits .xor .u8 x (2 ^ r) < 256 ∧ B (Go.bits .xor .u8 x (2 ^ r)) = B x ^^^ (1#32 <<< r) ∧ Go.bits .xor .u8 (Go.bits .xor .u8 x (2 ^ r)) (2 ^ r) = x := by
  obtain ⟨n, rfl⟩ := Int.eq_ofNat_of_zero_le h0
  have hn : n < 256 := by omega
  have h2 : 2 ^ r < 256 := Nat.lt_of_lt_of_le (Nat.pow_lt_pow_right (by omega) hr) (by decide)
  have e : ((2 : Int) ^ r) = ((2 ^ r : Nat) : Int) := by push_cast; rfl
  have hx : n ^^^ 2 ^ r < 256 := Nat.xor_lt_two_pow (n := 8) hn h2
  rw [e, u8_xor_nat n (2 ^ r) hn h2, u8_xor_nat _ (2 ^ r) hx h2]
  refine ⟨by omega, by omega, ?_, ?_⟩
  · unfold B
    rw [BitVec.ofInt_natCast, BitVec.ofInt_natCast]
    apply BitVec.eq_of_getLsbD_eq
    intro i hi
    rw [BitVec.getLsbD_xor, BitVec.getLsbD_ofNat, BitVec.getLsbD_ofNat, Nat.testBit_xor, Nat.testBit_two_pow, BitVec.getLsbD_shiftLeft]
    simp only [hi, decide_true, Bool.true_and]
    congr 1
    by_cases h : r = i
    · subst h; simp
    · by_cases h3 : i < r
      · simp [h, h3]
      · have : ∀ j : Nat, j ≠ 0 → (1#32).getLsbD j = false := by
          intro j hj; simp [BitVec.getLsbD_one]; omega
        rw [this _ (by omega)]
        simp [h]
  · rw [Nat.xor_assoc, Nat.xor_self, Nat.xor_zero]
theorem getD_ok {l : List Int} (hb : bytesOk l = true) (i : Nat) : 0 ≤ l.getD i 0 ∧ l.getD i 0 < 256 := by
  by_cases h : i < l.length
  · rw [List.getD_eq_getElem?_getD, List.getElem?_eq_getElem h]
    exact bytesOk_mem hb _ (List.getElem_mem h)
  · rw [List.getD_eq_getElem?_getD, List.getElem?_eq_none (by omega)]
    exact ⟨by decide, by decide⟩
theorem flip_ok {l : List Int} (hb : bytesOk l = true) (k : Nat) : bytesOk (flip l k) = true := bytesOk_of fun x hx => by
  unfold flip at hx
  rcases List.mem_or_eq_of_mem_set hx with h | h
  · exact bytesOk_mem hb x h
  · rw [h]
    have := getD_ok hb (k / 8)
    have h8 := xor8 _ (k % 8) this.1 this.2 (by omega)
    exact ⟨h8.1, h8.2.1⟩
theorem flip_flip {l : List Int} (hb : bytesOk l = true) (k : Nat) (hk : k < 8 * l.length) : flip (flip l k) k = l := by
  have := getD_ok hb (k / 8)
  have h8 := xor8 _ (k % 8) this.1 this.2 (by omega)
  have hi : k / 8 < l.length := by omega
  unfold flip
  rw [List.set_set]
  have e : (l.set (k / 8) (Go.bits .xor .u8 (l.getD (k / 8) 0) (2 ^ (k % 8)))).getD (k / 8) 0 = Go.bits .xor .u8 (l.getD (k / 8) 0) (2 ^ (k % 8)) := by
    rw [List.getD_eq_getElem?_getD, List.getElem?_set_self hi]; rfl
  rw [e, h8.2.2.2]
  apply List.ext_getElem?
  intro j
  by_cases h : k / 8 = j
  · subst h
    rw [List.getElem?_set_self hi, List.getElem?_eq_getElem hi, List.getD_eq_getElem?_getD, List.getElem?_eq_getElem hi]
    rfl
  · rw [List.getElem?_set_ne h]
theorem bit_steps (r m : Nat) (hr : r ≤ m) (hr2 : r < 32) : bsteps m (1#32 <<< r) = bsteps (m - r) 1#32 := by
  have h : bsteps r (1#32 <<< r) = 1#32 := by
    rw [bsteps_low r]
    · apply BitVec.eq_of_getLsbD_eq; intro i hi
      rw [BitVec.getLsbD_ushiftRight, BitVec.getLsbD_shiftLeft]
      by_cases h : r + i < 32
      · simp [h]
      · have : ∀ j : Nat, j ≠ 0 → (1#32).getLsbD j = false := by
          intro j hj; simp [BitVec.getLsbD_one]; omega
        rw [this i (by omega)]
        simp [h]
    · intro j hj
      rw [BitVec.getLsbD_shiftLeft]
      simp [hj]
  have hm : m = r + (m - r) := by omega
  conv => lhs; rw [hm]
  rw [bsteps_add, h]
theorem sumB_flip {l : List Int} (hb : bytesOk l = true) (v : W32) (k : Nat) (hk : k < 8 * l.length) : sumB v (flip l k) = sumB v l ^^^ bsteps (8 * l.length - k) 1#32 := by
  have hi : k / 8 < l.length := by omega
  have hg := getD_ok hb (k / 8)
  have h8 := xor8 _ (k % 8) hg.1 hg.2 (by omega)
  have e1 : flip l k = l.take (k / 8) ++ Go.bits .xor .u8 (l.getD (k / 8) 0) (2 ^ (k % 8)) :: l.drop (k / 8 + 1) := by
    unfold flip
    rw [List.set_eq_take_append_cons_drop, if_pos hi]
  have e2 : l = l.take (k / 8) ++ l.getD (k / 8) 0 :: l.drop (k / 8 + 1) := by
    conv => lhs; rw [← List.take_append_drop (k / 8) l]
    rw [List.drop_eq_getElem_cons hi, List.getD_eq_getElem?_getD, List.getElem?_eq_getElem hi]
    rfl
  rw [e1]
  conv => rhs; rw [e2]
  rw [sumB_append, sumB_append]
  generalize sumB v (l.take (k / 8)) = s
  show sumB (bbyte s _) _ = sumB (bbyte s _) _ ^^^ _
  have e3 : bbyte s (Go.bits .xor .u8 (l.getD (k / 8) 0) (2 ^ (k % 8))) = bbyte s (l.getD (k / 8) 0) ^^^ bsteps (8 - k % 8) 1#32 := by
    unfold bbyte
    rw [h8.2.2.1, ← BitVec.xor_assoc, bsteps_xor, bit_steps _ 8 (by omega) (by omega)]
  rw [e3, sumB_xor, ← bsteps_add]
  congr 2
  rw [← e2, List.length_drop]
  omega
theorem flip_append_left (l m : List Int) (k : Nat) (hk : k < 8 * l.length) : flip (l ++ m) k = flip l k ++ m := by
  unfold flip
  have hi : k / 8 < l.length := by omega
  rw [List.set_append_left _ _ hi, List.getD_eq_getElem?_getD, List.getElem?_append_left hi, List.getD_eq_getElem?_getD]
theorem flip_append_right (l m : List Int) (k : Nat) (hk : 8 * l.length ≤ k) : flip (l ++ m) k = l ++ flip m (k - 8 * l.length) := by
  unfold flip
  have hi : l.length ≤ k / 8 := by omega
  rw [List.set_append_right _ _ hi, List.getD_eq_getElem?_getD, List.getElem?_append_right hi, List.getD_eq_getElem?_getD]
  have e1 : (k - 8 * l.length) / 8 = k / 8 - l.length := by omega
  have e2 : (k - 8 * l.length) % 8 = k % 8 := by omega
  rw [e1, e2]
end Go.Proofs.Ytobgijpbfmpdaaa.Crc
