/- The sum of bytes as a machine over 32 bits: plain lemmas, no program. -/
import Derived.Laws.BitsAllLaws
import Derived.Laws.Entries
set_option linter.unusedVariables false
set_option linter.unusedSimpArgs false
namespace Go.Proofs.Ytobgijpbfmpdaaa.Crc
open Go
abbrev W32 := BitVec 32
def B (x : Int) : W32 := BitVec.ofInt 32 x
def I (v : W32) : Int := (v.toNat : Int)
theorem I_lo (v : W32) : 0 ≤ I v := by unfold I; omega
theorem I_hi (v : W32) : I v < 4294967296 := by unfold I; have := v.isLt; omega
theorem B_I (v : W32) : B (I v) = v := by unfold B I; rw [BitVec.ofInt_natCast]; simp
theorem I_B (x : Int) (h0 : 0 ≤ x) (h1 : x < 4294967296) : I (B x) = x := by
  unfold B I
  obtain ⟨n, rfl⟩ := Int.eq_ofNat_of_zero_le h0
  rw [BitVec.ofInt_natCast, BitVec.toNat_ofNat]
  omega
theorem I_inj {u v : W32} (h : I u = I v) : u = v := by rw [← B_I u, h, B_I]
theorem B_mod (x : Int) : B (x % 4294967296) = B x := by
  unfold B
  apply BitVec.eq_of_toInt_eq
  rw [BitVec.toInt_ofInt, BitVec.toInt_ofInt]
  exact Int.emod_bmod ..
theorem xor_I (x y : Int) : Go.bits .xor .u32 x y = I (B x ^^^ B y) := by
  show IntKind.u32.wrap ((BitVec.ofInt 32 x ^^^ BitVec.ofInt 32 y).toNat : Int) = _
  rw [IntKind.wrap_u32']
  have := (BitVec.ofInt 32 x ^^^ BitVec.ofInt 32 y).isLt
  unfold I B
  omega
theorem and_I (x y : Int) : Go.bits .and .u32 x y = I (B x &&& B y) := by
  show IntKind.u32.wrap ((BitVec.ofInt 32 x &&& BitVec.ofInt 32 y).toNat : Int) = _
  rw [IntKind.wrap_u32']
  have := (BitVec.ofInt 32 x &&& BitVec.ofInt 32 y).isLt
  unfold I B
  omega
theorem or_I (x y : Int) : Go.bits .or .u32 x y = I (B x ||| B y) := by
  show IntKind.u32.wrap ((BitVec.ofInt 32 x ||| BitVec.ofInt 32 y).toNat : Int) = _
  rw [IntKind.wrap_u32']
  have := (BitVec.ofInt 32 x ||| BitVec.ofInt 32 y).isLt
  unfold I B
  omega
theorem and15 (c : Int) : 0 ≤ Go.bits .and .u32 c 15 ∧ Go.bits .and .u32 c 15 < 16 := by
  rw [and_I]
  refine ⟨I_lo _, ?_⟩
  unfold I
  rw [BitVec.toNat_and]
  have : (B c).toNat &&& (B 15).toNat ≤ (B 15).toNat := Nat.and_le_right
  have h15 : (B 15).toNat = 15 := by decide
  omega
theorem half_I (v : W32) : I v / (2 : Int) = I (v >>> 1) := by
  unfold I; rw [BitVec.toNat_ushiftRight, Nat.shiftRight_eq_div_pow]; omega
theorem six_I (v : W32) : I v / (16 : Int) = I (v >>> 4) := by
  unfold I; rw [BitVec.toNat_ushiftRight, Nat.shiftRight_eq_div_pow]; omega
def poly : W32 := 0xedb88320#32
def bstep (v : W32) : W32 := (v >>> 1) ^^^ (if v.getLsbD 0 then poly else 0#32)
def bsteps : Nat → W32 → W32
  | 0, v => v
  | n + 1, v => bsteps n (bstep v)
theorem bsteps_succ (n : Nat) (v : W32) : bsteps (n + 1) v = bstep (bsteps n v) := by
  induction n generalizing v with
  | zero => rfl
  | succ n ih => rw [bsteps, ih]; rfl
theorem bsteps_add (m n : Nat) (v : W32) : bsteps (m + n) v = bsteps n (bsteps m v) := by
  induction m generalizing v with
  | zero => rw [Nat.zero_add]; rfl
  | succ m ih => rw [Nat.succ_add, bsteps, ih]; rfl
theorem xor4 (a b c d : W32) : (a ^^^ b) ^^^ (c ^^^ d) = (a ^^^ c) ^^^ (b ^^^ d) := by ac_rfl
theorem bstep_xor (u v : W32) : bstep (u ^^^ v) = bstep u ^^^ bstep v := by
  unfold bstep
  rw [BitVec.getLsbD_xor]
  have hs : (u ^^^ v) >>> 1 = (u >>> 1) ^^^ (v >>> 1) := by
    apply BitVec.eq_of_getLsbD_eq; intro i hi; simp
  have hp : (if (u.getLsbD 0 ^^ v.getLsbD 0) = true then poly else 0#32) = (if u.getLsbD 0 = true then poly else 0#32) ^^^ (if v.getLsbD 0 = true then poly else 0#32) := by
    cases u.getLsbD 0 <;> cases v.getLsbD 0 <;> decide
  rw [hs, hp, xor4]
theorem bsteps_xor (n : Nat) (u v : W32) : bsteps n (u ^^^ v) = bsteps n u ^^^ bsteps n v := by
  induction n generalizing u v with
  | zero => rfl
  | succ n ih => rw [bsteps, bstep_xor, ih]; rfl
theorem bstep_zero : bstep 0#32 = 0#32 := by decide
theorem bsteps_zero (n : Nat) : bsteps n 0#32 = 0#32 := by
  induction n with
  | zero => rfl
  | succ n ih => rw [bsteps, bstep_zero, ih]
theorem bstep_even (v : W32) (h : v.getLsbD 0 = false) : bstep v = v >>> 1 := by
  unfold bstep; rw [h]; simp
/-- Four steps at once, by the table of half bytes. -/
theorem bsteps_four (v : W32) : bsteps 4 v = (v >>> 4) ^^^ bsteps 4 (v &&& 15#32) := by
  have hsplit : v = (v &&& 0xfffffff0#32) ^^^ (v &&& 15#32) := by
    apply BitVec.eq_of_getLsbD_eq; intro i hi
    rw [BitVec.getLsbD_xor, BitVec.getLsbD_and, BitVec.getLsbD_and]
    have : ∀ j : Nat, j < 32 → (0xfffffff0#32).getLsbD j = !(15#32).getLsbD j := by decide
    rw [this i hi]
    cases v.getLsbD i <;> cases (15#32).getLsbD i <;> rfl
  have h4 : bsteps 4 (v &&& 0xfffffff0#32) = v >>> 4 := by
    have hb : ∀ j, j < 4 → (v &&& 0xfffffff0#32).getLsbD j = false := by
      intro j hj
      rw [BitVec.getLsbD_and]
      have : ∀ j : Nat, j < 4 → (0xfffffff0#32).getLsbD j = false := by decide
      rw [this j hj, Bool.and_false]
    generalize hx : v &&& 0xfffffff0#32 = x at hb
    have h1 : bstep x = x >>> 1 := bstep_even x (hb 0 (by omega))
    have h2 : bstep (x >>> 1) = x >>> 1 >>> 1 := bstep_even _ (by simpa using hb 1 (by omega))
    have h3 : bstep (x >>> 1 >>> 1) = x >>> 1 >>> 1 >>> 1 := bstep_even _ (by simpa using hb 2 (by omega))
    have h5 : bstep (x >>> 1 >>> 1 >>> 1) = x >>> 1 >>> 1 >>> 1 >>> 1 := bstep_even _ (by simpa using hb 3 (by omega))
    show bstep (bstep (bstep (bstep x))) = _
    rw [h1, h2, h3, h5, ← hx]
    apply BitVec.eq_of_getLsbD_eq; intro i hi
    simp only [BitVec.getLsbD_ushiftRight, BitVec.getLsbD_and]
    by_cases h : 4 + i < 32
    · have : ∀ j : Nat, j < 32 → 4 ≤ j → (0xfffffff0#32).getLsbD j = true := by decide
      rw [show 1 + (1 + (1 + (1 + i))) = 4 + i by omega, this _ h (by omega), Bool.and_true]
    · rw [show 1 + (1 + (1 + (1 + i))) = 4 + i by omega, BitVec.getLsbD_of_ge v _ (by omega), Bool.false_and]
  conv => lhs; rw [hsplit]
  rw [bsteps_xor, h4]
/-- One byte. -/
def bbyte (v : W32) (x : Int) : W32 := bsteps 8 (v ^^^ B x)
def sumB (v : W32) (l : List Int) : W32 := l.foldl bbyte v
def crc (l : List Int) : Int := I (BitVec.allOnes 32 ^^^ sumB (BitVec.allOnes 32) l)
theorem bbyte_nibs (v : W32) (x : Int) : bbyte v x = ((((v ^^^ B x) >>> 4) ^^^ bsteps 4 ((v ^^^ B x) &&& 15#32)) >>> 4) ^^^ bsteps 4 ((((v ^^^ B x) >>> 4) ^^^ bsteps 4 ((v ^^^ B x) &&& 15#32)) &&& 15#32) := by
  unfold bbyte
  rw [show (8 : Nat) = 4 + 4 from rfl, bsteps_add, ← bsteps_four, ← bsteps_four]
theorem crc_lo (l : List Int) : 0 ≤ crc l := I_lo _
theorem crc_hi (l : List Int) : crc l < 4294967296 := I_hi _
end Go.Proofs.Ytobgijpbfmpdaaa.Crc
namespace Go.Proofs.Ytobgijpbfmpdaaa.Crc
open Go
/-! ### Numbers as four bytes; what bytes say as a frame -/
def bytesOk (l : List Int) : Bool := l.all fun x => decide (0 ≤ x ∧ x < 256)
theorem bytesOk_mem {l : List Int} (h : bytesOk l = true) : ∀ x ∈ l, 0 ≤ x ∧ x < 256 := fun x hx => of_decide_eq_true (List.all_eq_true.1 h x hx)
theorem bytesOk_of {l : List Int} (h : ∀ x ∈ l, 0 ≤ x ∧ x < 256) : bytesOk l = true := List.all_eq_true.2 fun x hx => decide_eq_true (h x hx)
theorem bytesOk_take {l : List Int} (h : bytesOk l = true) (n : Nat) : bytesOk (l.take n) = true := bytesOk_of fun x hx => bytesOk_mem h x (List.mem_of_mem_take hx)
theorem bytesOk_drop {l : List Int} (h : bytesOk l = true) (n : Nat) : bytesOk (l.drop n) = true := bytesOk_of fun x hx => bytesOk_mem h x (List.mem_of_mem_drop hx)
theorem bytesOk_append {l m : List Int} (h : bytesOk l = true) (h' : bytesOk m = true) : bytesOk (l ++ m) = true := bytesOk_of fun x hx => (List.mem_append.1 hx).elim (bytesOk_mem h x) (bytesOk_mem h' x)
def le4 (n : Int) : List Int := [n % 256, n / 256 % 256, n / 65536 % 256, n / 16777216 % 256]
theorem le4_length (n : Int) : (le4 n).length = 4 := rfl
theorem le4_ok (n : Int) : bytesOk (le4 n) = true := bytesOk_of fun x hx => by
  simp only [le4, List.mem_cons, List.not_mem_nil, or_false] at hx
  rcases hx with rfl | rfl | rfl | rfl <;> omega
def num4 : List Int → Int
  | a :: b :: c :: d :: _ => a + 256 * b + 65536 * c + 16777216 * d
  | _ => 0
theorem num4_le4 (n : Int) (h0 : 0 ≤ n) (h1 : n < 4294967296) (r : List Int) : num4 (le4 n ++ r) = n := by
  simp only [le4, num4, List.cons_append, List.nil_append]; omega
theorem num4_take {l : List Int} (h : 4 ≤ l.length) : num4 (l.take 4) = num4 l := by
  match l, h with
  | a :: b :: c :: d :: r, _ => rfl
theorem num4_range {l : List Int} (h : bytesOk l = true) : 0 ≤ num4 l ∧ num4 l < 4294967296 := by
  match l with
  | a :: b :: c :: d :: r =>
    have h1 := bytesOk_mem h a (by simp); have h2 := bytesOk_mem h b (by simp); have h3 := bytesOk_mem h c (by simp); have h4 := bytesOk_mem h d (by simp)
    simp only [num4]; omega
  | [a, b, c] => simp [num4]
  | [a, b] => simp [num4]
  | [a] => simp [num4]
  | [] => simp [num4]
theorem le4_num4 {l : List Int} (hl : l.length = 4) (h : bytesOk l = true) : le4 (num4 l) = l := by
  match l, hl with
  | [a, b, c, d], _ =>
    have h1 := bytesOk_mem h a (by simp); have h2 := bytesOk_mem h b (by simp); have h3 := bytesOk_mem h c (by simp); have h4 := bytesOk_mem h d (by simp)
    simp only [num4, le4, List.cons.injEq, and_true]
    omega
def frameF (l : List Int) : List Int := le4 (l.length : Int) ++ le4 (crc (le4 (l.length : Int))) ++ l ++ le4 (crc l)
theorem frameF_length (l : List Int) : (frameF l).length = l.length + 12 := by simp [frameF, le4]
theorem frameF_ok {l : List Int} (h : bytesOk l = true) : bytesOk (frameF l) = true := bytesOk_append (bytesOk_append (bytesOk_append (le4_ok _) (le4_ok _)) h) (le4_ok _)
/-- What bytes say as a frame: the body, a place, an error (4 too short, 8 a sum, 2 too long, 0 none). -/
def readP (b : List Int) : List Int × Int × Int :=
  if b.length < 8 then ([], (b.length : Int), 4)
  else if num4 (b.drop 4) ≠ crc (b.take 4) then ([], 4, 8)
  else if num4 b > 65536 then ([], 0, 2)
  else if (b.length : Int) < 8 + num4 b + 4 then ([], (b.length : Int), 4)
  else if num4 (b.drop (8 + num4 b).toNat) ≠ crc ((b.take (8 + num4 b).toNat).drop 8) then ([], 8 + num4 b, 8)
  else ((b.take (8 + num4 b).toNat).drop 8, 8 + num4 b + 4, 0)
/-! ### The reference's sum, bit by bit -/
theorem half_odd (v : W32) (h : v.getLsbD 0 = true) : bstep v = (v >>> 1) ^^^ poly := by unfold bstep; rw [h]; rfl
theorem odd_I (v : W32) : (Int.tmod (I v) 2 = 1) ↔ v.getLsbD 0 = true := by
  have h : v.getLsbD 0 = decide (v.toNat % 2 = 1) := by rw [BitVec.getLsbD, Nat.testBit_zero]
  rw [h, decide_eq_true_iff, Int.tmod_eq_emod_of_nonneg (I_lo v)]
  unfold I
  omega
theorem tdiv_I (v : W32) : Int.tdiv (I v) 2 % (4294967296 : Int) = I (v >>> 1) := by
  have h0 := I_lo v
  have h1 := I_hi v
  have h2 := half_I v
  rw [Int.tdiv_eq_ediv_of_nonneg h0]
  omega
theorem refstep_odd (v : W32) (h : v.getLsbD 0 = true) : Go.bits .xor .u32 (Int.tdiv (I v) 2 % (4294967296 : Int)) 3988292384 = I (bstep v) := by
  rw [tdiv_I, xor_I, B_I, half_odd v h]
  rfl
theorem refstep_even (v : W32) (h : v.getLsbD 0 = false) : Int.tdiv (I v) 2 % (4294967296 : Int) = I (bstep v) := by
  rw [tdiv_I, bstep_even v h]
theorem ones_I : I (BitVec.allOnes 32) = 4294967295 := by decide
theorem crc_eq (l : List Int) : Go.bits .xor .u32 (I (sumB (BitVec.allOnes 32) l)) 4294967295 = crc l := by
  rw [← ones_I, xor_I, B_I, B_I, BitVec.xor_comm]; rfl
end Go.Proofs.Ytobgijpbfmpdaaa.Crc
