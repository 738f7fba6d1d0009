/- Frames one behind the other: what is read of more bytes, of fewer, of a beginning. No memory. -/
import Derived.Test.YtobgijpbfmpdaaaFd
import Derived.Test.YtobgijpbfmpdaaaFbP
set_option linter.unusedVariables false
namespace Go.Proofs.Ytobgijpbfmpdaaa.SpQ
open Go.Proofs.Ytobgijpbfmpdaaa.Crc (readP bytesOk num4 num4_take num4_le4 num4_range crc crc_lo crc_hi le4 frameF frameF_length)
open Go.Proofs.Ytobgijpbfmpdaaa.Sp (splitL read_ok splitL_fuel)
theorem num4_app {a b : List Int} (h : 4 ≤ a.length) : num4 (a ++ b) = num4 a := by
  rw [← num4_take h, ← num4_take (l := a ++ b) (by rw [List.length_append]; omega), List.take_append_of_le_length h]
theorem read_mono {x y b : List Int} {k : Int} (hb : bytesOk x = true) (h : readP x = (b, k, 0)) : readP (x ++ y) = (b, k, 0) := by
  unfold readP at h
  by_cases h1 : x.length < 8
  · rw [if_pos h1] at h; cases h
  · rw [if_neg h1] at h
    by_cases h2 : num4 (x.drop 4) ≠ crc (x.take 4)
    · rw [if_pos h2] at h; cases h
    · rw [if_neg h2] at h
      by_cases h3 : num4 x > 65536
      · rw [if_pos h3] at h; cases h
      · rw [if_neg h3] at h
        by_cases h4 : (x.length : Int) < 8 + num4 x + 4
        · rw [if_pos h4] at h; cases h
        · rw [if_neg h4] at h
          have hn := (num4_range hb).1
          have e1 : num4 (x ++ y) = num4 x := num4_app (by omega)
          have e2 : (x ++ y).drop 4 = x.drop 4 ++ y := List.drop_append_of_le_length (by omega)
          have e3 : (x ++ y).take 4 = x.take 4 := List.take_append_of_le_length (by omega)
          have e4 : (x ++ y).drop (8 + num4 x).toNat = x.drop (8 + num4 x).toNat ++ y := List.drop_append_of_le_length (by omega)
          have e5 : (x ++ y).take (8 + num4 x).toNat = x.take (8 + num4 x).toNat := List.take_append_of_le_length (by omega)
          unfold readP
          rw [if_neg (by rw [List.length_append]; omega), e1, e2, e3, e4, e5, num4_app (by rw [List.length_drop]; omega), if_neg h2, if_neg h3, if_neg (by rw [List.length_append]; omega), num4_app (by rw [List.length_drop]; omega)]
          exact h
theorem read_app {b rest : List Int} (hb : bytesOk b = true) (hl : b.length ≤ 65536) : readP (frameF b ++ rest) = (b, 8 + (b.length : Int) + 4, 0) :=
  read_mono (Crc.frameF_ok hb) (FbP.read_frame b hl hb)
/-- A beginning of a frame ends too early. -/
theorem read_pre {b : List Int} (hb : bytesOk b = true) (hl : b.length ≤ 65536) (j : Nat) (hj : j < b.length + 12) : readP ((frameF b).take j) = ([], (j : Int), 4) := by
  have hlen : ((frameF b).take j).length = j := by rw [List.length_take, frameF_length]; omega
  unfold readP
  rw [hlen]
  by_cases h8 : j < 8
  · rw [if_pos h8]
  · rw [if_neg h8]
    have hh : (frameF b).take j = FbP.hdr b.length ++ (b ++ le4 (crc b)).take (j - 8) := by
      rw [FbP.frame_split, List.take_append, FbP.hdr_length, List.take_of_length_le (by rw [FbP.hdr_length]; omega)]
    rw [hh]
    have ed : (FbP.hdr b.length ++ (b ++ le4 (crc b)).take (j - 8)).drop 4 = le4 (crc (le4 (b.length : Int))) ++ (b ++ le4 (crc b)).take (j - 8) := by unfold FbP.hdr; rw [List.append_assoc]; rfl
    have et : (FbP.hdr b.length ++ (b ++ le4 (crc b)).take (j - 8)).take 4 = le4 (b.length : Int) := by unfold FbP.hdr; rw [List.append_assoc]; rfl
    have en : num4 (FbP.hdr b.length ++ (b ++ le4 (crc b)).take (j - 8)) = b.length := by unfold FbP.hdr; rw [List.append_assoc]; exact num4_le4 _ (by omega) (by omega) _
    rw [ed, et, num4_le4 _ (crc_lo _) (crc_hi _), if_neg (by simp), en, if_neg (by omega), if_pos (by omega)]
/-- splitL with as much fuel as it takes, from a place on, with what has come ahead. -/
theorem splitL_acc (b : List Int) : ∀ (k : Nat) (l : List (List Int)) (n : Int), splitL b k l n = (l ++ (splitL b k [] n).1, (splitL b k [] n).2.1, (splitL b k [] n).2.2) := by
  intro k
  induction k with
  | zero => intro l n; simp [splitL]
  | succ k ih =>
    intro l n
    simp only [splitL]
    by_cases hn : n < (b.length : Int)
    · rw [if_pos hn, if_pos hn]
      by_cases hz : (readP (b.drop n.toNat)).2.2 = 0
      · rw [if_pos hz, if_pos hz, ih (l ++ _), ih ([] ++ _)]
        simp
      · rw [if_neg hz, if_neg hz]; simp
    · rw [if_neg hn, if_neg hn]; simp
theorem splitL_shift (b : List Int) (hb : bytesOk b = true) (n : Nat) : ∀ (k : Nat) (l : List (List Int)) (m : Int), 0 ≤ m → m + n ≤ b.length →
    splitL b k l (n + m) = ((splitL (b.drop n) k l m).1, n + (splitL (b.drop n) k l m).2.1, (splitL (b.drop n) k l m).2.2) := by
  intro k
  induction k with
  | zero => intro l m h0 h1; rfl
  | succ k ih =>
    intro l m h0 h1
    have hl : (b.drop n).length = b.length - n := List.length_drop
    have hd : (b.drop n).drop m.toNat = b.drop ((n : Int) + m).toNat := by rw [List.drop_drop]; congr 1; omega
    simp only [splitL]
    rw [hd]
    by_cases hn : (n : Int) + m < (b.length : Int)
    · have c1 : m < ((b.drop n).length : Int) := by rw [hl]; omega
      by_cases hz : (readP (b.drop ((n : Int) + m).toNat)).2.2 = 0
      · simp only [if_pos hn, if_pos c1, if_pos hz]
        have h3 := read_ok hz (Crc.bytesOk_drop hb _)
        rw [List.length_drop] at h3
        have := ih (l ++ [(readP (b.drop ((n : Int) + m).toNat)).1]) (m + (readP (b.drop ((n : Int) + m).toNat)).2.1) (by omega) (by omega)
        rw [← Int.add_assoc] at this
        exact this
      · simp only [if_pos hn, if_pos c1, if_neg hz]
    · have c1 : ¬ m < ((b.drop n).length : Int) := by rw [hl]; omega
      simp only [if_neg hn, if_neg c1]
/-- What is read of x and y is what is read of x, and of what is left of x with y behind it. -/
theorem splitL_more (x y : List Int) (hb : bytesOk (x ++ y) = true) (hm : (x ++ y).length ≤ 1000000) : ∀ (k : Nat) (l : List (List Int)) (m : Int), 0 ≤ m → m ≤ x.length → x.length - m.toNat ≤ k →
    splitL (x ++ y) (k + y.length) l m = (l ++ (splitL x k [] m).1 ++ (splitL (x.drop (splitL x k [] m).2.1.toNat ++ y) (x.drop (splitL x k [] m).2.1.toNat ++ y).length [] 0).1,
      (splitL x k [] m).2.1 + (splitL (x.drop (splitL x k [] m).2.1.toNat ++ y) (x.drop (splitL x k [] m).2.1.toNat ++ y).length [] 0).2.1,
      (splitL (x.drop (splitL x k [] m).2.1.toNat ++ y) (x.drop (splitL x k [] m).2.1.toNat ++ y).length [] 0).2.2) := by
  have hlen : (x ++ y).length = x.length + y.length := List.length_append
  have hbx : bytesOk x = true := Crc.bytesOk_of fun z hz => Crc.bytesOk_mem hb z (List.mem_append.2 (.inl hz))
  have base : ∀ (k : Nat) (l : List (List Int)) (m : Int), 0 ≤ m → m ≤ x.length → x.length - m.toNat ≤ k → splitL (x ++ y) (k + y.length) l m =
      (l ++ [] ++ (splitL (x.drop m.toNat ++ y) (x.drop m.toNat ++ y).length [] 0).1, m + (splitL (x.drop m.toNat ++ y) (x.drop m.toNat ++ y).length [] 0).2.1, (splitL (x.drop m.toNat ++ y) (x.drop m.toNat ++ y).length [] 0).2.2) := by
    intro k l m h0 h1 h2
    have hd : (x ++ y).drop m.toNat = x.drop m.toNat ++ y := List.drop_append_of_le_length (by omega)
    have hdl : (x.drop m.toNat ++ y).length = x.length + y.length - m.toNat := by rw [List.length_append, List.length_drop]; omega
    have hbd : bytesOk (x.drop m.toNat ++ y) = true := by rw [← hd]; exact Crc.bytesOk_drop hb _
    have h := splitL_shift (x ++ y) hb m.toNat (k + y.length) l 0 (Int.le_refl _) (by omega)
    rw [show ((m.toNat : Int) + 0) = m by omega, hd, splitL_acc (x.drop m.toNat ++ y) _ l, splitL_fuel _ hbd (by omega) (k + y.length) (x.drop m.toNat ++ y).length [] 0 (Int.le_refl _) (by omega) (by omega)] at h
    rw [h]
    simp only [List.append_nil]
    rw [show (m.toNat : Int) = m by omega]
  intro k
  induction k with
  | zero =>
    intro l m h0 h1 h2
    have hm2 : ¬ m < (x.length : Int) := by omega
    rw [show splitL x 0 [] m = ([], m, 0) from rfl]
    exact base 0 l m h0 h1 h2
  | succ k ih =>
    intro l m h0 h1 h2
    by_cases hn : m < (x.length : Int)
    · by_cases hz : (readP (x.drop m.toNat)).2.2 = 0
      · have h3 := read_ok hz (Crc.bytesOk_drop hbx _)
        rw [List.length_drop] at h3
        have hd : (x ++ y).drop m.toNat = x.drop m.toNat ++ y := List.drop_append_of_le_length (by omega)
        have hr : readP ((x ++ y).drop m.toNat) = readP (x.drop m.toNat) := by
          rw [hd]
          have e : readP (x.drop m.toNat) = ((readP (x.drop m.toNat)).1, (readP (x.drop m.toNat)).2.1, 0) := by rw [← hz]
          rw [read_mono (Crc.bytesOk_drop hbx _) e, ← e]
        have e1 : splitL x (k + 1) [] m = splitL x k [(readP (x.drop m.toNat)).1] (m + (readP (x.drop m.toNat)).2.1) := by rw [splitL, if_pos hn, if_pos hz, List.nil_append]
        have e2 : splitL (x ++ y) (k + 1 + y.length) l m = splitL (x ++ y) (k + y.length) (l ++ [(readP (x.drop m.toNat)).1]) (m + (readP (x.drop m.toNat)).2.1) := by
          rw [show k + 1 + y.length = k + y.length + 1 by omega, splitL, hr, if_pos (by rw [hlen]; omega), if_pos hz]
        rw [e2, e1, ih _ _ (by omega) (by omega) (by omega), splitL_acc x k [(readP (x.drop m.toNat)).1]]
        simp
      · have e1 : splitL x (k + 1) [] m = ([], m, (readP (x.drop m.toNat)).2.2) := by rw [splitL, if_pos hn, if_neg hz]
        rw [e1]
        exact base (k + 1) l m h0 h1 h2
    · have e1 : splitL x (k + 1) [] m = ([], m, 0) := by rw [splitL, if_neg hn]
      rw [e1]
      exact base (k + 1) l m h0 h1 h2
theorem splitL_end (b : List Int) (hb : bytesOk b = true) : ∀ (k : Nat) (l : List (List Int)) (m : Int), 0 ≤ m → m ≤ b.length → b.length - m.toNat ≤ k → ((splitL b k l m).2.2 = 0 ↔ (splitL b k l m).2.1 = b.length) := by
  intro k
  induction k with
  | zero => intro l m h0 h1 h2; simp only [splitL, true_iff]; omega
  | succ k ih =>
    intro l m h0 h1 h2
    simp only [splitL]
    by_cases hn : m < (b.length : Int)
    · rw [if_pos hn]
      by_cases hz : (readP (b.drop m.toNat)).2.2 = 0
      · rw [if_pos hz]
        have h3 := read_ok hz (Crc.bytesOk_drop hb _)
        rw [List.length_drop] at h3
        exact ih _ _ (by omega) (by omega) (by omega)
      · rw [if_neg hz]
        constructor
        · intro h; exact (hz h).elim
        · intro h; dsimp only at h; omega
    · rw [if_neg hn]
      constructor
      · intro _; dsimp only; omega
      · intro _; rfl
abbrev spl (x : List Int) : List (List Int) × Int × Int := splitL x x.length [] 0
theorem spl_more (x y : List Int) (hb : bytesOk (x ++ y) = true) (hm : (x ++ y).length ≤ 1000000) :
    spl (x ++ y) = ((spl x).1 ++ (spl (x.drop (spl x).2.1.toNat ++ y)).1, (spl x).2.1 + (spl (x.drop (spl x).2.1.toNat ++ y)).2.1, (spl (x.drop (spl x).2.1.toNat ++ y)).2.2) := by
  have h := splitL_more x y hb hm x.length [] 0 (Int.le_refl _) (by omega) (by omega)
  rw [← List.length_append, List.nil_append] at h
  exact h
theorem spl_cons (b r : List Int) (hb : bytesOk b = true) (hr : bytesOk r = true) (hl : b.length ≤ 65536) (hm : (frameF b ++ r).length ≤ 1000000) :
    spl (frameF b ++ r) = (b :: (spl r).1, (b.length : Int) + 12 + (spl r).2.1, (spl r).2.2) := by
  have hbo : bytesOk (frameF b ++ r) = true := Crc.bytesOk_append (Crc.frameF_ok hb) hr
  have hlen : (frameF b ++ r).length = b.length + 12 + r.length := by rw [List.length_append, frameF_length]
  have hd : (frameF b ++ r).drop (b.length + 12) = r := by rw [← frameF_length b, List.drop_left]
  have h := splitL_shift (frameF b ++ r) hbo (b.length + 12) (b.length + 11 + r.length) [b] 0 (Int.le_refl _) (by omega)
  rw [hd, splitL_acc r _ [b], splitL_fuel r hr (by omega) (b.length + 11 + r.length) r.length [] 0 (Int.le_refl _) (by omega) (by omega)] at h
  show splitL (frameF b ++ r) (frameF b ++ r).length [] 0 = _
  rw [hlen, show b.length + 12 + r.length = b.length + 11 + r.length + 1 by omega, splitL, if_pos (by rw [hlen]; omega), Int.toNat_zero, List.drop_zero, read_app hb hl, if_pos rfl, List.nil_append]
  rw [show (0 : Int) + (8 + (b.length : Int) + 4) = ((b.length + 12 : Nat) : Int) + 0 by omega, h]
  rw [show ((b.length + 12 : Nat) : Int) = (b.length : Int) + 12 by omega]
  rfl
def cat : List (List Int) → List Int
  | [] => []
  | b :: bs => frameF b ++ cat bs
theorem cat_snoc (bs : List (List Int)) (b : List Int) : cat (bs ++ [b]) = cat bs ++ frameF b := by
  induction bs with
  | nil => simp [cat]
  | cons a bs ih => rw [List.cons_append, cat, cat, ih, List.append_assoc]
theorem cat_ok : ∀ (bs : List (List Int)), (∀ b ∈ bs, bytesOk b = true) → bytesOk (cat bs) = true
  | [], _ => rfl
  | b :: bs, h => Crc.bytesOk_append (Crc.frameF_ok (h b List.mem_cons_self)) (cat_ok bs (fun x hx => h x (List.mem_cons_of_mem _ hx)))
theorem spl_cat : ∀ (bs : List (List Int)), (∀ b ∈ bs, bytesOk b = true ∧ b.length ≤ 65536) → (cat bs).length ≤ 1000000 → spl (cat bs) = (bs, ((cat bs).length : Int), 0)
  | [], _, _ => rfl
  | b :: bs, h, hm => by
    have hm' : (frameF b ++ cat bs).length ≤ 1000000 := hm
    have hm2 : (cat bs).length ≤ 1000000 := by rw [List.length_append] at hm'; omega
    have ih := spl_cat bs (fun x hx => h x (List.mem_cons_of_mem _ hx)) hm2
    have h1 := h b List.mem_cons_self
    show spl (frameF b ++ cat bs) = _
    rw [spl_cons b (cat bs) h1.1 (cat_ok bs (fun x hx => (h x (List.mem_cons_of_mem _ hx)).1)) h1.2 hm', ih]
    show (b :: bs, (b.length : Int) + 12 + ((cat bs).length : Int), 0) = (b :: bs, (((frameF b ++ cat bs).length : Nat) : Int), 0)
    rw [List.length_append, frameF_length]
    congr 2
theorem spl_pre : ∀ (bs : List (List Int)), (∀ b ∈ bs, bytesOk b = true ∧ b.length ≤ 65536) → (cat bs).length ≤ 1000000 → ∀ j, (spl ((cat bs).take j)).2.2 = 0 ∨ (spl ((cat bs).take j)).2.2 = 4
  | [], _, _, j => by left; rw [show (cat []).take j = [] from List.take_nil]; rfl
  | b :: bs, h, hm, j => by
    have hm' : (frameF b ++ cat bs).length ≤ 1000000 := hm
    have hm2 : (cat bs).length ≤ 1000000 := by rw [List.length_append] at hm'; omega
    have ih := spl_pre bs (fun x hx => h x (List.mem_cons_of_mem _ hx)) hm2 (j - (b.length + 12))
    have h1 := h b List.mem_cons_self
    show (spl ((frameF b ++ cat bs).take j)).2.2 = 0 ∨ (spl ((frameF b ++ cat bs).take j)).2.2 = 4
    by_cases hj : j < b.length + 12
    · rw [List.take_append_of_le_length (by rw [frameF_length]; omega)]
      have hp := read_pre h1.1 h1.2 j hj
      have hlen : ((frameF b).take j).length = j := by rw [List.length_take, frameF_length]; omega
      generalize (frameF b).take j = x at hp hlen
      show (splitL x x.length [] 0).2.2 = 0 ∨ (splitL x x.length [] 0).2.2 = 4
      rw [hlen]
      cases j with
      | zero => left; rfl
      | succ j => right; rw [splitL, if_pos (by omega), Int.toNat_zero, List.drop_zero, hp]; rfl
    · rw [List.take_append, frameF_length, List.take_of_length_le (by rw [frameF_length]; omega),
        spl_cons b _ h1.1 (Crc.bytesOk_take (cat_ok bs (fun x hx => (h x (List.mem_cons_of_mem _ hx)).1)) _) h1.2 (by rw [List.length_append, List.length_take]; rw [List.length_append] at hm'; omega)]
      exact ih
end Go.Proofs.Ytobgijpbfmpdaaa.SpQ
