/- tree.Check, as a plain function. -/
import Derived.Test.YtobgijpbfmpdaaaFo
import Derived.Test.YtobgijpbfmpdaaaPCkx2
import Derived.Test.YtobgijpbfmpdaaaPCkx3
set_option maxRecDepth 100000
set_option linter.unusedVariables false
namespace Go.Proofs.Ytobgijpbfmpdaaa.Tb
open Go.RowKit Go.Proofs.YtobgijpbfmpdaaaW.PrintWords
open Go.Proofs.Ytobgijpbfmpdaaa.PCk
/-! What the functions of a form answer. -/
theorem name_some : ∀ (k : Nat) (s : ByteArray) (n i : Int), 0 ≤ i → n = s.size → n ≤ 24 → (n - i).toNat < k → ∃ r, value_Name.l0 k s n i = some r
  | 0, s, n, i, h0, hn, h24, h => by omega
  | k + 1, s, n, i, h0, hn, h24, h => by
    have hw : wrap64 (i + 1) = i + 1 ∨ ¬ i < n := by
      by_cases hi : i < n
      · left; exact Mine.wrap64_in (by omega) (by omega)
      · right; exact hi
    have ih : i < n → ∃ r, value_Name.l0 k s n (i + 1) = some r := fun hi => name_some k s n (i + 1) (by omega) hn h24 (by omega)
    unfold value_Name.l0
    by_cases hi : i < n
    · rw [if_pos hi, if_pos h0, if_pos (by omega)]
      rcases hw with hw | hw
      · rw [hw]
        obtain ⟨r, hr⟩ := ih hi
        repeat' split
        all_goals first | exact ⟨_, rfl⟩ | exact ⟨r, hr⟩
      · exact absurd hi hw
    · rw [if_neg hi]
      exact ⟨_, rfl⟩
theorem name_f (s : ByteArray) : ∃ r, value_Name.f 60 s = some r ∧ (s.toList = [] → r = false) := by
  unfold value_Name.f
  by_cases h0 : s.toList = []
  · rw [if_pos h0]
    exact ⟨false, rfl, fun _ => rfl⟩
  · rw [if_neg h0]
    have hs : 0 < (s.size : Int) := by
      rw [ByteArray.toList_eq] at h0
      have : s.data.toList.length ≠ 0 := fun e => h0 (List.eq_nil_of_length_eq_zero e)
      rw [Array.length_toList] at this
      have h2 : s.size = s.data.size := rfl
      omega
    by_cases h1 : (s.size : Int) > 24
    · rw [if_pos h1]
      exact ⟨false, rfl, fun h => absurd h h0⟩
    · rw [if_neg h1, if_pos hs]
      have hl := name_some 59 s s.size 0 (by omega) rfl (by omega) (by omega)
      obtain ⟨r, hr⟩ := hl
      have hj : ∀ b, ∃ r, value_Name.j0 60 s b = some r := fun b => by
        rw [show value_Name.j0 60 s b = if b = true then some false else value_Name.l0 59 s (s.size : Int) 0 from rfl]
        split
        · exact ⟨_, rfl⟩
        · exact ⟨r, hr⟩
      split
      · obtain ⟨r, h⟩ := hj true
        exact ⟨r, h, fun h => absurd h h0⟩
      · obtain ⟨r, h⟩ := hj (decide (bt s 0 > 122))
        exact ⟨r, h, fun h => absurd h h0⟩
theorem ite_some {c : Prop} [Decidable c] {a b : Option Bool} (ha : ∃ r, a = some r) (hb : ∃ r, b = some r) : ∃ r, (if c then a else b) = some r := by
  split <;> assumption
theorem kw_f (s : ByteArray) : ∃ r, token_Keyword.f s = some r := by
  unfold token_Keyword.f
  repeat (first | exact ⟨_, rfl⟩ | refine ite_some ⟨_, rfl⟩ ?_)
/-- A word of one's own. -/
def ownB (s : ByteArray) : Bool := (tree_own.f 60 s).getD false
theorem own_f (s : ByteArray) : tree_own.f 60 s = some (ownB s) := by
  obtain ⟨r, h, _⟩ := name_f s
  obtain ⟨q, hq⟩ := kw_f s
  unfold ownB tree_own.f
  rw [h]
  cases r
  · rfl
  · simp only [Option.bind_some, if_true]
    rw [hq]
    rfl
theorem own_ne {s : ByteArray} (h : ownB s = true) : s.data.toList ≠ [] := by
  intro e
  obtain ⟨r, h1, h2⟩ := name_f s
  have h3 := h2 (by rw [ByteArray.toList_eq]; exact e)
  subst h3
  unfold ownB tree_own.f at h
  rw [h1] at h
  simp at h
def exprB (op : Int) : Bool := (decide (20 ≤ op) && decide (op ≤ 26)) || (decide (30 ≤ op) && decide (op ≤ 48)) || (decide (50 ≤ op) && decide (op ≤ 57))
theorem expr_iff (op : Int) : exprB op = true ↔ (20 ≤ op ∧ op ≤ 26) ∨ (30 ≤ op ∧ op ≤ 48) ∨ (50 ≤ op ∧ op ≤ 57) := by
  unfold exprB
  simp [or_assoc]
theorem expr_f (op : Int) : tree_Expression.f 5 op = some (exprB op) := by
  have e := expr_iff op
  unfold tree_Expression.f
  simp only [tree_Expression.j0, tree_Expression.j1]
  cases he : exprB op
  · have h1 : ¬ ((20 ≤ op ∧ op ≤ 26) ∨ (30 ≤ op ∧ op ≤ 48) ∨ (50 ≤ op ∧ op ≤ 57)) := fun h => by rw [e.2 h] at he; cases he
    repeat' split
    all_goals first | rfl | (exfalso; simp only [decide_eq_true_eq, Bool.false_eq_true] at *; done) | (exfalso; simp only [decide_eq_true_eq, Bool.false_eq_true] at *; omega)
  · have h1 := e.1 he
    repeat' split
    all_goals first | rfl | (exfalso; simp only [decide_eq_true_eq, Bool.false_eq_true, not_false_eq_true] at *; done) | (exfalso; simp only [decide_eq_true_eq, Bool.false_eq_true, not_false_eq_true] at *; omega)
def textP (tx : Nat) (s : ByteArray) : Bool := if tx = 180 then ownB s else if tx = 183 then s.toList == ([] : List UInt8) else decide ((s.size : Int) ≤ 4095)
def partP (pt : Nat) (i n op : Int) : Bool :=
  if pt = 181 then (decide (i < n - 1) && op == 2) || (i == n - 1 && op == 3)
  else if pt = 184 then decide (4 ≤ op) && decide (op ≤ 11)
  else if pt = 185 then (i == 0 && exprB op) || (decide (0 < i) && op == 3)
  else if pt = 187 then exprB op
  else if pt = 188 then op == 3 else false
/-! The walk. -/
def badP (F : Form) (may : Int → Bool) (x : S61) : Bool :=
  !may x.f0 || !textP F.1 x.f3 || decide (x.f1 < F.2.1) || decide (x.f1 > F.2.2.1) || (x.f0 != 23 && x.f2 != 0) || decide (x.f2 < 0)
def loopP (W : Int → Int → (Int → Bool) → Int → Int → Int × Int × Int) (pt : Nat) (n lv : Int) : Nat → Int → Int → Int → Int → Int × Int × Int
  | 0, i, nx, w, d => (nx, w, d)
  | r + 1, i, nx, w, d => if w < 0 then loopP W pt n lv r (i + 1) (W nx (lv + 1) (partP pt i n) w d).1 (W nx (lv + 1) (partP pt i n) w d).2.1 (W nx (lv + 1) (partP pt i n) w d).2.2 else (nx, w, d)
def walkP (ts : List S61) : Nat → Int → Int → (Int → Bool) → Int → Int → Int × Int × Int
  | 0, at_, lv, may, w, d => (at_, w, d)
  | f + 1, at_, lv, may, w, d =>
    if at_ ≥ ts.length then (at_, ts.length, d)
    else match formOf (rd_T61 ts at_).f0 with
      | none => (at_, at_, d)
      | some F => if badP F may (rd_T61 ts at_) = true then (at_, at_, d)
        else loopP (walkP ts f) F.2.2.2 (rd_T61 ts at_).f1 lv (rd_T61 ts at_).f1.toNat 0 (at_ + 1) w (if lv > 40 ∧ d < 0 then at_ else d)
def InB (ts : List S61) (lo : Int) (r : Int × Int × Int) : Prop := lo ≤ r.1 ∧ r.1 ≤ ts.length ∧ -1 ≤ r.2.1 ∧ r.2.1 ≤ ts.length ∧ -1 ≤ r.2.2 ∧ r.2.2 ≤ ts.length
theorem loop_bd {ts : List S61} {W : Int → Int → (Int → Bool) → Int → Int → Int × Int × Int} (hW : ∀ nx lv may w d, 0 ≤ nx → InB ts nx (nx, w, d) → InB ts nx (W nx lv may w d)) (pt : Nat) (n lv : Int) :
    ∀ (r : Nat) (i nx w d : Int), 0 ≤ nx → InB ts nx (nx, w, d) → InB ts nx (loopP W pt n lv r i nx w d)
  | 0, i, nx, w, d, h0, h => h
  | r + 1, i, nx, w, d, h0, h => by
    unfold loopP
    split
    · obtain ⟨a1, a2, a3, a4, a5, a6⟩ := hW nx (lv + 1) (partP pt i n) w d h0 h
      obtain ⟨b1, b2, b3, b4, b5, b6⟩ := loop_bd hW pt n lv r (i + 1) (W nx (lv + 1) (partP pt i n) w d).1 (W nx (lv + 1) (partP pt i n) w d).2.1 (W nx (lv + 1) (partP pt i n) w d).2.2 (by omega) ⟨Int.le_refl _, a2, a3, a4, a5, a6⟩
      exact ⟨by omega, b2, b3, b4, b5, b6⟩
    · exact h
theorem walk_bd (ts : List S61) : ∀ (f : Nat) (at_ lv : Int) (may : Int → Bool) (w d : Int), 0 ≤ at_ → InB ts at_ (at_, w, d) → InB ts at_ (walkP ts f at_ lv may w d)
  | 0, at_, lv, may, w, d, h0, h => h
  | f + 1, at_, lv, may, w, d, h0, h => by
    have hh := h
    unfold InB at hh
    dsimp only at hh
    unfold walkP
    split
    · unfold InB; dsimp only; omega
    · rename_i hlt
      split
      · unfold InB; dsimp only; omega
      · split
        · unfold InB; dsimp only; omega
        · rename_i F _ _
          obtain ⟨b1, b2, b3, b4, b5, b6⟩ := loop_bd (ts := ts) (W := walkP ts f) (fun nx lv may w d a b => walk_bd ts f nx lv may w d a b) F.2.2.2 (rd_T61 ts at_).f1 lv (rd_T61 ts at_).f1.toNat 0 (at_ + 1) w (if lv > 40 ∧ d < 0 then at_ else d) (by omega) (by unfold InB; dsimp only; split <;> omega)
          exact ⟨by omega, b2, b3, b4, b5, b6⟩
end Go.Proofs.Ytobgijpbfmpdaaa.Tb
