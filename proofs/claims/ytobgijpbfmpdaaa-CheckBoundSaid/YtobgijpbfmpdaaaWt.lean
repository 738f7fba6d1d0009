/- What tree.Check lets pass is a tree. -/
import Derived.Test.YtobgijpbfmpdaaaCh
import Derived.Test.YtobgijpbfmpdaaaSl
set_option linter.unusedVariables false
set_option linter.unusedSimpArgs false
set_option maxRecDepth 100000
namespace Go.Proofs.Ytobgijpbfmpdaaa.Tb
open Go.RowKit Go.Proofs.YtobgijpbfmpdaaaW.PrintWords
open Go.Proofs.Ytobgijpbfmpdaaa.PCk Go.Proofs.Ytobgijpbfmpdaaa.Ck
/-- The table of forms says what fine says. -/
def agree (op : Int) : Bool :=
  match formOf op with
  | none => true
  | some F => (exprOp op || stmtOp op || (decide (1 ≤ op) && decide (op ≤ 3))) && (F.2.1 == leastOp op) && (F.2.2.1 == mostOp op) &&
    (F.1 == if namedOp op then 180 else if op = 24 then 186 else 183) &&
    (F.2.2.2 == if op = 1 then 181 else if op = 3 then 184 else if op = 6 ∨ op = 7 then 185 else if op = 53 then 188 else if mostOp op = 0 then 182 else 187)

theorem agrees {op : Int} (h0 : 0 ≤ op) (h1 : op < 256) : agree op = true := all256 (p := agree) (by decide +kernel) op h0 h1
theorem exprOp_eq (op : Int) : exprOp op = exprB op := rfl
theorem bad_fine {x : S61} {F : Form} {may : Int → Bool} (hx : TwOk x) (hF : formOf x.f0 = some F) (hb : badP F may x = false) : fine ownB x = true ∧ may x.f0 = true := by
  have ha := agrees hx.1.1 hx.1.2
  unfold agree at ha
  rw [hF] at ha
  simp only [Bool.and_eq_true, beq_iff_eq] at ha
  obtain ⟨⟨⟨⟨a1, a2⟩, a3⟩, a4⟩, a5⟩ := ha
  unfold badP at hb
  simp only [Bool.or_eq_false_iff, Bool.not_eq_false', decide_eq_false_iff_not] at hb
  obtain ⟨⟨⟨⟨⟨b1, b2⟩, b3⟩, b4⟩, b5⟩, b6⟩ := hb
  refine ⟨?_, b1⟩
  unfold fine
  rw [a1, ← a2, ← a3]
  have ht : (if namedOp x.f0 = true then ownB x.f3 else if x.f0 = 24 then decide (x.f3.size ≤ 4095) else x.f3.size == 0) = true := by
    rw [a4] at b2
    unfold textP at b2
    by_cases hn : namedOp x.f0 = true
    · rw [if_pos hn]
      rw [if_pos (by rw [if_pos hn])] at b2
      exact b2
    · rw [if_neg hn]
      rw [if_neg hn] at b2
      by_cases h24 : x.f0 = 24
      · rw [if_pos h24]
        rw [if_neg (by rw [if_pos h24]; decide), if_neg (by rw [if_pos h24]; decide)] at b2
        simp only [decide_eq_true_eq] at b2 ⊢
        omega
      · rw [if_neg h24]
        rw [if_neg (by rw [if_neg h24]; decide), if_pos (by rw [if_neg h24])] at b2
        rw [beq_iff_eq, ByteArray.toList_eq] at b2
        have : x.f3.data.toList.length = 0 := by rw [b2]; rfl
        rw [Array.length_toList] at this
        exact beq_iff_eq.2 this
  rw [ht]
  have h5 : (x.f0 == 23 || x.f2 == 0) = true := by
    simp only [Bool.and_eq_false_iff] at b5
    rcases b5 with b5 | b5
    · simp only [bne_eq_false_iff_eq] at b5; simp [b5]
    · simp only [bne_eq_false_iff_eq] at b5; simp [b5]
  rw [h5]
  simp only [Bool.true_and, Bool.and_eq_true, decide_eq_true_eq, Bool.and_true]
  omega
theorem part_eq {x : S61} {F : Form} (hx : TwOk x) (hF : formOf x.f0 = some F) (hb : x.f1 ≤ F.2.2.1) {i op : Int} (h0 : 0 ≤ i) (hi : i < x.f1) (hp : partP F.2.2.2 i x.f1 op = true) : Ck.part x.f0 x.f1 i op = true := by
  have ha := agrees hx.1.1 hx.1.2
  unfold agree at ha
  rw [hF] at ha
  simp only [Bool.and_eq_true, beq_iff_eq] at ha
  obtain ⟨⟨⟨⟨a1, a2⟩, a3⟩, a4⟩, a5⟩ := ha
  rw [a5] at hp
  rw [a3] at hb
  unfold Ck.part
  by_cases c1 : x.f0 = 1
  · rw [if_pos c1] at hp ⊢
    unfold partP at hp
    rw [if_pos rfl] at hp
    simp only [Bool.or_eq_true, Bool.and_eq_true, decide_eq_true_eq, beq_iff_eq] at hp
    split <;> simp only [beq_iff_eq] <;> omega
  rw [if_neg c1] at hp ⊢
  by_cases c3 : x.f0 = 3
  · rw [if_pos c3] at hp ⊢
    unfold partP at hp
    rw [if_neg (by decide), if_pos rfl] at hp
    exact hp
  rw [if_neg c3] at hp ⊢
  by_cases c6 : x.f0 = 6 ∨ x.f0 = 7
  · rw [if_pos c6] at hp ⊢
    unfold partP at hp
    rw [if_neg (by decide), if_neg (by decide), if_pos rfl] at hp
    simp only [Bool.or_eq_true, Bool.and_eq_true, decide_eq_true_eq, beq_iff_eq] at hp
    rw [exprOp_eq]
    split
    · simp only [beq_iff_eq]; omega
    · rcases hp with hp | hp
      · exact hp.2
      · omega
  rw [if_neg c6] at hp ⊢
  by_cases c53 : x.f0 = 53
  · rw [if_pos c53] at hp ⊢
    unfold partP at hp
    rw [if_neg (by decide), if_neg (by decide), if_neg (by decide), if_neg (by decide), if_pos rfl] at hp
    exact hp
  rw [if_neg c53] at hp ⊢
  rw [if_neg (show ¬ mostOp x.f0 = 0 by omega)] at hp
  unfold partP at hp
  rw [if_neg (by decide), if_neg (by decide), if_neg (by decide), if_pos rfl] at hp
  exact hp
theorem walk_tree {ts : List S61} (hts : ∀ x ∈ ts, TwOk x) : ∀ (f : Nat) (at_ lv : Int) (may : Int → Bool) (w d : Int), 0 ≤ at_ → (ts.length : Int) - at_ + 1 ≤ f → InB ts at_ (at_, w, d) → (walkP ts f at_ lv may w d).2.1 < 0 →
    ∃ T, ts.drop at_.toNat = flat T ++ ts.drop (walkP ts f at_ lv may w d).1.toNat ∧ right ownB T = true ∧ may T.top.f0 = true
  | 0, at_, lv, may, w, d, h0, hf, hb, hw => by
    unfold InB at hb
    dsimp only at hb
    omega
  | f + 1, at_, lv, may, w, d, h0, hf, hb, hw => by
    have hbb := hb
    unfold InB at hbb
    dsimp only at hbb
    unfold walkP at hw ⊢
    by_cases hge : at_ ≥ (ts.length : Int)
    · rw [if_pos hge] at hw; dsimp only at hw; omega
    rw [if_neg hge] at hw ⊢
    obtain ⟨x, hx⟩ : ∃ x, x = rd_T61 ts at_ := ⟨_, rfl⟩
    have hxo : TwOk x := by rw [hx]; exact tw_mem hts h0 (by omega)
    rw [← hx] at hw ⊢
    cases hF : formOf x.f0 with
    | none => rw [hF] at hw; dsimp only at hw; omega
    | some F =>
      rw [hF] at hw
      dsimp only at hw ⊢
      cases hbad : badP F may x with
      | true => rw [hbad] at hw; simp only [if_true] at hw; omega
      | false =>
        rw [hbad] at hw
        simp only [Bool.false_eq_true, if_false] at hw ⊢
        obtain ⟨hfine, hmay⟩ := bad_fine hxo hF hbad
        have hmo : x.f1 ≤ F.2.2.1 ∧ 0 ≤ x.f1 := by
          have h1 := hbad
          have h2 := form_ok hxo.1.1 hxo.1.2 hF
          unfold FormOk at h2
          unfold badP at h1
          simp only [Bool.or_eq_false_iff, Bool.not_eq_false', decide_eq_false_iff_not, Bool.and_eq_true, decide_eq_true_eq] at h1 h2
          omega
        obtain ⟨d1, hd1⟩ : ∃ d1, d1 = (if lv > 40 ∧ d < 0 then at_ else d) := ⟨_, rfl⟩
        rw [← hd1] at hw ⊢
        have hloop : ∀ (r : Nat) (i nx w d : Int), 0 ≤ i → i + r = x.f1 → at_ + 1 ≤ nx → InB ts nx (nx, w, d) → (loopP (walkP ts f) F.2.2.2 x.f1 lv r i nx w d).2.1 < 0 →
            ∃ ks : List Tr, ts.drop nx.toNat = flats ks ++ ts.drop (loopP (walkP ts f) F.2.2.2 x.f1 lv r i nx w d).1.toNat ∧ (ks.length : Int) = r ∧ rights ownB x.f0 x.f1 i ks = true := by
          intro r
          induction r with
          | zero => intro i nx w d _ _ _ _ _; exact ⟨[], by simp [flats, loopP], rfl, rfl⟩
          | succ r ihr =>
            intro i nx w d hi hr hnx hin hneg
            unfold loopP at hneg ⊢
            have hinn := hin
            unfold InB at hinn
            dsimp only at hinn
            by_cases hw0 : w < 0
            · rw [if_pos hw0] at hneg ⊢
              have hbd := walk_bd ts f nx (lv + 1) (partP F.2.2.2 i x.f1) w d (by omega) hin
              have ihT := walk_tree hts f nx (lv + 1) (partP F.2.2.2 i x.f1) w d (by omega) (by omega) hin
              obtain ⟨z, hz⟩ : ∃ z, z = walkP ts f nx (lv + 1) (partP F.2.2.2 i x.f1) w d := ⟨_, rfl⟩
              rw [← hz] at hneg hbd ihT ⊢
              obtain ⟨n2, w2, d2⟩ := z
              unfold InB at hbd
              dsimp only at hneg hbd ihT ⊢
              have hw2 : w2 < 0 := by
                by_cases hw2 : w2 < 0
                · exact hw2
                · exfalso
                  cases r with
                  | zero => simp only [loopP] at hneg; exact hw2 hneg
                  | succ r => unfold loopP at hneg; rw [if_neg hw2] at hneg; exact hw2 hneg
              obtain ⟨T, t1, t2, t3⟩ := ihT hw2
              obtain ⟨ks, k1, k2, k3⟩ := ihr (i + 1) n2 w2 d2 (by omega) (by omega) (by omega) (by unfold InB; dsimp only; omega) hneg
              refine ⟨T :: ks, by rw [t1, k1]; simp [flats], by simp only [List.length_cons]; omega, ?_⟩
              unfold rights
              rw [part_eq hxo hF hmo.1 hi (by omega) t3, t2, k3]
              rfl
            · rw [if_neg hw0] at hneg
              exact absurd hneg hw0
        obtain ⟨ks, k1, k2, k3⟩ := hloop x.f1.toNat 0 (at_ + 1) w d1 (Int.le_refl _) (by omega) (Int.le_refl _) (by unfold InB; dsimp only; rw [hd1]; split <;> omega) hw
        refine ⟨.node x ks, ?_, ?_, hmay⟩
        · have hl : at_.toNat < ts.length := by omega
          rw [List.drop_eq_getElem_cons hl, show at_.toNat + 1 = (at_ + 1).toNat by omega, k1]
          have : ts[at_.toNat] = x := by
            rw [hx]; unfold rd_T61
            rw [List.getD_eq_getElem?_getD, List.getElem?_eq_getElem hl]; rfl
          rw [this]
          simp [flat]
        · unfold right
          rw [hfine, k3]
          simp only [Bool.true_and, Bool.and_true, beq_iff_eq]
          omega
/-- No error: the twigs are one tree that is right. -/
theorem check_tree {ts : List S61} (hts : ∀ x ∈ ts, TwOk x) (h : (checkP ts).2 = 0) : ∃ T, ts = flat T ∧ right ownB T = true ∧ ts.length ≤ 2048 := by
  unfold checkP at h
  split at h
  · simp at h
  rename_i hl
  split at h
  · simp at h
  rename_i h1
  split at h
  · simp at h
  rename_i h2
  have hb : InB ts 0 (0, -1, -1) := by unfold InB; dsimp only; omega
  obtain ⟨T, t1, t2, t3⟩ := walk_tree hts (ts.length + 1) 0 1 (fun _ => true) (-1) (-1) (Int.le_refl _) (by omega) hb (by unfold walk0 at h1; omega)
  have hbd := walk_bd ts (ts.length + 1) 0 1 (fun _ => true) (-1) (-1) (Int.le_refl _) hb
  unfold InB at hbd
  unfold walk0 at h2
  refine ⟨T, ?_, t2, by omega⟩
  rw [Int.toNat_zero, List.drop_zero] at t1
  rw [t1, List.drop_of_length_le (by omega), List.append_nil]
theorem check_zero {ts : List S61} : (checkP ts).2 = 0 ∨ (checkP ts).2 = 2 ∨ (checkP ts).2 = 3 := by
  unfold checkP
  repeat' split
  all_goals simp
end Go.Proofs.Ytobgijpbfmpdaaa.Tb
