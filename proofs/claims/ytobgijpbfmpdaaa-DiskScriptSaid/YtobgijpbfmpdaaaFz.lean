/- DiskFuse: what is computed; two disks side by side. -/
import Derived.Test.YtobgijpbfmpdaaaCg
set_option linter.unusedVariables false
set_option maxRecDepth 100000
namespace Go.Proofs.Ytobgijpbfmpdaaa.Ls
open Go.RowKit Go.Proofs.YtobgijpbfmpdaaaW.PrintWords Go.Proofs.YtobgijpbfmpdaaaW.PrintLast Go.Proofs.YtobgijpbfmpdaaaW.PrintMore
open Go.Proofs.Ytobgijpbfmpdaaa.Fm Go.Proofs.Ytobgijpbfmpdaaa.Mp Go.Proofs.Ytobgijpbfmpdaaa.Dk Go.Proofs.Ytobgijpbfmpdaaa.PDp
theorem long_nm : ∀ (k : Nat) (xs : List S93) (i : Nat) (m : Int), prompterlaw25_long.l0 k xs m i = some false → ∀ j (h : j < xs.length), i ≤ j → xs[j].f1.size ≤ 100 ∧ xs[j].f2.size ≤ 100 := by
  intro k
  induction k using Nat.strongRecOn with
  | _ k ih =>
    intro xs i m h
    match k, ih, h with
    | 0, _, h => simp [prompterlaw25_long.l0] at h
    | 1, _, h => simp [prompterlaw25_long.l0, prompterlaw25_long.j1] at h
    | k + 2, ih, h =>
      simp only [prompterlaw25_long.l0, prompterlaw25_long.j1] at h
      by_cases h1 : (i : Int) < xs.length
      · rw [if_pos h1] at h
        by_cases h2 : (i : Int) < 80
        · rw [decide_eq_true h2, if_pos rfl, if_pos (by omega), if_pos h1] at h
          have hil : i < xs.length := by omega
          rw [rd_at xs i hil] at h
          split at h
          · cases h
          split at h
          · cases h
          rename_i h4
          split at h
          · cases h
          rename_i h5
          rw [show wrap64 ((i : Int) + 1) = ((i + 1 : Nat) : Int) from by rw [Mine.wrap64_in (by omega) (by omega)]; omega] at h
          intro j hj hij
          rcases Nat.eq_or_lt_of_le hij with e | e
          · subst e; exact ⟨by omega, by omega⟩
          · exact ih k (by omega) xs (i + 1) _ h j hj e
        · rw [decide_eq_false h2] at h
          simp at h
          exfalso; omega
      · intro j hj hij
        exfalso; omega
theorem long_f2 (xs : List S93) : ∃ r, prompterlaw25_long.f 162 xs = some r ∧ (r = false → tot xs ≤ 5000 ∧ ∀ x ∈ xs, x.f1.size ≤ 100 ∧ x.f2.size ≤ 100) := by
  obtain ⟨r, h, ht⟩ := long_f xs
  refine ⟨r, h, fun hr => ⟨ht hr, fun x hx => ?_⟩⟩
  subst hr
  obtain ⟨j, hj, rfl⟩ := List.mem_iff_getElem.1 hx
  exact long_nm _ xs 0 5000 h j hj (Nat.zero_le _)
def Good (F : Fls) (i m : Nat) : Prop := Ris F ∧ F.length ≤ i ∧ ∀ p ∈ F, p.2.2 ≤ p.2.1.length ∧ p.2.1.length ≤ m ∧ p.1.length ≤ 100
section
variable {F F' : Fls} {i m i' m' : Nat}
theorem Good.nil (i m : Nat) : Good [] i m := ⟨List.Pairwise.nil, Nat.zero_le _, by simp⟩
theorem Good.more (h : Good F i m) (hi : i ≤ i') (hm : m ≤ m') : Good F i' m' := ⟨h.1, Nat.le_trans h.2.1 hi, fun p hp => ⟨(h.2.2 p hp).1, Nat.le_trans (h.2.2 p hp).2.1 hm, (h.2.2 p hp).2.2⟩⟩
theorem Good.cur (h : Good F i m) (k : Ky) : (cur F k).2 ≤ (cur F k).1.length ∧ (cur F k).1.length ≤ m := by
  unfold Dk.cur
  cases hg : Mp.get F k with
  | none => simp
  | some c => exact ⟨(h.2.2 _ (mem_of_get hg)).1, (h.2.2 _ (mem_of_get hg)).2.1⟩
theorem Good.del (h : Good F i m) (k : Ky) : Good (Mp.del F k) i m := ⟨h.1.del k, Nat.le_trans (List.length_filter_le _ _) h.2.1, fun p hp => h.2.2 p (del_mem.1 hp).1⟩
theorem Good.put (h : Good F i m) (k : Ky) (c : Cont) (hk : k.length ≤ 100) (hc : c.2 ≤ c.1.length ∧ c.1.length ≤ m') (hm : m ≤ m') : Good (Mp.put F k c) (i + 1) m' := by
  refine ⟨h.1.put k c, Nat.le_trans (put_len F k c) (by have := h.2.1; omega), fun p hp => ?_⟩
  rcases ins_mem.1 hp with rfl | hp
  · exact ⟨hc.1, hc.2, hk⟩
  · have := h.2.2 p (del_mem.1 hp).1
    exact ⟨this.1, Nat.le_trans this.2.1 hm, this.2.2⟩
theorem del_len : ∀ {F : Fls}, Ris F → ∀ k, F.length ≤ (Mp.del F k).length + 1 := by
  intro F
  induction F with
  | nil => intro _ k; simp
  | cons p r ih =>
    intro h k
    obtain ⟨h1, h2⟩ := List.pairwise_cons.1 h
    by_cases hk : p.1 = k
    · have hd : Mp.del r k = r := by
        unfold Mp.del
        rw [List.filter_eq_self]
        intro q hq
        have := bb_ne (h1 q hq)
        rw [hk] at this
        simpa using fun e => this e.symm
      have : Mp.del (p :: r) k = r := by
        have : Mp.del (p :: r) k = Mp.del r k := by unfold Mp.del; rw [List.filter_cons_of_neg (by simp [hk])]
        rw [this, hd]
      rw [this]; simp
    · have : Mp.del (p :: r) k = p :: Mp.del r k := by unfold Mp.del; rw [List.filter_cons_of_pos (by simp [hk])]
      rw [this]
      have := ih h2 k
      simp only [List.length_cons]; omega
theorem put_len2 (h : Ris F) (k : Ky) (c : Cont) : F.length ≤ (Mp.put F k c).length := by
  have h1 := del_len h k
  have h2 : ∀ (x : Ky × Cont) (m : Fls), (ins x m).length = m.length + 1 := by
    intro x m
    induction m with
    | nil => rfl
    | cons p r ih =>
      unfold ins
      split
      · rfl
      · simp only [List.length_cons, ih]
  unfold Mp.put
  rw [h2]; omega
/-- What a last Append may have left. -/
def Lost (F F' : Fls) : Prop := F' = F ∨ ∃ k y, F' = Mp.put F k ((cur F k).1 ++ y, (cur F k).2)
theorem ch_true (z : Int) (F : Fls) (x : S93) : chF true z F x = (true, z, F, 250) := by
  unfold chF appR askR
  simp
/-- What a step comes to at a disk whose fuse still holds. -/
theorem ch_step (hG : Good F i m) (z : Int) (hz : 0 ≤ z) (x : S93) (hx : x.f1.size ≤ 100 ∧ x.f2.size ≤ 100) :
    chF false z F x = (false, z, F, 5) ∨ (0 < z ∧ ∃ F', chF false z F x = (false, z - 1, F', 0) ∧ chF false (-1) F x = (false, -1, F', 0) ∧ Good F' (i + 1) (m + x.f3.length)) ∨
      (z = 0 ∧ ∃ F', chF false z F x = (true, -1, F', 250) ∧ Lost F F' ∧ Good F' (i + 1) (m + x.f3.length)) := by
  have k1 : (key x.f1).length ≤ 100 := by simpa using hx.1
  have k2 : (key x.f2).length ≤ 100 := by simpa using hx.2
  have hg0 : Good F (i + 1) (m + x.f3.length) := hG.more (by omega) (by omega)
  have hc := hG.cur (key x.f1)
  have hmain : ∀ (late : Bool) (F' : Fls), Good F' (i + 1) (m + x.f3.length) → (late = true → Lost F F') → (0 < z ∧ ∃ F1, chgR late false z F F' = (false, z - 1, F1, 0) ∧ chgR late false (-1) F F' = (false, -1, F1, 0) ∧ Good F1 (i + 1) (m + x.f3.length)) ∨
      (z = 0 ∧ ∃ F1, chgR late false z F F' = (true, -1, F1, 250) ∧ Lost F F1 ∧ Good F1 (i + 1) (m + x.f3.length)) := by
    intro late F' hF' hl
    rcases (by omega : 0 < z ∨ z = 0) with h | h
    · left
      refine ⟨h, F', ?_, ?_, hF'⟩
      · unfold chgR; rw [if_neg (by omega), if_pos h]
      · unfold chgR; rw [if_neg (by omega), if_neg (by omega)]
    · right
      refine ⟨h, if late then F' else F, ?_, ?_, ?_⟩
      · unfold chgR; rw [if_pos h]
      · cases late
        · exact .inl rfl
        · exact hl rfl
      · cases late
        · exact hg0
        · exact hF'
  have hask : ∀ F' : Fls, Good F' (i + 1) (m + x.f3.length) → askR false z F F' (key x.f1) = (false, z, F, 5) ∨ (0 < z ∧ ∃ F1, askR false z F F' (key x.f1) = (false, z - 1, F1, 0) ∧ askR false (-1) F F' (key x.f1) = (false, -1, F1, 0) ∧ Good F1 (i + 1) (m + x.f3.length)) ∨
      (z = 0 ∧ ∃ F1, askR false z F F' (key x.f1) = (true, -1, F1, 250) ∧ Lost F F1 ∧ Good F1 (i + 1) (m + x.f3.length)) := by
    intro F' hF'
    unfold askR
    cases hs : (Mp.get F (key x.f1)).isSome
    · left; rfl
    · right
      exact hmain false F' hF' (fun h => by cases h)
  unfold chF
  split
  · right
    have := hmain true (Mp.put F (key x.f1) ((cur F (key x.f1)).1 ++ x.f3, (cur F (key x.f1)).2)) (hG.put _ _ k1 ⟨by simp only [List.length_append]; omega, by simp only [List.length_append]; omega⟩ (by omega)) (fun _ => .inr ⟨_, _, rfl⟩)
    exact this
  split
  · exact hask _ (hG.put _ _ k1 ⟨Nat.le_refl _, by simp only; omega⟩ (by omega))
  split
  · exact hask _ ((hG.del _).put _ _ k2 ⟨hc.1, by omega⟩ (by omega))
  · exact hask _ ((hG.del _).more (by omega) (by omega))
/-! ### A crash that keeps nothing -/
def cutC (c : Cont) : Cont := (c.1.take c.2, c.2)
theorem crash_nil (h : ∀ p ∈ F, p.2.2 ≤ p.2.1.length) : crashF [] F = F.map fun p => (p.1, cutC p.2) := by
  have hk : ∀ i c, keptN [] i c = 0 := fun i c => by unfold keptN; rw [if_neg (by simp)]
  have hall : ∀ (F : Fls), (∀ p ∈ F, p.2.2 ≤ p.2.1.length) → ∀ a : Fls × Nat, (F.foldl (crStep []) a).1 = a.1 ++ F.map fun p => (p.1, cutC p.2) := by
    intro F
    induction F with
    | nil => intro _ a; simp
    | cons p r ih =>
      intro h a
      rw [List.foldl_cons, ih (fun q hq => h q (List.mem_cons_of_mem _ hq))]
      have : (crStep [] a p).1 = a.1 ++ [(p.1, cutC p.2)] := by
        unfold crStep cutC
        split
        · rename_i h1
          obtain ⟨k, al, l⟩ := p
          dsimp only at h1 ⊢
          rw [h1, List.take_length]
        · rw [hk]; rfl
      rw [this]
      simp
  have := hall F h ([], 0)
  unfold crashF crS
  rw [this]; rfl
theorem get_map (F : Fls) (k : Ky) : Mp.get (F.map fun p => (p.1, cutC p.2)) k = (Mp.get F k).map cutC := by
  unfold Mp.get
  induction F with
  | nil => rfl
  | cons p r ih =>
    rw [List.map_cons, List.find?_cons, List.find?_cons]
    dsimp only
    cases p.1 == k
    · exact ih
    · rfl
theorem Good.crash (h : Good F i m) : Good (crashF [] F) i m := by
  rw [crash_nil (fun p hp => (h.2.2 p hp).1)]
  refine ⟨?_, by rw [List.length_map]; exact h.2.1, fun p hp => ?_⟩
  · exact ris_keys h.1 (by simp)
  · obtain ⟨q, hq, rfl⟩ := List.mem_map.1 hp
    have := h.2.2 q hq
    unfold cutC
    simp only [List.length_take]
    exact ⟨by omega, by omega, this.2.2⟩
theorem lost_len (h : Good F i m) (h' : Good F' i' m') (hl : Lost F F') : (crashF [] F).length ≤ (crashF [] F').length ∧ (crashF [] F').length ≤ (crashF [] F).length + 1 := by
  rw [crash_nil (fun p hp => (h.2.2 p hp).1), crash_nil (fun p hp => (h'.2.2 p hp).1), List.length_map, List.length_map]
  rcases hl with rfl | ⟨k, y, rfl⟩
  · exact ⟨Nat.le_refl _, Nat.le_succ _⟩
  · exact ⟨put_len2 h.1 _ _, put_len _ _ _⟩
theorem lost_read (h : Good F i m) (h' : Good F' i' m') (hl : Lost F F') (k : Ky) (c : Cont) (hm : (k, c) ∈ crashF [] F) : readR false (crashF [] F) k = (c.1, 0) ∧ readR false (crashF [] F') k = (c.1, 0) := by
  have hr := (h.crash).1
  have hg := get_mem hr hm
  dsimp only at hg
  have hh : Mp.get (crashF [] F) k = (Mp.get F k).map cutC := by rw [crash_nil (fun p hp => (h.2.2 p hp).1), get_map]
  have hh' : Mp.get (crashF [] F') k = (Mp.get F' k).map cutC := by rw [crash_nil (fun p hp => (h'.2.2 p hp).1), get_map]
  rw [hg] at hh
  obtain ⟨c0, hc0, hcc⟩ := Option.map_eq_some_iff.1 hh.symm
  have hg' : ∃ c1, Mp.get (crashF [] F') k = some c1 ∧ c1.1 = c.1 := by
    rw [hh']
    rcases hl with rfl | ⟨k1, y, rfl⟩
    · exact ⟨c, by rw [hc0]; exact congrArg some hcc, rfl⟩
    · by_cases e : k = k1
      · subst e
        rw [get_put_same]
        refine ⟨_, rfl, ?_⟩
        rw [← hcc]
        have hcu : cur F k = c0 := by unfold cur; rw [hc0]; rfl
        rw [hcu]
        unfold cutC
        have := (h.cur k).1
        rw [hcu] at this
        exact List.take_append_of_le_length this
      · rw [get_put_other e]
        exact ⟨c, by rw [hc0]; exact congrArg some hcc, rfl⟩
  obtain ⟨c1, h1, h2⟩ := hg'
  constructor
  · unfold readR cur; rw [hg]; rfl
  · unfold readR cur; rw [h1]
    show (c1.1, (0 : Int)) = _
    rw [h2]
end
end Go.Proofs.Ytobgijpbfmpdaaa.Ls
