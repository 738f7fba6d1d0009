/- Keys in order. -/
import Derived.Test.YtobgijpbfmpdaaaMp
set_option linter.unusedVariables false
namespace Go.Proofs.Ytobgijpbfmpdaaa.Mp
theorem bb_irrefl : ∀ a : Ky, bytesBefore a a = false
  | [] => rfl
  | x :: r => by
    have := bb_irrefl r
    simp [bytesBefore, this]
theorem bb_trans : ∀ {a b c : Ky}, bytesBefore a b = true → bytesBefore b c = true → bytesBefore a c = true
  | [], [], _, h, _ => by simp [bytesBefore] at h
  | [], _ :: _, [], _, h => by simp [bytesBefore] at h
  | [], _ :: _, _ :: _, _, _ => rfl
  | _ :: _, [], _, h, _ => by simp [bytesBefore] at h
  | _ :: _, _ :: _, [], _, h => by simp [bytesBefore] at h
  | a :: r, b :: s, c :: t, h1, h2 => by
    simp only [bytesBefore, Bool.or_eq_true, Bool.and_eq_true, decide_eq_true_eq, beq_iff_eq] at h1 h2 ⊢
    rcases h1 with h1 | ⟨rfl, h1⟩ <;> rcases h2 with h2 | ⟨rfl, h2⟩
    · exact .inl (UInt8.lt_trans h1 h2)
    · exact .inl h1
    · exact .inl h2
    · exact .inr ⟨rfl, bb_trans h1 h2⟩
theorem bb_total : ∀ {a b : Ky}, a ≠ b → bytesBefore a b = true ∨ bytesBefore b a = true
  | [], [], h => absurd rfl h
  | [], _ :: _, _ => .inl rfl
  | _ :: _, [], _ => .inr rfl
  | a :: r, b :: s, h => by
    simp only [bytesBefore, Bool.or_eq_true, Bool.and_eq_true, decide_eq_true_eq, beq_iff_eq]
    rcases UInt8.lt_or_lt_of_ne (a := a) (b := b) |> fun f => (Decidable.em (a = b)).imp id f with rfl | h1 | h1
    · have hrs : r ≠ s := fun e => h (by rw [e])
      rcases bb_total hrs with h2 | h2
      · exact .inl (.inr ⟨rfl, h2⟩)
      · exact .inr (.inr ⟨rfl, h2⟩)
    · exact .inl (.inl h1)
    · exact .inr (.inl h1)
theorem bb_ne {a b : Ky} (h : bytesBefore a b = true) : a ≠ b := fun e => by rw [e, bb_irrefl] at h; cases h
theorem bb_asymm {a b : Ky} (h : bytesBefore a b = true) : bytesBefore b a = false := by
  cases hb : bytesBefore b a
  · rfl
  · have := bb_trans h hb; rw [bb_irrefl] at this; cases this
theorem bb_lt : ∀ {a b : Ky}, bytesBefore a b = true ↔ a < b
  | [], [] => by simp [bytesBefore]
  | [], _ :: _ => by simp [bytesBefore]
  | _ :: _, [] => by simp [bytesBefore]
  | a :: r, b :: s => by
    have ih := @bb_lt r s
    simp only [bytesBefore, Bool.or_eq_true, Bool.and_eq_true, decide_eq_true_eq, beq_iff_eq, List.cons_lt_cons_iff, ih]
section
variable {α : Type}
/-- The list rises by key. -/
def Ris (m : List (Ky × α)) : Prop := m.Pairwise fun p q => bytesBefore p.1 q.1 = true
theorem Ris.del {m : List (Ky × α)} (h : Ris m) (k : Ky) : Ris (del m k) := List.Pairwise.filter _ h
theorem ins_mem {x p : Ky × α} : ∀ {m : List (Ky × α)}, p ∈ ins x m ↔ p = x ∨ p ∈ m
  | [] => by simp [ins]
  | y :: r => by
    unfold ins
    split
    · simp
    · have := @ins_mem x p r
      simp only [List.mem_cons, this]
      constructor
      · rintro (h | h | h) <;> simp [h]
      · rintro (h | h | h) <;> simp [h]
theorem ins_ris {x : Ky × α} : ∀ {m : List (Ky × α)}, Ris m → (∀ p ∈ m, p.1 ≠ x.1) → Ris (ins x m)
  | [], _, _ => by simp [ins, Ris]
  | y :: r, h, hn => by
    unfold ins
    have hy := hn y (by simp)
    obtain ⟨h1, h2⟩ := List.pairwise_cons.1 h
    split
    · rename_i hb
      refine List.pairwise_cons.2 ⟨fun p hp => ?_, h⟩
      rcases List.mem_cons.1 hp with rfl | hp
      · exact hb
      · exact bb_trans hb (h1 p hp)
    · rename_i hb
      refine List.pairwise_cons.2 ⟨fun p hp => ?_, ins_ris h2 (fun p hp => hn p (List.mem_cons_of_mem _ hp))⟩
      rcases ins_mem.1 hp with rfl | hp
      · rcases bb_total hy with h3 | h3
        · exact h3
        · exact absurd h3 hb
      · exact h1 p hp
theorem del_mem {m : List (Ky × α)} {k : Ky} {p : Ky × α} : p ∈ del m k ↔ p ∈ m ∧ p.1 ≠ k := by simp [del]
theorem Ris.put {m : List (Ky × α)} (h : Ris m) (k : Ky) (v : α) : Ris (put m k v) := ins_ris (h.del k) (fun p hp => (del_mem.1 hp).2)
theorem get_none {m : List (Ky × α)} {k : Ky} (h : ∀ p ∈ m, p.1 ≠ k) : get m k = none := by
  unfold get
  rw [List.find?_eq_none.2 (fun p hp => by simpa using h p hp)]; rfl
theorem get_del_same (m : List (Ky × α)) (k : Ky) : get (del m k) k = none := get_none (fun p hp => (del_mem.1 hp).2)
theorem get_del_other {m : List (Ky × α)} {k k' : Ky} (hne : k' ≠ k) : get (del m k) k' = get m k' := by
  unfold get del
  induction m with
  | nil => rfl
  | cons p r ih =>
    rw [List.filter_cons]
    by_cases hp : p.1 = k
    · have : (!(p.1 == k)) = false := by simp [hp]
      rw [if_neg (by simp [this]), ih, List.find?_cons]
      have : (p.1 == k') = false := by simp [hp, Ne.symm hne]
      rw [this]
    · have : (!(p.1 == k)) = true := by simp [hp]
      rw [if_pos this, List.find?_cons, List.find?_cons]
      cases p.1 == k'
      · exact ih
      · rfl
theorem get_ins_same {k : Ky} {v : α} : ∀ {m : List (Ky × α)}, (∀ p ∈ m, p.1 ≠ k) → get (ins (k, v) m) k = some v
  | [], _ => by simp [get, ins]
  | y :: r, h => by
    unfold ins
    split
    · simp [get]
    · have hy : (y.1 == k) = false := by simpa using h y (by simp)
      have ih := get_ins_same (v := v) (fun p hp => h p (List.mem_cons_of_mem _ hp))
      unfold get at ih ⊢
      rw [List.find?_cons, hy]
      exact ih
theorem get_ins_other {k k' : Ky} {v : α} (hne : k' ≠ k) : ∀ {m : List (Ky × α)}, get (ins (k, v) m) k' = get m k'
  | [] => by simp [get, ins, Ne.symm hne]
  | y :: r => by
    have hk : (k == k') = false := by simpa using Ne.symm hne
    unfold ins
    split
    · unfold get; rw [List.find?_cons]; simp only [hk]
    · have ih := get_ins_other (v := v) hne (m := r)
      unfold get at ih ⊢
      rw [List.find?_cons, List.find?_cons]
      cases y.1 == k'
      · exact ih
      · rfl
theorem get_put_same (m : List (Ky × α)) (k : Ky) (v : α) : get (put m k v) k = some v := get_ins_same (fun p hp => (del_mem.1 hp).2)
theorem get_put_other {m : List (Ky × α)} {k k' : Ky} {v : α} (hne : k' ≠ k) : get (put m k v) k' = get m k' := by
  unfold put; rw [get_ins_other hne, get_del_other hne]
theorem get_mem {m : List (Ky × α)} (h : Ris m) {p : Ky × α} (hp : p ∈ m) : get m p.1 = some p.2 := by
  induction m with
  | nil => cases hp
  | cons y r ih =>
    obtain ⟨h1, h2⟩ := List.pairwise_cons.1 h
    unfold get
    rw [List.find?_cons]
    rcases List.mem_cons.1 hp with rfl | hp
    · simp
    · have : (y.1 == p.1) = false := by simpa using bb_ne (h1 p hp)
      rw [this]
      exact ih h2 hp
theorem mem_of_get {m : List (Ky × α)} {k : Ky} {v : α} (h : get m k = some v) : (k, v) ∈ m := by
  unfold get at h
  obtain ⟨p, hp, rfl⟩ := Option.map_eq_some_iff.1 h
  have h1 := List.find?_some hp
  have h2 := List.mem_of_find?_eq_some hp
  have : p.1 = k := by simpa using h1
  rw [← this]; exact h2
theorem put_len (m : List (Ky × α)) (k : Ky) (v : α) : (put m k v).length ≤ m.length + 1 := by
  have h1 : ∀ (x : Ky × α) (l : List (Ky × α)), (ins x l).length = l.length + 1 := by
    intro x l
    induction l with
    | nil => rfl
    | cons y r ih => unfold ins; split <;> simp [ih]
  unfold put
  rw [h1]
  have := List.length_filter_le (fun p : Ky × α => !(p.1 == k)) m
  unfold del
  omega
/-- A permutation of rising keys, sorted, is the keys. -/
theorem sorted_keys {m : List (Ky × α)} (h : Ris m) {ss : List Ky} (hp : ss.Perm (m.map (·.1))) : ss.mergeSort (fun x y => decide (x ≤ y)) = m.map (·.1) := by
  have hle : ∀ a b : Ky, decide (a ≤ b) = true ↔ ¬ b < a := fun a b => by rw [decide_eq_true_eq]; exact Iff.rfl
  have htr : ∀ a b c : Ky, decide (a ≤ b) = true → decide (b ≤ c) = true → decide (a ≤ c) = true := fun a b c h1 h2 => by
    rw [decide_eq_true_eq] at *; exact List.le_trans h1 h2
  have hto : ∀ a b : Ky, (decide (a ≤ b) || decide (b ≤ a)) = true := fun a b => by
    simp only [Bool.or_eq_true, decide_eq_true_eq]; exact List.le_total a b
  refine List.Perm.eq_of_pairwise (le := fun a b : Ky => decide (a ≤ b) = true) (fun a b _ _ h1 h2 => ?_) (List.pairwise_mergeSort htr hto ss) ?_ ((List.mergeSort_perm ss _).trans hp)
  · rw [decide_eq_true_eq] at h1 h2
    exact List.le_antisymm h1 h2
  · refine List.pairwise_map.2 (List.Pairwise.imp (fun {p q} hpq => ?_) h)
    rw [hle, ← bb_lt, bb_asymm hpq]
    simp
end
end Go.Proofs.Ytobgijpbfmpdaaa.Mp
