/- check.Slots as a plain function: trees, the walk, what it tells. -/
import Derived.Test.YtobgijpbfmpdaaaKs
import Derived.Test.YtobgijpbfmpdaaaPCkx0
set_option linter.unusedVariables false
set_option linter.unusedSimpArgs false
set_option linter.unusedSectionVars false
namespace Go.Proofs.Ytobgijpbfmpdaaa.Ck
open Go.Proofs.Ytobgijpbfmpdaaa Go.Proofs.Ytobgijpbfmpdaaa.Mp Go.Proofs.Ytobgijpbfmpdaaa.PCk
/-! Trees: a twig, and behind it its parts. -/
def key (x : S61) : Ky := x.f3.data.toList
inductive Tr where
  | node (x : S61) (ks : List Tr)
mutual
def flat : Tr → List S61
  | .node x ks => x :: flats ks
def flats : List Tr → List S61
  | [] => []
  | k :: r => flat k ++ flats r
end
def Tr.top : Tr → S61
  | .node x _ => x
theorem flat_pos (T : Tr) : 0 < (flat T).length := by cases T; simp [flat]
def exprOp (op : Int) : Bool := (decide (20 ≤ op) && decide (op ≤ 26)) || (decide (30 ≤ op) && decide (op ≤ 48)) || (decide (50 ≤ op) && decide (op ≤ 57))
def stmtOp (op : Int) : Bool := decide (4 ≤ op) && decide (op ≤ 11)
def namedOp (op : Int) : Bool := op == 1 || op == 2 || op == 4 || op == 5 || op == 26 || op == 56 || op == 50 || op == 51
def part (up n i op : Int) : Bool :=
  if up = 1 then (if i = n - 1 then op == 3 else op == 2)
  else if up = 3 then stmtOp op
  else if up = 6 ∨ up = 7 then (if 0 < i then op == 3 else exprOp op)
  else if up = 53 then op == 3
  else exprOp op
def leastOp (op : Int) : Int :=
  if op = 2 ∨ op = 3 ∨ (20 ≤ op ∧ op ≤ 26) ∨ op = 50 ∨ op = 51 ∨ op = 56 ∨ op = 57 then 0
  else if op = 6 ∨ op = 7 ∨ (30 ≤ op ∧ op ≤ 42) then 2 else 1
def mostOp (op : Int) : Int :=
  if op = 1 ∨ op = 3 ∨ op = 25 ∨ op = 50 ∨ op = 51 then 2048 else if op = 6 then 3 else leastOp op
def fine (own : ByteArray → Bool) (x : S61) : Bool :=
  (exprOp x.f0 || stmtOp x.f0 || (decide (1 ≤ x.f0) && decide (x.f0 ≤ 3))) &&
  (if namedOp x.f0 then own x.f3 else if x.f0 = 24 then decide (x.f3.size ≤ 4095) else x.f3.size == 0) &&
  decide (0 ≤ x.f2) && (x.f0 == 23 || x.f2 == 0) && decide (leastOp x.f0 ≤ x.f1) && decide (x.f1 ≤ mostOp x.f0)
mutual
def right (own : ByteArray → Bool) : Tr → Bool
  | .node x ks => fine own x && (x.f1 == (ks.length : Int)) && rights own x.f0 x.f1 0 ks
def rights (own : ByteArray → Bool) (up n i : Int) : List Tr → Bool
  | [] => true
  | k :: r => part up n i k.top.f0 && right own k && rights own up n (i + 1) r
end
/-! The walk of check.Slots. -/
def makes (x : S61) : Bool := x.f0 == 2 || x.f0 == 4
def uses (x : S61) : Bool := x.f0 == 5 || x.f0 == 26
structure St where
  seen : List (Ky × Int)
  out : List Int
  next : Nat
  made : Nat
  fault : Int
def enterS (s : St) (k : Ky) : St :=
  { s with fault := if (get s.seen k).isSome then 111 else if s.made = 100 then 2 else s.fault, out := s.out ++ [(s.made : Int)], made := s.made + 1 }
def headS (x : S61) (s : St) : St :=
  if makes x then enterS s (key x)
  else if uses x then { s with fault := if (get s.seen (key x)).isSome then s.fault else 110, out := s.out ++ [(get s.seen (key x)).getD 0] }
  else { s with out := s.out ++ [-1] }
def tellS (x : S61) (s : St) : Ky × Int := if makes x then (key x, (s.made : Int)) else ([], -1)
def dels (m : List (Ky × Int)) (l : List Ky) : List (Ky × Int) := l.foldl del m
mutual
def slT : Tr → St → St × (Ky × Int)
  | .node x ks, s =>
    if (headS x s).fault ≠ 0 then (headS x s, ([], -1)) else
    ({ (slK ks { headS x s with next := s.next + 1 } []).1 with seen := dels (slK ks { headS x s with next := s.next + 1 } []).1.seen (slK ks { headS x s with next := s.next + 1 } []).2 }, tellS x s)
def slK : List Tr → St → List Ky → St × List Ky
  | [], s, mine => (s, mine)
  | k :: r, s, mine =>
    if s.fault ≠ 0 then (s, mine) else
    if (slT k s).2.1 ≠ [] ∧ (slT k s).1.fault = 0 then slK r { (slT k s).1 with seen := put (slT k s).1.seen (slT k s).2.1 (slT k s).2.2 } (mine ++ [(slT k s).2.1])
    else slK r (slT k s).1 mine
end
def init : St := ⟨[], [], 0, 0, 0⟩
/-! What check.Slots tells: each name means a variable of that name. -/
/-- A run over twigs and slots: the names of the variables that were made. -/
def bnd : List S61 → List Int → List Ky → Option (List Ky)
  | [], [], ns => some ns
  | x :: r, v :: l, ns =>
    if makes x then (if v = (ns.length : Int) ∧ ns.length < 100 then bnd r l (ns ++ [key x]) else none)
    else if uses x then (if 0 ≤ v ∧ v < (ns.length : Int) ∧ ns[v.toNat]? = some (key x) then bnd r l ns else none)
    else if v = -1 then bnd r l ns else none
  | _, _, _ => none
theorem bnd_app : ∀ {a : List S61} {o : List Int} {ns ns' : List Ky} {b : List S61} {p : List Int}, bnd a o ns = some ns' → bnd (a ++ b) (o ++ p) ns = bnd b p ns'
  | [], [], ns, ns', b, p, h => by
    simp only [bnd] at h
    cases h
    rfl
  | [], _ :: _, _, _, _, _, h => by simp [bnd] at h
  | _ :: _, [], _, _, _, _, h => by simp [bnd] at h
  | x :: r, v :: l, ns, ns', b, p, h => by
    simp only [bnd, List.cons_append] at h ⊢
    split at h <;> rename_i h1
    · rw [if_pos h1]
      split at h <;> rename_i h2
      · rw [if_pos h2]; exact bnd_app h
      · cases h
    · rw [if_neg h1]
      split at h <;> rename_i h3
      · rw [if_pos h3]
        split at h <;> rename_i h2
        · rw [if_pos h2]; exact bnd_app h
        · cases h
      · rw [if_neg h3]
        split at h <;> rename_i h2
        · rw [if_pos h2]; exact bnd_app h
        · cases h
def Inv (s : St) (ns : List Ky) : Prop := (s.made = ns.length ∧ s.made ≤ 100) ∧ ∀ k v, get s.seen k = some v → 0 ≤ v ∧ v < (ns.length : Int) ∧ ns[v.toNat]? = some k
theorem get_dels (m : List (Ky × Int)) : ∀ (l : List Ky) (k : Ky) (v : Int), get (dels m l) k = some v → get m k = some v := by
  intro l
  induction l generalizing m with
  | nil => intro k v h; exact h
  | cons a r ih =>
    intro k v h
    have h1 := ih (del m a) k v h
    by_cases hk : k = a
    · subst hk; rw [get_del_same] at h1; cases h1
    · rwa [get_del_other hk] at h1
def Good (ts : List S61) (s s' : St) (ns : List Ky) : Prop :=
  ∃ o ns', s'.out = s.out ++ o ∧ bnd ts o ns = some ns' ∧ Inv s' ns' ∧ s'.next = s.next + ts.length ∧ ∃ e, ns' = ns ++ e
theorem head_good (x : S61) (s : St) (ns : List Ky) (hi : Inv s ns) (hf : (headS x s).fault = 0) :
    ∃ v ns', (headS x s).out = s.out ++ [v] ∧ bnd [x] [v] ns = some ns' ∧ Inv (headS x s) ns' ∧ (headS x s).next = s.next ∧ (headS x s).seen = s.seen ∧ (∃ e, ns' = ns ++ e) ∧ (makes x = true → ns' = ns ++ [key x]) := by
  unfold headS at hf ⊢
  by_cases hm : makes x = true
  · rw [if_pos hm] at hf ⊢
    unfold enterS at hf ⊢
    dsimp only at hf ⊢
    have hlt : ns.length < 100 := by
      have h1 := hi.1
      split at hf
      · cases hf
      · split at hf
        · cases hf
        · omega
    refine ⟨_, ns ++ [key x], rfl, ?_, ⟨⟨by simp [hi.1.1], by have := hi.1; dsimp only; omega⟩, fun k v hg => ?_⟩, rfl, rfl, ⟨_, rfl⟩, fun _ => rfl⟩
    · simp only [bnd]
      rw [if_pos hm, if_pos ⟨by rw [hi.1.1], hlt⟩]
    · obtain ⟨h1, h2, h3⟩ := hi.2 k v hg
      refine ⟨h1, by simp; omega, ?_⟩
      rw [List.getElem?_append_left (by omega)]
      exact h3
  · rw [if_neg hm] at hf ⊢
    by_cases hu : uses x = true
    · rw [if_pos hu] at hf ⊢
      dsimp only at hf ⊢
      cases hg : get s.seen (key x) with
      | none => rw [hg] at hf; simp at hf
      | some v =>
        obtain ⟨h1, h2, h3⟩ := hi.2 _ v hg
        refine ⟨v, ns, rfl, ?_, ⟨hi.1, hi.2⟩, rfl, rfl, ⟨[], by simp⟩, fun h => absurd h hm⟩
        simp only [bnd]
        rw [if_neg hm, if_pos hu, if_pos ⟨h1, h2, h3⟩]
    · rw [if_neg hu] at hf ⊢
      refine ⟨-1, ns, rfl, ?_, ⟨hi.1, hi.2⟩, rfl, rfl, ⟨[], by simp⟩, fun h => absurd h hm⟩
      simp [bnd, hm, hu]
theorem inv_seen {s : St} {ns : List Ky} (hi : Inv s ns) {m : List (Ky × Int)} (h : ∀ k v, get m k = some v → get s.seen k = some v) : Inv { s with seen := m } ns := ⟨hi.1, fun k v hg => hi.2 k v (h k v hg)⟩
mutual
theorem slT_good : ∀ (T : Tr) (s : St) (ns : List Ky), Inv s ns → s.fault = 0 → (slT T s).1.fault = 0 →
    Good (flat T) s (slT T s).1 ns ∧ ((slT T s).2.1 = [] ∨ ((slT T s).2.2 = (ns.length : Int) ∧ ∃ e, (slT T s).1.made = ns.length + e ∧ 0 < e ∧ ∀ ns', bnd (flat T) ((slT T s).1.out.drop s.out.length) ns = some ns' → ns'[ns.length]? = some (slT T s).2.1))
  | .node x ks, s, ns, hi, h0, hf => by
    unfold slT at hf ⊢
    by_cases hh : (headS x s).fault ≠ 0
    · rw [if_pos hh] at hf; exact absurd hf hh
    · rw [if_neg hh] at hf ⊢
      have hh0 : (headS x s).fault = 0 := Decidable.not_not.1 hh
      obtain ⟨v, n1, e1, e2, e3, e4, e5, ⟨d1, e6⟩, e7⟩ := head_good x s ns hi hh0
      have hi1 : Inv { headS x s with next := s.next + 1 } n1 := ⟨e3.1, e3.2⟩
      have ih := slK_good ks { headS x s with next := s.next + 1 } n1 [] hi1 hh0
      generalize slK ks { headS x s with next := s.next + 1 } [] = z at ih hf ⊢
      obtain ⟨o, n2, f1, f2, f3, f4, d2, f5⟩ := ih hf
      dsimp only at f1 f4 hf ⊢
      have hb : bnd (flat (.node x ks)) (v :: o) ns = some n2 := by
        show bnd ([x] ++ flats ks) ([v] ++ o) ns = _
        rw [bnd_app e2]; exact f2
      refine ⟨⟨v :: o, n2, by rw [f1, e1]; simp, hb, inv_seen f3 (fun k w hg => get_dels _ _ _ _ hg), by rw [f4]; simp [flat]; omega, d1 ++ d2, by rw [f5, e6]; simp⟩, ?_⟩
      unfold tellS
      by_cases hm : makes x = true
      · rw [if_pos hm]
        right
        have e8 := e7 hm
        refine ⟨by rw [hi.1.1], 1 + d2.length, ?_, by omega, fun ns' hn => ?_⟩
        · show z.1.made = _
          rw [f3.1.1, f5, e8]; simp; omega
        · have : (s.out ++ (v :: o)).drop s.out.length = v :: o := by simp
          rw [show z.1.out = s.out ++ (v :: o) from by rw [f1, e1]; simp, this, hb] at hn
          cases hn
          rw [f5, e8]
          simp
      · rw [if_neg hm]; left; rfl
theorem slK_good : ∀ (l : List Tr) (s : St) (ns mine : List Ky), Inv s ns → s.fault = 0 → (slK l s mine).1.fault = 0 → Good (flats l) s (slK l s mine).1 ns
  | [], s, ns, mine, hi, h0, hf => ⟨[], ns, by simp [slK], rfl, hi, by simp [slK, flats], [], by simp⟩
  | k :: r, s, ns, mine, hi, h0, hf => by
    unfold slK at hf ⊢
    rw [if_neg (by simp [h0])] at hf ⊢
    by_cases hz : (slT k s).1.fault = 0
    · have ih := slT_good k s ns hi h0 hz
      obtain ⟨⟨o, n1, f1, f2, f3, f4, d1, f5⟩, g⟩ := ih
      have fin : ∀ s2 : St, s2.out = (slT k s).1.out → s2.next = (slT k s).1.next → ∀ m2, Good (flats r) s2 (slK r s2 m2).1 n1 → Good (flats (k :: r)) s (slK r s2 m2).1 ns := fun s2 h1 h2 m2 hg => by
        obtain ⟨o2, n2, i1, i2, i3, i4, d2, i5⟩ := hg
        refine ⟨o ++ o2, n2, by rw [i1, h1, f1]; simp, ?_, i3, by rw [i4, h2, f4]; simp [flats]; omega, d1 ++ d2, by rw [i5, f5]; simp⟩
        show bnd (flat k ++ flats r) (o ++ o2) ns = _
        rw [bnd_app f2]; exact i2
      by_cases hn : (slT k s).2.1 ≠ [] ∧ (slT k s).1.fault = 0
      · rw [if_pos hn] at hf ⊢
        refine fin { (slT k s).1 with seen := put (slT k s).1.seen (slT k s).2.1 (slT k s).2.2 } rfl rfl _ (slK_good r _ n1 _ ⟨f3.1, fun k' w hg => ?_⟩ hz hf)
        dsimp only at hg
        by_cases hk : k' = (slT k s).2.1
        · subst hk
          rw [get_put_same] at hg
          cases hg
          rcases g with g | ⟨g1, e, g2, g3, g4⟩
          · exact absurd g hn.1
          · have := g4 n1 (by rw [f1]; simpa using f2)
            rw [g1]
            refine ⟨by omega, ?_, by simpa using this⟩
            have := f3.1.1
            omega
        · rw [get_put_other hk] at hg
          exact f3.2 k' w hg
      · rw [if_neg hn] at hf ⊢
        exact fin (slT k s).1 rfl rfl _ (slK_good r _ n1 _ f3 hz hf)
    · rw [if_neg (fun h => hz h.2)] at hf
      exfalso
      cases r with
      | nil => exact hz hf
      | cons k2 r2 =>
        unfold slK at hf
        rw [if_pos hz] at hf
        exact hz hf
end
theorem head_next (x : S61) (s : St) : (headS x s).next = s.next := by
  unfold headS enterS
  split
  · rfl
  · split <;> rfl
mutual
theorem slT_next : ∀ (T : Tr) (s : St), s.next ≤ (slT T s).1.next ∧ (slT T s).1.next ≤ s.next + (flat T).length
  | .node x ks, s => by
    unfold slT
    by_cases hh : (headS x s).fault ≠ 0
    · rw [if_pos hh, head_next]; omega
    · rw [if_neg hh]
      have := slK_next ks { headS x s with next := s.next + 1 } []
      simp only [flat, List.length_cons] at this ⊢
      omega
theorem slK_next : ∀ (l : List Tr) (s : St) (mine : List Ky), s.next ≤ (slK l s mine).1.next ∧ (slK l s mine).1.next ≤ s.next + (flats l).length
  | [], s, mine => by simp [slK]
  | k :: r, s, mine => by
    unfold slK
    have h1 := slT_next k s
    simp only [flats, List.length_append]
    split
    · dsimp only; omega
    · split
      · have := slK_next r { (slT k s).1 with seen := put (slT k s).1.seen (slT k s).2.1 (slT k s).2.2 } (mine ++ [(slT k s).2.1])
        dsimp only at this
        omega
      · have := slK_next r (slT k s).1 mine
        omega
end
/-! Other names. -/
mutual
def renT (f : S61 → S61) : Tr → Tr
  | .node x ks => .node (f x) (renK f ks)
def renK (f : S61 → S61) : List Tr → List Tr
  | [] => []
  | k :: r => renT f k :: renK f r
end
mutual
theorem flat_ren (f : S61 → S61) : ∀ T : Tr, flat (renT f T) = (flat T).map f
  | .node x ks => by simp [renT, flat, flats_ren f ks]
theorem flats_ren (f : S61 → S61) : ∀ l : List Tr, flats (renK f l) = (flats l).map f
  | [] => rfl
  | k :: r => by simp [renK, flats, flat_ren f k, flats_ren f r]
end
def Alike (φ : Ky → Ky) (s u : St) : Prop := u.out = s.out ∧ u.next = s.next ∧ u.made = s.made ∧ u.fault = s.fault ∧ ∀ k, get u.seen (φ k) = get s.seen k
section
variable {φ : Ky → Ky} (hφ : ∀ a b, φ a = φ b → a = b) (h0 : ∀ a, φ a = [] ↔ a = []) {f : S61 → S61} (hf : ∀ x, (f x).f0 = x.f0 ∧ ((makes x || uses x) = true → key (f x) = φ (key x)))
include hφ hf
theorem ren_makes (x : S61) : makes (f x) = makes x ∧ uses (f x) = uses x := by unfold makes uses; rw [(hf x).1]; exact ⟨rfl, rfl⟩
theorem head_ren (x : S61) {s u : St} (h : Alike φ s u) : Alike φ (headS x s) (headS (f x) u) := by
  obtain ⟨h1, h2, h3, h4, h5⟩ := h
  obtain ⟨m1, m2⟩ := ren_makes hφ hf x
  unfold headS
  rw [m1, m2]
  by_cases hm : makes x = true
  · rw [if_pos hm, if_pos hm, ]
    have hk := (hf x).2 (by simp [hm])
    unfold enterS
    exact ⟨by simp [h1, h3], h2, by simp [h3], by simp [hk, h5, h3, h4], h5⟩
  · rw [if_neg hm, if_neg hm]
    by_cases hu : uses x = true
    · rw [if_pos hu, if_pos hu]
      have hk := (hf x).2 (by simp [hu])
      exact ⟨by simp [h1, hk, h5], h2, h3, by simp [hk, h5, h4], h5⟩
    · rw [if_neg hu, if_neg hu]
      exact ⟨by simp [h1], h2, h3, h4, h5⟩
theorem put_ren {m m' : List (Ky × Int)} (h : ∀ k, get m' (φ k) = get m k) (n : Ky) (v : Int) : ∀ k, get (put m' (φ n) v) (φ k) = get (put m n v) k := fun k => by
  by_cases hk : k = n
  · subst hk; rw [get_put_same, get_put_same]
  · rw [get_put_other hk, get_put_other (fun e => hk (hφ _ _ e)), h]
theorem dels_ren : ∀ (l : List Ky) {m m' : List (Ky × Int)} (h : ∀ k, get m' (φ k) = get m k), ∀ k, get (dels m' (l.map φ)) (φ k) = get (dels m l) k
  | [], m, m', h, k => h k
  | a :: r, m, m', h, k => dels_ren r (m := del m a) (m' := del m' (φ a)) (fun k => by
      by_cases hk : k = a
      · subst hk; rw [get_del_same, get_del_same]
      · rw [get_del_other hk, get_del_other (fun e => hk (hφ _ _ e)), h]) k
include h0
mutual
theorem slT_ren : ∀ (T : Tr) {s u : St}, Alike φ s u → Alike φ (slT T s).1 (slT (renT f T) u).1 ∧ (slT (renT f T) u).2 = (φ (slT T s).2.1, (slT T s).2.2)
  | .node x ks, s, u, h => by
    have hh := head_ren hφ hf x h
    have e0 : φ [] = [] := (h0 []).2 rfl
    unfold renT slT
    rw [hh.2.2.2.1]
    by_cases hz : (headS x s).fault ≠ 0
    · rw [if_pos hz, if_pos hz]
      exact ⟨hh, by rw [e0]⟩
    · rw [if_neg hz, if_neg hz]
      obtain ⟨g, g2⟩ := slK_ren ks (s := { headS x s with next := s.next + 1 }) (u := { headS (f x) u with next := u.next + 1 }) (mine := []) ⟨hh.1, by dsimp only; rw [h.2.1], hh.2.2.1, hh.2.2.2.1, hh.2.2.2.2⟩
      dsimp only at g ⊢
      refine ⟨⟨g.1, g.2.1, g.2.2.1, g.2.2.2.1, ?_⟩, ?_⟩
      · dsimp only
        rw [show ([] : List Ky) = List.map φ [] from rfl, g2]
        exact dels_ren hφ hf _ g.2.2.2.2
      · unfold tellS
        rw [(ren_makes hφ hf x).1]
        by_cases hm : makes x = true
        · rw [if_pos hm, if_pos hm, (hf x).2 (by simp [hm]), h.2.2.1]
        · rw [if_neg hm, if_neg hm, e0]
theorem slK_ren : ∀ (l : List Tr) {s u : St} {mine : List Ky}, Alike φ s u → Alike φ (slK l s mine).1 (slK (renK f l) u (mine.map φ)).1 ∧ (slK (renK f l) u (mine.map φ)).2 = (slK l s mine).2.map φ
  | [], s, u, mine, h => ⟨h, rfl⟩
  | k :: r, s, u, mine, h => by
    unfold renK slK
    rw [h.2.2.2.1]
    by_cases hz : s.fault ≠ 0
    · rw [if_pos hz, if_pos hz]; exact ⟨h, rfl⟩
    · rw [if_neg hz, if_neg hz]
      obtain ⟨g, g2⟩ := slT_ren k h
      rw [g2, g.2.2.2.1]
      dsimp only
      by_cases hn : (slT k s).2.1 ≠ [] ∧ (slT k s).1.fault = 0
      · rw [if_pos hn, if_pos ⟨fun e => hn.1 ((h0 _).1 e), hn.2⟩]
        rw [show List.map φ mine ++ [φ (slT k s).2.1] = List.map φ (mine ++ [(slT k s).2.1]) from by simp]
        exact slK_ren r ⟨g.1, g.2.1, g.2.2.1, g.2.2.2.1, put_ren hφ hf g.2.2.2.2 _ _⟩
      · rw [if_neg hn, if_neg (fun e => hn ⟨fun e2 => e.1 ((h0 _).2 e2), e.2⟩)]
        exact slK_ren r g
end
end
end Go.Proofs.Ytobgijpbfmpdaaa.Ck
