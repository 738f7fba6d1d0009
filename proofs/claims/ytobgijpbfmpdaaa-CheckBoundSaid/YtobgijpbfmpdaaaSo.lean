/- check.Slots. -/
import Derived.Test.YtobgijpbfmpdaaaSw
set_option linter.unusedVariables false
set_option linter.unusedSimpArgs false
set_option maxRecDepth 100000
namespace Go.Proofs.Ytobgijpbfmpdaaa.Ck
open Go.RowKit Go.Proofs.YtobgijpbfmpdaaaW.PrintWords Go.Proofs.YtobgijpbfmpdaaaW.PrintLast Go.Proofs.YtobgijpbfmpdaaaW.PrintMore
open Go.Proofs.Ytobgijpbfmpdaaa.Fm Go.Proofs.Ytobgijpbfmpdaaa.Mp Go.Proofs.Ytobgijpbfmpdaaa.PCk Go.Proofs.Ytobgijpbfmpdaaa.Tb
set_option maxHeartbeats 16000000
theorem own_small {s : ByteArray} (h : ownB s = true) : s.size ≤ 24 := by
  by_cases hb : s.size ≤ 24
  · exact hb
  · exfalso
    have hv : value_Name.f 60 s = some false := by
      unfold value_Name.f
      have h0 : ¬ s.toList = [] := fun e => by
        rw [ByteArray.toList_eq] at e
        have h2 : s.size = s.data.toList.length := (Array.length_toList).symm
        rw [h2, e] at hb
        exact hb (by simp)
      rw [if_neg h0, if_pos (by omega)]
      rfl
    unfold ownB tree_own.f at h
    rw [hv] at h
    simp at h
theorem fine_small {x : S61} (h : fine ownB x = true) : x.f3.size ≤ maxLen := by
  unfold fine at h
  simp only [Bool.and_eq_true] at h
  have h2 := h.1.1.1.1.2
  have hm : (4095 : Nat) ≤ maxLen := by decide
  split at h2
  · have := own_small h2; omega
  · split at h2
    · have := of_decide_eq_true h2; omega
    · have := beq_iff_eq.1 h2; omega
mutual
theorem right_small : ∀ (Tn : Tr), right ownB Tn = true → ∀ x ∈ flat Tn, x.f3.size ≤ maxLen
  | .node y ks, h, x, hx => by
    unfold right at h
    simp only [Bool.and_eq_true] at h
    rcases List.mem_cons.1 hx with rfl | hx
    · exact fine_small h.1.1
    · exact rights_small ks _ _ _ h.2 x hx
theorem rights_small : ∀ (l : List Tr) (up n i : Int), rights ownB up n i l = true → ∀ x ∈ flats l, x.f3.size ≤ maxLen
  | [], _, _, _, _, x, hx => nomatch hx
  | k :: r, up, n, i, h, x, hx => by
    unfold rights at h
    simp only [Bool.and_eq_true] at h
    rcases List.mem_append.1 hx with hx | hx
    · exact right_small k h.1.2 x hx
    · exact rights_small r _ _ _ h.2 x hx
end
theorem rights_all : ∀ (l : List Tr) (up n i : Int), rights ownB up n i l = true → ∀ k ∈ l, right ownB k = true
  | [], _, _, _, _, k, hk => nomatch hk
  | a :: r, up, n, i, h, k, hk => by
    unfold rights at h
    simp only [Bool.and_eq_true] at h
    rcases List.mem_cons.1 hk with rfl | hk
    · exact h.1.2
    · exact rights_all r _ _ _ h.2 k hk
theorem flats_mem {l : List Tr} {k : Tr} (h : k ∈ l) : (flat k).length ≤ (flats l).length := by
  induction l with
  | nil => cases h
  | cons a r ih =>
    simp only [flats, List.length_append]
    rcases List.mem_cons.1 h with rfl | h
    · omega
    · have := ih h; omega
theorem arity_of : ∀ (f : Nat) (Tn : Tr), right ownB Tn = true → (flat Tn).length ≤ f → Arity f Tn
  | 0, Tn, _, hl => by have := flat_pos Tn; omega
  | f + 1, .node x ks, h, hl => by
    unfold right at h
    simp only [Bool.and_eq_true, beq_iff_eq] at h
    refine ⟨h.1.2, fun k hk => arity_of f k (rights_all ks _ _ _ h.2 k hk) ?_⟩
    have h1 := flats_mem hk
    simp only [flat, List.length_cons] at hl
    omega
theorem sv_start {W w1 : World} {A : Option Addr} {c : Nat} {ts : List S61} {cs0 : Array Value} (hC : Kd.C k61 W A ts.length ts) (hB : Below (W.alloc (.cells #[.slice A ts.length c] 53)).heap.size (W.alloc (.cells #[.slice A ts.length c] 53)) w1) (hcs : cs0.size = ts.length * 1) (hm : ts.length ≤ maxLen) :
    Sv W.heap.size (W.heap.size) (w1.heap.size) (w1.heap.size + 1) (w1.heap.size + 1 + 1) (w1.heap.size + 1 + 1 + 1 + 1) (w1.heap.size + 1 + 1 + 1 + 1 + 1) (w1.heap.size + 1 + 1 + 1 + 1 + 1 + 1) (w1.heap.size + 1 + 1 + 1 + 1 + 1 + 1 + 1) (w1.heap.size + 1 + 1 + 1 + 1 + 1 + 1 + 1 + 1) A c ts W (((((((((w1.alloc (.map #[] 0)).alloc (.cells #[.map (some (w1.heap.size))] 128)).alloc (.cells #[.int .i64 0] 3)).alloc (.cells cs0 3)).alloc (.cells #[.slice (some ⟨w1.heap.size + 1 + 1 + 1, 0, none⟩) 0 ts.length] 50)).alloc (.cells #[.int .i64 0] 3)).alloc (.cells #[.int .i64 0] 25)).alloc (.cells #[.func (.func 89) #[] #[.pointer (some ⟨w1.heap.size + 1, 0, none⟩), .pointer (some ⟨w1.heap.size + 1 + 1 + 1 + 1 + 1 + 1, 0, none⟩), .pointer (some ⟨w1.heap.size + 1 + 1, 0, none⟩), .pointer (some ⟨w1.heap.size + 1 + 1 + 1 + 1, 0, none⟩)]] 130)).alloc (.cells #[.func (.func 90) #[] #[.pointer (some ⟨W.heap.size, 0, none⟩), .pointer (some ⟨w1.heap.size + 1 + 1 + 1 + 1 + 1, 0, none⟩), .pointer (some ⟨w1.heap.size + 1 + 1, 0, none⟩), .pointer (some ⟨w1.heap.size + 1 + 1 + 1 + 1 + 1 + 1 + 1, 0, none⟩), .pointer (some ⟨w1.heap.size + 1, 0, none⟩), .pointer (some ⟨w1.heap.size + 1 + 1 + 1 + 1 + 1 + 1, 0, none⟩), .pointer (some ⟨w1.heap.size + 1 + 1 + 1 + 1, 0, none⟩), .pointer (some ⟨w1.heap.size + 1 + 1 + 1 + 1 + 1 + 1 + 1 + 1, 0, none⟩)]] 131)) init (.slice (some ⟨w1.heap.size + 1 + 1 + 1, 0, none⟩) 0 ts.length) 0 := by
  have hs : W.heap.size + 1 ≤ w1.heap.size := by have := hB.size; rw [World.size_alloc] at this; exact this
  have s1 : (w1.alloc (.map #[] 0)).heap.size = w1.heap.size + 1 := by rw [World.size_alloc]
  have s2 : ((w1.alloc (.map #[] 0)).alloc (.cells #[.map (some (w1.heap.size))] 128)).heap.size = w1.heap.size + 1 + 1 := by rw [World.size_alloc, s1]
  have s3 : (((w1.alloc (.map #[] 0)).alloc (.cells #[.map (some (w1.heap.size))] 128)).alloc (.cells #[.int .i64 0] 3)).heap.size = w1.heap.size + 1 + 1 + 1 := by rw [World.size_alloc, s2]
  have s4 : ((((w1.alloc (.map #[] 0)).alloc (.cells #[.map (some (w1.heap.size))] 128)).alloc (.cells #[.int .i64 0] 3)).alloc (.cells cs0 3)).heap.size = w1.heap.size + 1 + 1 + 1 + 1 := by rw [World.size_alloc, s3]
  have s5 : (((((w1.alloc (.map #[] 0)).alloc (.cells #[.map (some (w1.heap.size))] 128)).alloc (.cells #[.int .i64 0] 3)).alloc (.cells cs0 3)).alloc (.cells #[.slice (some ⟨w1.heap.size + 1 + 1 + 1, 0, none⟩) 0 ts.length] 50)).heap.size = w1.heap.size + 1 + 1 + 1 + 1 + 1 := by rw [World.size_alloc, s4]
  have s6 : ((((((w1.alloc (.map #[] 0)).alloc (.cells #[.map (some (w1.heap.size))] 128)).alloc (.cells #[.int .i64 0] 3)).alloc (.cells cs0 3)).alloc (.cells #[.slice (some ⟨w1.heap.size + 1 + 1 + 1, 0, none⟩) 0 ts.length] 50)).alloc (.cells #[.int .i64 0] 3)).heap.size = w1.heap.size + 1 + 1 + 1 + 1 + 1 + 1 := by rw [World.size_alloc, s5]
  have s7 : (((((((w1.alloc (.map #[] 0)).alloc (.cells #[.map (some (w1.heap.size))] 128)).alloc (.cells #[.int .i64 0] 3)).alloc (.cells cs0 3)).alloc (.cells #[.slice (some ⟨w1.heap.size + 1 + 1 + 1, 0, none⟩) 0 ts.length] 50)).alloc (.cells #[.int .i64 0] 3)).alloc (.cells #[.int .i64 0] 25)).heap.size = w1.heap.size + 1 + 1 + 1 + 1 + 1 + 1 + 1 := by rw [World.size_alloc, s6]
  have s8 : ((((((((w1.alloc (.map #[] 0)).alloc (.cells #[.map (some (w1.heap.size))] 128)).alloc (.cells #[.int .i64 0] 3)).alloc (.cells cs0 3)).alloc (.cells #[.slice (some ⟨w1.heap.size + 1 + 1 + 1, 0, none⟩) 0 ts.length] 50)).alloc (.cells #[.int .i64 0] 3)).alloc (.cells #[.int .i64 0] 25)).alloc (.cells #[.func (.func 89) #[] #[.pointer (some ⟨w1.heap.size + 1, 0, none⟩), .pointer (some ⟨w1.heap.size + 1 + 1 + 1 + 1 + 1 + 1, 0, none⟩), .pointer (some ⟨w1.heap.size + 1 + 1, 0, none⟩), .pointer (some ⟨w1.heap.size + 1 + 1 + 1 + 1, 0, none⟩)]] 130)).heap.size = w1.heap.size + 1 + 1 + 1 + 1 + 1 + 1 + 1 + 1 := by rw [World.size_alloc, s7]
  have s9 : (((((((((w1.alloc (.map #[] 0)).alloc (.cells #[.map (some (w1.heap.size))] 128)).alloc (.cells #[.int .i64 0] 3)).alloc (.cells cs0 3)).alloc (.cells #[.slice (some ⟨w1.heap.size + 1 + 1 + 1, 0, none⟩) 0 ts.length] 50)).alloc (.cells #[.int .i64 0] 3)).alloc (.cells #[.int .i64 0] 25)).alloc (.cells #[.func (.func 89) #[] #[.pointer (some ⟨w1.heap.size + 1, 0, none⟩), .pointer (some ⟨w1.heap.size + 1 + 1 + 1 + 1 + 1 + 1, 0, none⟩), .pointer (some ⟨w1.heap.size + 1 + 1, 0, none⟩), .pointer (some ⟨w1.heap.size + 1 + 1 + 1 + 1, 0, none⟩)]] 130)).alloc (.cells #[.func (.func 90) #[] #[.pointer (some ⟨W.heap.size, 0, none⟩), .pointer (some ⟨w1.heap.size + 1 + 1 + 1 + 1 + 1, 0, none⟩), .pointer (some ⟨w1.heap.size + 1 + 1, 0, none⟩), .pointer (some ⟨w1.heap.size + 1 + 1 + 1 + 1 + 1 + 1 + 1, 0, none⟩), .pointer (some ⟨w1.heap.size + 1, 0, none⟩), .pointer (some ⟨w1.heap.size + 1 + 1 + 1 + 1 + 1 + 1, 0, none⟩), .pointer (some ⟨w1.heap.size + 1 + 1 + 1 + 1, 0, none⟩), .pointer (some ⟨w1.heap.size + 1 + 1 + 1 + 1 + 1 + 1 + 1 + 1, 0, none⟩)]] 131)).heap.size = w1.heap.size + 1 + 1 + 1 + 1 + 1 + 1 + 1 + 1 + 1 := by rw [World.size_alloc, s8]
  have a1 : Below w1.heap.size w1 (w1.alloc (.map #[] 0)) := below_alloc (Below.refl _ _) _
  have a2 : Below (w1.alloc (.map #[] 0)).heap.size (w1.alloc (.map #[] 0)) ((w1.alloc (.map #[] 0)).alloc (.cells #[.map (some (w1.heap.size))] 128)) := below_alloc (Below.refl _ _) _
  have a3 : Below ((w1.alloc (.map #[] 0)).alloc (.cells #[.map (some (w1.heap.size))] 128)).heap.size ((w1.alloc (.map #[] 0)).alloc (.cells #[.map (some (w1.heap.size))] 128)) (((w1.alloc (.map #[] 0)).alloc (.cells #[.map (some (w1.heap.size))] 128)).alloc (.cells #[.int .i64 0] 3)) := below_alloc (Below.refl _ _) _
  have a4 : Below (((w1.alloc (.map #[] 0)).alloc (.cells #[.map (some (w1.heap.size))] 128)).alloc (.cells #[.int .i64 0] 3)).heap.size (((w1.alloc (.map #[] 0)).alloc (.cells #[.map (some (w1.heap.size))] 128)).alloc (.cells #[.int .i64 0] 3)) ((((w1.alloc (.map #[] 0)).alloc (.cells #[.map (some (w1.heap.size))] 128)).alloc (.cells #[.int .i64 0] 3)).alloc (.cells cs0 3)) := below_alloc (Below.refl _ _) _
  have a5 : Below ((((w1.alloc (.map #[] 0)).alloc (.cells #[.map (some (w1.heap.size))] 128)).alloc (.cells #[.int .i64 0] 3)).alloc (.cells cs0 3)).heap.size ((((w1.alloc (.map #[] 0)).alloc (.cells #[.map (some (w1.heap.size))] 128)).alloc (.cells #[.int .i64 0] 3)).alloc (.cells cs0 3)) (((((w1.alloc (.map #[] 0)).alloc (.cells #[.map (some (w1.heap.size))] 128)).alloc (.cells #[.int .i64 0] 3)).alloc (.cells cs0 3)).alloc (.cells #[.slice (some ⟨w1.heap.size + 1 + 1 + 1, 0, none⟩) 0 ts.length] 50)) := below_alloc (Below.refl _ _) _
  have a6 : Below (((((w1.alloc (.map #[] 0)).alloc (.cells #[.map (some (w1.heap.size))] 128)).alloc (.cells #[.int .i64 0] 3)).alloc (.cells cs0 3)).alloc (.cells #[.slice (some ⟨w1.heap.size + 1 + 1 + 1, 0, none⟩) 0 ts.length] 50)).heap.size (((((w1.alloc (.map #[] 0)).alloc (.cells #[.map (some (w1.heap.size))] 128)).alloc (.cells #[.int .i64 0] 3)).alloc (.cells cs0 3)).alloc (.cells #[.slice (some ⟨w1.heap.size + 1 + 1 + 1, 0, none⟩) 0 ts.length] 50)) ((((((w1.alloc (.map #[] 0)).alloc (.cells #[.map (some (w1.heap.size))] 128)).alloc (.cells #[.int .i64 0] 3)).alloc (.cells cs0 3)).alloc (.cells #[.slice (some ⟨w1.heap.size + 1 + 1 + 1, 0, none⟩) 0 ts.length] 50)).alloc (.cells #[.int .i64 0] 3)) := below_alloc (Below.refl _ _) _
  have a7 : Below ((((((w1.alloc (.map #[] 0)).alloc (.cells #[.map (some (w1.heap.size))] 128)).alloc (.cells #[.int .i64 0] 3)).alloc (.cells cs0 3)).alloc (.cells #[.slice (some ⟨w1.heap.size + 1 + 1 + 1, 0, none⟩) 0 ts.length] 50)).alloc (.cells #[.int .i64 0] 3)).heap.size ((((((w1.alloc (.map #[] 0)).alloc (.cells #[.map (some (w1.heap.size))] 128)).alloc (.cells #[.int .i64 0] 3)).alloc (.cells cs0 3)).alloc (.cells #[.slice (some ⟨w1.heap.size + 1 + 1 + 1, 0, none⟩) 0 ts.length] 50)).alloc (.cells #[.int .i64 0] 3)) (((((((w1.alloc (.map #[] 0)).alloc (.cells #[.map (some (w1.heap.size))] 128)).alloc (.cells #[.int .i64 0] 3)).alloc (.cells cs0 3)).alloc (.cells #[.slice (some ⟨w1.heap.size + 1 + 1 + 1, 0, none⟩) 0 ts.length] 50)).alloc (.cells #[.int .i64 0] 3)).alloc (.cells #[.int .i64 0] 25)) := below_alloc (Below.refl _ _) _
  have a8 : Below (((((((w1.alloc (.map #[] 0)).alloc (.cells #[.map (some (w1.heap.size))] 128)).alloc (.cells #[.int .i64 0] 3)).alloc (.cells cs0 3)).alloc (.cells #[.slice (some ⟨w1.heap.size + 1 + 1 + 1, 0, none⟩) 0 ts.length] 50)).alloc (.cells #[.int .i64 0] 3)).alloc (.cells #[.int .i64 0] 25)).heap.size (((((((w1.alloc (.map #[] 0)).alloc (.cells #[.map (some (w1.heap.size))] 128)).alloc (.cells #[.int .i64 0] 3)).alloc (.cells cs0 3)).alloc (.cells #[.slice (some ⟨w1.heap.size + 1 + 1 + 1, 0, none⟩) 0 ts.length] 50)).alloc (.cells #[.int .i64 0] 3)).alloc (.cells #[.int .i64 0] 25)) ((((((((w1.alloc (.map #[] 0)).alloc (.cells #[.map (some (w1.heap.size))] 128)).alloc (.cells #[.int .i64 0] 3)).alloc (.cells cs0 3)).alloc (.cells #[.slice (some ⟨w1.heap.size + 1 + 1 + 1, 0, none⟩) 0 ts.length] 50)).alloc (.cells #[.int .i64 0] 3)).alloc (.cells #[.int .i64 0] 25)).alloc (.cells #[.func (.func 89) #[] #[.pointer (some ⟨w1.heap.size + 1, 0, none⟩), .pointer (some ⟨w1.heap.size + 1 + 1 + 1 + 1 + 1 + 1, 0, none⟩), .pointer (some ⟨w1.heap.size + 1 + 1, 0, none⟩), .pointer (some ⟨w1.heap.size + 1 + 1 + 1 + 1, 0, none⟩)]] 130)) := below_alloc (Below.refl _ _) _
  have a9 : Below ((((((((w1.alloc (.map #[] 0)).alloc (.cells #[.map (some (w1.heap.size))] 128)).alloc (.cells #[.int .i64 0] 3)).alloc (.cells cs0 3)).alloc (.cells #[.slice (some ⟨w1.heap.size + 1 + 1 + 1, 0, none⟩) 0 ts.length] 50)).alloc (.cells #[.int .i64 0] 3)).alloc (.cells #[.int .i64 0] 25)).alloc (.cells #[.func (.func 89) #[] #[.pointer (some ⟨w1.heap.size + 1, 0, none⟩), .pointer (some ⟨w1.heap.size + 1 + 1 + 1 + 1 + 1 + 1, 0, none⟩), .pointer (some ⟨w1.heap.size + 1 + 1, 0, none⟩), .pointer (some ⟨w1.heap.size + 1 + 1 + 1 + 1, 0, none⟩)]] 130)).heap.size ((((((((w1.alloc (.map #[] 0)).alloc (.cells #[.map (some (w1.heap.size))] 128)).alloc (.cells #[.int .i64 0] 3)).alloc (.cells cs0 3)).alloc (.cells #[.slice (some ⟨w1.heap.size + 1 + 1 + 1, 0, none⟩) 0 ts.length] 50)).alloc (.cells #[.int .i64 0] 3)).alloc (.cells #[.int .i64 0] 25)).alloc (.cells #[.func (.func 89) #[] #[.pointer (some ⟨w1.heap.size + 1, 0, none⟩), .pointer (some ⟨w1.heap.size + 1 + 1 + 1 + 1 + 1 + 1, 0, none⟩), .pointer (some ⟨w1.heap.size + 1 + 1, 0, none⟩), .pointer (some ⟨w1.heap.size + 1 + 1 + 1 + 1, 0, none⟩)]] 130)) (((((((((w1.alloc (.map #[] 0)).alloc (.cells #[.map (some (w1.heap.size))] 128)).alloc (.cells #[.int .i64 0] 3)).alloc (.cells cs0 3)).alloc (.cells #[.slice (some ⟨w1.heap.size + 1 + 1 + 1, 0, none⟩) 0 ts.length] 50)).alloc (.cells #[.int .i64 0] 3)).alloc (.cells #[.int .i64 0] 25)).alloc (.cells #[.func (.func 89) #[] #[.pointer (some ⟨w1.heap.size + 1, 0, none⟩), .pointer (some ⟨w1.heap.size + 1 + 1 + 1 + 1 + 1 + 1, 0, none⟩), .pointer (some ⟨w1.heap.size + 1 + 1, 0, none⟩), .pointer (some ⟨w1.heap.size + 1 + 1 + 1 + 1, 0, none⟩)]] 130)).alloc (.cells #[.func (.func 90) #[] #[.pointer (some ⟨W.heap.size, 0, none⟩), .pointer (some ⟨w1.heap.size + 1 + 1 + 1 + 1 + 1, 0, none⟩), .pointer (some ⟨w1.heap.size + 1 + 1, 0, none⟩), .pointer (some ⟨w1.heap.size + 1 + 1 + 1 + 1 + 1 + 1 + 1, 0, none⟩), .pointer (some ⟨w1.heap.size + 1, 0, none⟩), .pointer (some ⟨w1.heap.size + 1 + 1 + 1 + 1 + 1 + 1, 0, none⟩), .pointer (some ⟨w1.heap.size + 1 + 1 + 1 + 1, 0, none⟩), .pointer (some ⟨w1.heap.size + 1 + 1 + 1 + 1 + 1 + 1 + 1 + 1, 0, none⟩)]] 131)) := below_alloc (Below.refl _ _) _
  have b8 : Below ((((((((w1.alloc (.map #[] 0)).alloc (.cells #[.map (some (w1.heap.size))] 128)).alloc (.cells #[.int .i64 0] 3)).alloc (.cells cs0 3)).alloc (.cells #[.slice (some ⟨w1.heap.size + 1 + 1 + 1, 0, none⟩) 0 ts.length] 50)).alloc (.cells #[.int .i64 0] 3)).alloc (.cells #[.int .i64 0] 25)).alloc (.cells #[.func (.func 89) #[] #[.pointer (some ⟨w1.heap.size + 1, 0, none⟩), .pointer (some ⟨w1.heap.size + 1 + 1 + 1 + 1 + 1 + 1, 0, none⟩), .pointer (some ⟨w1.heap.size + 1 + 1, 0, none⟩), .pointer (some ⟨w1.heap.size + 1 + 1 + 1 + 1, 0, none⟩)]] 130)).heap.size ((((((((w1.alloc (.map #[] 0)).alloc (.cells #[.map (some (w1.heap.size))] 128)).alloc (.cells #[.int .i64 0] 3)).alloc (.cells cs0 3)).alloc (.cells #[.slice (some ⟨w1.heap.size + 1 + 1 + 1, 0, none⟩) 0 ts.length] 50)).alloc (.cells #[.int .i64 0] 3)).alloc (.cells #[.int .i64 0] 25)).alloc (.cells #[.func (.func 89) #[] #[.pointer (some ⟨w1.heap.size + 1, 0, none⟩), .pointer (some ⟨w1.heap.size + 1 + 1 + 1 + 1 + 1 + 1, 0, none⟩), .pointer (some ⟨w1.heap.size + 1 + 1, 0, none⟩), .pointer (some ⟨w1.heap.size + 1 + 1 + 1 + 1, 0, none⟩)]] 130)) (((((((((w1.alloc (.map #[] 0)).alloc (.cells #[.map (some (w1.heap.size))] 128)).alloc (.cells #[.int .i64 0] 3)).alloc (.cells cs0 3)).alloc (.cells #[.slice (some ⟨w1.heap.size + 1 + 1 + 1, 0, none⟩) 0 ts.length] 50)).alloc (.cells #[.int .i64 0] 3)).alloc (.cells #[.int .i64 0] 25)).alloc (.cells #[.func (.func 89) #[] #[.pointer (some ⟨w1.heap.size + 1, 0, none⟩), .pointer (some ⟨w1.heap.size + 1 + 1 + 1 + 1 + 1 + 1, 0, none⟩), .pointer (some ⟨w1.heap.size + 1 + 1, 0, none⟩), .pointer (some ⟨w1.heap.size + 1 + 1 + 1 + 1, 0, none⟩)]] 130)).alloc (.cells #[.func (.func 90) #[] #[.pointer (some ⟨W.heap.size, 0, none⟩), .pointer (some ⟨w1.heap.size + 1 + 1 + 1 + 1 + 1, 0, none⟩), .pointer (some ⟨w1.heap.size + 1 + 1, 0, none⟩), .pointer (some ⟨w1.heap.size + 1 + 1 + 1 + 1 + 1 + 1 + 1, 0, none⟩), .pointer (some ⟨w1.heap.size + 1, 0, none⟩), .pointer (some ⟨w1.heap.size + 1 + 1 + 1 + 1 + 1 + 1, 0, none⟩), .pointer (some ⟨w1.heap.size + 1 + 1 + 1 + 1, 0, none⟩), .pointer (some ⟨w1.heap.size + 1 + 1 + 1 + 1 + 1 + 1 + 1 + 1, 0, none⟩)]] 131)) := a9
  have b7 : Below (((((((w1.alloc (.map #[] 0)).alloc (.cells #[.map (some (w1.heap.size))] 128)).alloc (.cells #[.int .i64 0] 3)).alloc (.cells cs0 3)).alloc (.cells #[.slice (some ⟨w1.heap.size + 1 + 1 + 1, 0, none⟩) 0 ts.length] 50)).alloc (.cells #[.int .i64 0] 3)).alloc (.cells #[.int .i64 0] 25)).heap.size (((((((w1.alloc (.map #[] 0)).alloc (.cells #[.map (some (w1.heap.size))] 128)).alloc (.cells #[.int .i64 0] 3)).alloc (.cells cs0 3)).alloc (.cells #[.slice (some ⟨w1.heap.size + 1 + 1 + 1, 0, none⟩) 0 ts.length] 50)).alloc (.cells #[.int .i64 0] 3)).alloc (.cells #[.int .i64 0] 25)) (((((((((w1.alloc (.map #[] 0)).alloc (.cells #[.map (some (w1.heap.size))] 128)).alloc (.cells #[.int .i64 0] 3)).alloc (.cells cs0 3)).alloc (.cells #[.slice (some ⟨w1.heap.size + 1 + 1 + 1, 0, none⟩) 0 ts.length] 50)).alloc (.cells #[.int .i64 0] 3)).alloc (.cells #[.int .i64 0] 25)).alloc (.cells #[.func (.func 89) #[] #[.pointer (some ⟨w1.heap.size + 1, 0, none⟩), .pointer (some ⟨w1.heap.size + 1 + 1 + 1 + 1 + 1 + 1, 0, none⟩), .pointer (some ⟨w1.heap.size + 1 + 1, 0, none⟩), .pointer (some ⟨w1.heap.size + 1 + 1 + 1 + 1, 0, none⟩)]] 130)).alloc (.cells #[.func (.func 90) #[] #[.pointer (some ⟨W.heap.size, 0, none⟩), .pointer (some ⟨w1.heap.size + 1 + 1 + 1 + 1 + 1, 0, none⟩), .pointer (some ⟨w1.heap.size + 1 + 1, 0, none⟩), .pointer (some ⟨w1.heap.size + 1 + 1 + 1 + 1 + 1 + 1 + 1, 0, none⟩), .pointer (some ⟨w1.heap.size + 1, 0, none⟩), .pointer (some ⟨w1.heap.size + 1 + 1 + 1 + 1 + 1 + 1, 0, none⟩), .pointer (some ⟨w1.heap.size + 1 + 1 + 1 + 1, 0, none⟩), .pointer (some ⟨w1.heap.size + 1 + 1 + 1 + 1 + 1 + 1 + 1 + 1, 0, none⟩)]] 131)) := below_step a8 b8
  have b6 : Below ((((((w1.alloc (.map #[] 0)).alloc (.cells #[.map (some (w1.heap.size))] 128)).alloc (.cells #[.int .i64 0] 3)).alloc (.cells cs0 3)).alloc (.cells #[.slice (some ⟨w1.heap.size + 1 + 1 + 1, 0, none⟩) 0 ts.length] 50)).alloc (.cells #[.int .i64 0] 3)).heap.size ((((((w1.alloc (.map #[] 0)).alloc (.cells #[.map (some (w1.heap.size))] 128)).alloc (.cells #[.int .i64 0] 3)).alloc (.cells cs0 3)).alloc (.cells #[.slice (some ⟨w1.heap.size + 1 + 1 + 1, 0, none⟩) 0 ts.length] 50)).alloc (.cells #[.int .i64 0] 3)) (((((((((w1.alloc (.map #[] 0)).alloc (.cells #[.map (some (w1.heap.size))] 128)).alloc (.cells #[.int .i64 0] 3)).alloc (.cells cs0 3)).alloc (.cells #[.slice (some ⟨w1.heap.size + 1 + 1 + 1, 0, none⟩) 0 ts.length] 50)).alloc (.cells #[.int .i64 0] 3)).alloc (.cells #[.int .i64 0] 25)).alloc (.cells #[.func (.func 89) #[] #[.pointer (some ⟨w1.heap.size + 1, 0, none⟩), .pointer (some ⟨w1.heap.size + 1 + 1 + 1 + 1 + 1 + 1, 0, none⟩), .pointer (some ⟨w1.heap.size + 1 + 1, 0, none⟩), .pointer (some ⟨w1.heap.size + 1 + 1 + 1 + 1, 0, none⟩)]] 130)).alloc (.cells #[.func (.func 90) #[] #[.pointer (some ⟨W.heap.size, 0, none⟩), .pointer (some ⟨w1.heap.size + 1 + 1 + 1 + 1 + 1, 0, none⟩), .pointer (some ⟨w1.heap.size + 1 + 1, 0, none⟩), .pointer (some ⟨w1.heap.size + 1 + 1 + 1 + 1 + 1 + 1 + 1, 0, none⟩), .pointer (some ⟨w1.heap.size + 1, 0, none⟩), .pointer (some ⟨w1.heap.size + 1 + 1 + 1 + 1 + 1 + 1, 0, none⟩), .pointer (some ⟨w1.heap.size + 1 + 1 + 1 + 1, 0, none⟩), .pointer (some ⟨w1.heap.size + 1 + 1 + 1 + 1 + 1 + 1 + 1 + 1, 0, none⟩)]] 131)) := below_step a7 b7
  have b5 : Below (((((w1.alloc (.map #[] 0)).alloc (.cells #[.map (some (w1.heap.size))] 128)).alloc (.cells #[.int .i64 0] 3)).alloc (.cells cs0 3)).alloc (.cells #[.slice (some ⟨w1.heap.size + 1 + 1 + 1, 0, none⟩) 0 ts.length] 50)).heap.size (((((w1.alloc (.map #[] 0)).alloc (.cells #[.map (some (w1.heap.size))] 128)).alloc (.cells #[.int .i64 0] 3)).alloc (.cells cs0 3)).alloc (.cells #[.slice (some ⟨w1.heap.size + 1 + 1 + 1, 0, none⟩) 0 ts.length] 50)) (((((((((w1.alloc (.map #[] 0)).alloc (.cells #[.map (some (w1.heap.size))] 128)).alloc (.cells #[.int .i64 0] 3)).alloc (.cells cs0 3)).alloc (.cells #[.slice (some ⟨w1.heap.size + 1 + 1 + 1, 0, none⟩) 0 ts.length] 50)).alloc (.cells #[.int .i64 0] 3)).alloc (.cells #[.int .i64 0] 25)).alloc (.cells #[.func (.func 89) #[] #[.pointer (some ⟨w1.heap.size + 1, 0, none⟩), .pointer (some ⟨w1.heap.size + 1 + 1 + 1 + 1 + 1 + 1, 0, none⟩), .pointer (some ⟨w1.heap.size + 1 + 1, 0, none⟩), .pointer (some ⟨w1.heap.size + 1 + 1 + 1 + 1, 0, none⟩)]] 130)).alloc (.cells #[.func (.func 90) #[] #[.pointer (some ⟨W.heap.size, 0, none⟩), .pointer (some ⟨w1.heap.size + 1 + 1 + 1 + 1 + 1, 0, none⟩), .pointer (some ⟨w1.heap.size + 1 + 1, 0, none⟩), .pointer (some ⟨w1.heap.size + 1 + 1 + 1 + 1 + 1 + 1 + 1, 0, none⟩), .pointer (some ⟨w1.heap.size + 1, 0, none⟩), .pointer (some ⟨w1.heap.size + 1 + 1 + 1 + 1 + 1 + 1, 0, none⟩), .pointer (some ⟨w1.heap.size + 1 + 1 + 1 + 1, 0, none⟩), .pointer (some ⟨w1.heap.size + 1 + 1 + 1 + 1 + 1 + 1 + 1 + 1, 0, none⟩)]] 131)) := below_step a6 b6
  have b4 : Below ((((w1.alloc (.map #[] 0)).alloc (.cells #[.map (some (w1.heap.size))] 128)).alloc (.cells #[.int .i64 0] 3)).alloc (.cells cs0 3)).heap.size ((((w1.alloc (.map #[] 0)).alloc (.cells #[.map (some (w1.heap.size))] 128)).alloc (.cells #[.int .i64 0] 3)).alloc (.cells cs0 3)) (((((((((w1.alloc (.map #[] 0)).alloc (.cells #[.map (some (w1.heap.size))] 128)).alloc (.cells #[.int .i64 0] 3)).alloc (.cells cs0 3)).alloc (.cells #[.slice (some ⟨w1.heap.size + 1 + 1 + 1, 0, none⟩) 0 ts.length] 50)).alloc (.cells #[.int .i64 0] 3)).alloc (.cells #[.int .i64 0] 25)).alloc (.cells #[.func (.func 89) #[] #[.pointer (some ⟨w1.heap.size + 1, 0, none⟩), .pointer (some ⟨w1.heap.size + 1 + 1 + 1 + 1 + 1 + 1, 0, none⟩), .pointer (some ⟨w1.heap.size + 1 + 1, 0, none⟩), .pointer (some ⟨w1.heap.size + 1 + 1 + 1 + 1, 0, none⟩)]] 130)).alloc (.cells #[.func (.func 90) #[] #[.pointer (some ⟨W.heap.size, 0, none⟩), .pointer (some ⟨w1.heap.size + 1 + 1 + 1 + 1 + 1, 0, none⟩), .pointer (some ⟨w1.heap.size + 1 + 1, 0, none⟩), .pointer (some ⟨w1.heap.size + 1 + 1 + 1 + 1 + 1 + 1 + 1, 0, none⟩), .pointer (some ⟨w1.heap.size + 1, 0, none⟩), .pointer (some ⟨w1.heap.size + 1 + 1 + 1 + 1 + 1 + 1, 0, none⟩), .pointer (some ⟨w1.heap.size + 1 + 1 + 1 + 1, 0, none⟩), .pointer (some ⟨w1.heap.size + 1 + 1 + 1 + 1 + 1 + 1 + 1 + 1, 0, none⟩)]] 131)) := below_step a5 b5
  have b3 : Below (((w1.alloc (.map #[] 0)).alloc (.cells #[.map (some (w1.heap.size))] 128)).alloc (.cells #[.int .i64 0] 3)).heap.size (((w1.alloc (.map #[] 0)).alloc (.cells #[.map (some (w1.heap.size))] 128)).alloc (.cells #[.int .i64 0] 3)) (((((((((w1.alloc (.map #[] 0)).alloc (.cells #[.map (some (w1.heap.size))] 128)).alloc (.cells #[.int .i64 0] 3)).alloc (.cells cs0 3)).alloc (.cells #[.slice (some ⟨w1.heap.size + 1 + 1 + 1, 0, none⟩) 0 ts.length] 50)).alloc (.cells #[.int .i64 0] 3)).alloc (.cells #[.int .i64 0] 25)).alloc (.cells #[.func (.func 89) #[] #[.pointer (some ⟨w1.heap.size + 1, 0, none⟩), .pointer (some ⟨w1.heap.size + 1 + 1 + 1 + 1 + 1 + 1, 0, none⟩), .pointer (some ⟨w1.heap.size + 1 + 1, 0, none⟩), .pointer (some ⟨w1.heap.size + 1 + 1 + 1 + 1, 0, none⟩)]] 130)).alloc (.cells #[.func (.func 90) #[] #[.pointer (some ⟨W.heap.size, 0, none⟩), .pointer (some ⟨w1.heap.size + 1 + 1 + 1 + 1 + 1, 0, none⟩), .pointer (some ⟨w1.heap.size + 1 + 1, 0, none⟩), .pointer (some ⟨w1.heap.size + 1 + 1 + 1 + 1 + 1 + 1 + 1, 0, none⟩), .pointer (some ⟨w1.heap.size + 1, 0, none⟩), .pointer (some ⟨w1.heap.size + 1 + 1 + 1 + 1 + 1 + 1, 0, none⟩), .pointer (some ⟨w1.heap.size + 1 + 1 + 1 + 1, 0, none⟩), .pointer (some ⟨w1.heap.size + 1 + 1 + 1 + 1 + 1 + 1 + 1 + 1, 0, none⟩)]] 131)) := below_step a4 b4
  have b2 : Below ((w1.alloc (.map #[] 0)).alloc (.cells #[.map (some (w1.heap.size))] 128)).heap.size ((w1.alloc (.map #[] 0)).alloc (.cells #[.map (some (w1.heap.size))] 128)) (((((((((w1.alloc (.map #[] 0)).alloc (.cells #[.map (some (w1.heap.size))] 128)).alloc (.cells #[.int .i64 0] 3)).alloc (.cells cs0 3)).alloc (.cells #[.slice (some ⟨w1.heap.size + 1 + 1 + 1, 0, none⟩) 0 ts.length] 50)).alloc (.cells #[.int .i64 0] 3)).alloc (.cells #[.int .i64 0] 25)).alloc (.cells #[.func (.func 89) #[] #[.pointer (some ⟨w1.heap.size + 1, 0, none⟩), .pointer (some ⟨w1.heap.size + 1 + 1 + 1 + 1 + 1 + 1, 0, none⟩), .pointer (some ⟨w1.heap.size + 1 + 1, 0, none⟩), .pointer (some ⟨w1.heap.size + 1 + 1 + 1 + 1, 0, none⟩)]] 130)).alloc (.cells #[.func (.func 90) #[] #[.pointer (some ⟨W.heap.size, 0, none⟩), .pointer (some ⟨w1.heap.size + 1 + 1 + 1 + 1 + 1, 0, none⟩), .pointer (some ⟨w1.heap.size + 1 + 1, 0, none⟩), .pointer (some ⟨w1.heap.size + 1 + 1 + 1 + 1 + 1 + 1 + 1, 0, none⟩), .pointer (some ⟨w1.heap.size + 1, 0, none⟩), .pointer (some ⟨w1.heap.size + 1 + 1 + 1 + 1 + 1 + 1, 0, none⟩), .pointer (some ⟨w1.heap.size + 1 + 1 + 1 + 1, 0, none⟩), .pointer (some ⟨w1.heap.size + 1 + 1 + 1 + 1 + 1 + 1 + 1 + 1, 0, none⟩)]] 131)) := below_step a3 b3
  have b1 : Below (w1.alloc (.map #[] 0)).heap.size (w1.alloc (.map #[] 0)) (((((((((w1.alloc (.map #[] 0)).alloc (.cells #[.map (some (w1.heap.size))] 128)).alloc (.cells #[.int .i64 0] 3)).alloc (.cells cs0 3)).alloc (.cells #[.slice (some ⟨w1.heap.size + 1 + 1 + 1, 0, none⟩) 0 ts.length] 50)).alloc (.cells #[.int .i64 0] 3)).alloc (.cells #[.int .i64 0] 25)).alloc (.cells #[.func (.func 89) #[] #[.pointer (some ⟨w1.heap.size + 1, 0, none⟩), .pointer (some ⟨w1.heap.size + 1 + 1 + 1 + 1 + 1 + 1, 0, none⟩), .pointer (some ⟨w1.heap.size + 1 + 1, 0, none⟩), .pointer (some ⟨w1.heap.size + 1 + 1 + 1 + 1, 0, none⟩)]] 130)).alloc (.cells #[.func (.func 90) #[] #[.pointer (some ⟨W.heap.size, 0, none⟩), .pointer (some ⟨w1.heap.size + 1 + 1 + 1 + 1 + 1, 0, none⟩), .pointer (some ⟨w1.heap.size + 1 + 1, 0, none⟩), .pointer (some ⟨w1.heap.size + 1 + 1 + 1 + 1 + 1 + 1 + 1, 0, none⟩), .pointer (some ⟨w1.heap.size + 1, 0, none⟩), .pointer (some ⟨w1.heap.size + 1 + 1 + 1 + 1 + 1 + 1, 0, none⟩), .pointer (some ⟨w1.heap.size + 1 + 1 + 1 + 1, 0, none⟩), .pointer (some ⟨w1.heap.size + 1 + 1 + 1 + 1 + 1 + 1 + 1 + 1, 0, none⟩)]] 131)) := below_step a2 b2
  have b0 : Below w1.heap.size w1 (((((((((w1.alloc (.map #[] 0)).alloc (.cells #[.map (some (w1.heap.size))] 128)).alloc (.cells #[.int .i64 0] 3)).alloc (.cells cs0 3)).alloc (.cells #[.slice (some ⟨w1.heap.size + 1 + 1 + 1, 0, none⟩) 0 ts.length] 50)).alloc (.cells #[.int .i64 0] 3)).alloc (.cells #[.int .i64 0] 25)).alloc (.cells #[.func (.func 89) #[] #[.pointer (some ⟨w1.heap.size + 1, 0, none⟩), .pointer (some ⟨w1.heap.size + 1 + 1 + 1 + 1 + 1 + 1, 0, none⟩), .pointer (some ⟨w1.heap.size + 1 + 1, 0, none⟩), .pointer (some ⟨w1.heap.size + 1 + 1 + 1 + 1, 0, none⟩)]] 130)).alloc (.cells #[.func (.func 90) #[] #[.pointer (some ⟨W.heap.size, 0, none⟩), .pointer (some ⟨w1.heap.size + 1 + 1 + 1 + 1 + 1, 0, none⟩), .pointer (some ⟨w1.heap.size + 1 + 1, 0, none⟩), .pointer (some ⟨w1.heap.size + 1 + 1 + 1 + 1 + 1 + 1 + 1, 0, none⟩), .pointer (some ⟨w1.heap.size + 1, 0, none⟩), .pointer (some ⟨w1.heap.size + 1 + 1 + 1 + 1 + 1 + 1, 0, none⟩), .pointer (some ⟨w1.heap.size + 1 + 1 + 1 + 1, 0, none⟩), .pointer (some ⟨w1.heap.size + 1 + 1 + 1 + 1 + 1 + 1 + 1 + 1, 0, none⟩)]] 131)) := below_step a1 b1
  have n2 := blk_new (w1.alloc (.map #[] 0)) (.cells #[.map (some (w1.heap.size))] 128)
  rw [s1] at n2
  have n3 := blk_new ((w1.alloc (.map #[] 0)).alloc (.cells #[.map (some (w1.heap.size))] 128)) (.cells #[.int .i64 0] 3)
  rw [s2] at n3
  have n5 := blk_new ((((w1.alloc (.map #[] 0)).alloc (.cells #[.map (some (w1.heap.size))] 128)).alloc (.cells #[.int .i64 0] 3)).alloc (.cells cs0 3)) (.cells #[.slice (some ⟨w1.heap.size + 1 + 1 + 1, 0, none⟩) 0 ts.length] 50)
  rw [s4] at n5
  have n6 := blk_new (((((w1.alloc (.map #[] 0)).alloc (.cells #[.map (some (w1.heap.size))] 128)).alloc (.cells #[.int .i64 0] 3)).alloc (.cells cs0 3)).alloc (.cells #[.slice (some ⟨w1.heap.size + 1 + 1 + 1, 0, none⟩) 0 ts.length] 50)) (.cells #[.int .i64 0] 3)
  rw [s5] at n6
  have n7 := blk_new ((((((w1.alloc (.map #[] 0)).alloc (.cells #[.map (some (w1.heap.size))] 128)).alloc (.cells #[.int .i64 0] 3)).alloc (.cells cs0 3)).alloc (.cells #[.slice (some ⟨w1.heap.size + 1 + 1 + 1, 0, none⟩) 0 ts.length] 50)).alloc (.cells #[.int .i64 0] 3)) (.cells #[.int .i64 0] 25)
  rw [s6] at n7
  have n8 := blk_new (((((((w1.alloc (.map #[] 0)).alloc (.cells #[.map (some (w1.heap.size))] 128)).alloc (.cells #[.int .i64 0] 3)).alloc (.cells cs0 3)).alloc (.cells #[.slice (some ⟨w1.heap.size + 1 + 1 + 1, 0, none⟩) 0 ts.length] 50)).alloc (.cells #[.int .i64 0] 3)).alloc (.cells #[.int .i64 0] 25)) (.cells #[.func (.func 89) #[] #[.pointer (some ⟨w1.heap.size + 1, 0, none⟩), .pointer (some ⟨w1.heap.size + 1 + 1 + 1 + 1 + 1 + 1, 0, none⟩), .pointer (some ⟨w1.heap.size + 1 + 1, 0, none⟩), .pointer (some ⟨w1.heap.size + 1 + 1 + 1 + 1, 0, none⟩)]] 130)
  rw [s7] at n8
  have n9 := blk_new ((((((((w1.alloc (.map #[] 0)).alloc (.cells #[.map (some (w1.heap.size))] 128)).alloc (.cells #[.int .i64 0] 3)).alloc (.cells cs0 3)).alloc (.cells #[.slice (some ⟨w1.heap.size + 1 + 1 + 1, 0, none⟩) 0 ts.length] 50)).alloc (.cells #[.int .i64 0] 3)).alloc (.cells #[.int .i64 0] 25)).alloc (.cells #[.func (.func 89) #[] #[.pointer (some ⟨w1.heap.size + 1, 0, none⟩), .pointer (some ⟨w1.heap.size + 1 + 1 + 1 + 1 + 1 + 1, 0, none⟩), .pointer (some ⟨w1.heap.size + 1 + 1, 0, none⟩), .pointer (some ⟨w1.heap.size + 1 + 1 + 1 + 1, 0, none⟩)]] 130)) (.cells #[.func (.func 90) #[] #[.pointer (some ⟨W.heap.size, 0, none⟩), .pointer (some ⟨w1.heap.size + 1 + 1 + 1 + 1 + 1, 0, none⟩), .pointer (some ⟨w1.heap.size + 1 + 1, 0, none⟩), .pointer (some ⟨w1.heap.size + 1 + 1 + 1 + 1 + 1 + 1 + 1, 0, none⟩), .pointer (some ⟨w1.heap.size + 1, 0, none⟩), .pointer (some ⟨w1.heap.size + 1 + 1 + 1 + 1 + 1 + 1, 0, none⟩), .pointer (some ⟨w1.heap.size + 1 + 1 + 1 + 1, 0, none⟩), .pointer (some ⟨w1.heap.size + 1 + 1 + 1 + 1 + 1 + 1 + 1 + 1, 0, none⟩)]] 131)
  rw [s8] at n9
  have hbW : Below W.heap.size W w1 := below_step (below_alloc (Below.refl _ _) _) hB
  have ht : w1.heap[W.heap.size]? = some (.cells #[.slice A ts.length c] 53 (0, 0)) := blk_below (blk_new W (.cells #[.slice A ts.length c] 53)) hB
  refine ⟨blk_below ht b0, blk_below n6 b6, blk_below n3 b3, blk_below n8 b8, blk_below n2 b2, blk_below n7 b7, blk_below n5 b5, n9, ?_, ?_, ?_, below_step hbW b0, by omega⟩
  · exact Kd.F_below (Kd.F_below (Kd.C_F heap61 hC) hbW) b0
  · refine Kd.R_below ?_ b4
    refine ⟨fun k hk => ?_, [], ?_, Reps.none _ _⟩
    · have hk : some (w1.heap.size + 1 + 1 + 1) = some k := hk
      injection hk with hk
      unfold Bxs
      omega
    · have h4 := World.ownsRow_made (base := W.heap.size) (e := 3) (size := 1) (((w1.alloc (.map #[] 0)).alloc (.cells #[.map (some (w1.heap.size))] 128)).alloc (.cells #[.int .i64 0] 3)) cs0 ts.length (by omega) hm hcs
      rw [s3] at h4
      exact h4
  · exact (Mp.own_made w1).kb (Kb.of_below (fun _ => False) b1) id
/-- What check.Slots answers. -/
def SlotsPost (ts : List S61) (W : World) (e : Ending) (W' : World) : Prop := Below W.heap.size W W' ∧
      (((checkP ts).2 ≠ 0 ∧ e = .returned (.tuple #[.slice none 0 0, .int .i64 (checkP ts).1, .int .i64 (checkP ts).2])) ∨
       ((checkP ts).2 = 0 ∧ ∃ Tn, ts = flat Tn ∧ right ownB Tn = true ∧ ts.length ≤ 2048 ∧
        ((Tn.top.f0 ≠ 1 ∧ e = .returned (.tuple #[.slice none 0 0, .int .i64 0, .int .i64 3])) ∨
         (Tn.top.f0 = 1 ∧ (slT Tn init).1.fault ≠ 0 ∧ e = .returned (.tuple #[.slice none 0 0, .int .i64 (slT Tn init).1.next, .int .i64 (slT Tn init).1.fault])) ∨
         (Tn.top.f0 = 1 ∧ (slT Tn init).1.fault = 0 ∧ ∃ v, e = .returned (.tuple #[v, .int .i64 0, .int .i64 0]) ∧ (Kd.int .i64).R 3 W' W.heap.size (fun _ => True) v (slT Tn init).1.out))))
theorem mk_run (n : Nat) (hn : n ≤ 100000) : ∃ cs0 : Array Value, cs0.size = n * 1 ∧ ∀ w, (Instr.makeSlice 50 (.int .i64 0) (.int .i64 (n : Int))).run Try.prog w = .ok (.slice (some ⟨w.heap.size, 0, none⟩) 0 n) (w.alloc (.cells cs0 3)) := by
  obtain ⟨i0, hi, hzz⟩ := Option.map_eq_some_iff.1 info3
  simp only [Prod.mk.injEq] at hzz
  obtain ⟨hz0, hz1, hz2⟩ := hzz
  refine ⟨madeCells (Value.int .i64 0).cells (n * i0.size), by rw [hz1]; exact size_madeCells _ _, fun w => ?_⟩
  have hr := run_make (P := Try.prog) w 50 3 i0 (.int .i64 0) Try.underlying50 hi hz0 .i64 .i64 0 (n : Int) (by omega) (by omega) (by rw [hz2]; omega) (by omega)
  simp only [Int.toNat_natCast, Int.toNat_zero] at hr
  exact hr
theorem slots_c (ts : List S61) (A : Option Addr) (c : Nat) (W : World) (hC : Kd.C k61 W A ts.length ts) (hts : ∀ x ∈ ts, TwOk x) :
    Calls Try.prog 38 #[.slice A ts.length c] W fun e W' => SlotsPost ts W e W' := by
  obtain ⟨q, hq⟩ : ∃ q, q = checkP ts := ⟨_, rfl⟩
  obtain ⟨q1, q2⟩ := q
  have HQ := Aside0.mk hq
  have HCK := Aside0.mk (check_c ts A c (W.alloc (.cells #[.slice A ts.length c] 53)) (Kd.C_below hC (below_alloc (Below.refl _ _) _)) hts)
  rw [← hq] at HCK
  by_cases h0 : q2 = 0
  · have h00 : (checkP ts).2 = 0 := by rw [← hq]; exact h0
    obtain ⟨Tn, ht, hr, hl⟩ := check_tree hts h00
    subst h0
    obtain ⟨x, ks⟩ := Tn
    have hpos : 0 < ts.length := by rw [ht]; exact flat_pos _
    have hrd : rd_T61 ts 0 = x := by rw [ht]; rfl
    have HAR := Aside0.mk (arity_of ts.length (.node x ks) hr (by rw [ht]; exact Nat.le_refl _))
    have HSM := Aside0.mk (show ∀ y ∈ ts, y.f3.size ≤ maxLen by rw [ht]; exact right_small _ hr)
    have HT := Aside0.mk ht
    have HR := Aside0.mk hr
    have HC := Aside0.mk hC
    have HTS := Aside0.mk hts
    have hxo := hts x (by rw [ht]; exact List.mem_cons_self ..)
    have hx0 : 0 ≤ x.f0 ∧ x.f0 < 256 := hxo.1
    obtain ⟨ad, eA, p0, p1, p2, p3⟩ := at_T61 hC 0 (Int.le_refl _) (by omega)
    rw [hrd] at p0
    subst eA
    have p0' : W.cell? ad = some (.int .u8 x.f0) := by rw [show (0 : Int).toNat * 4 = 0 from rfl, Addr.add_zero'] at p0; exact p0
    clear hq hC hts ht hr hrd hxo h00 p1 p2 p3 p0
    by_cases h1 : x.f0 = 1
    · have e1 : (x.f0 != 1) = false := by rw [h1]; rfl
      have H1 := Aside0.mk h1
      obtain ⟨cs0, hcs, hmk⟩ := mk_run ts.length (by omega)
      have hmm := @run_makeMap Try.prog
      have hmf : ∀ fn first cap w, (Instr.makeFunc fn first cap).run Try.prog w = .ok (.func fn first cap) w := fun _ _ _ _ => rfl
      have HCS := Aside0.mk hcs
      obtain ⟨fin, hfin⟩ : ∃ fin, fin = (slT (.node x ks) init).1 := ⟨_, rfl⟩
      have HFIN := Aside0.mk hfin
      have hdr : ts.drop init.next = flat (.node x ks) ++ [] := by rw [List.append_nil, ← HT.out]; rfl
      have hct : 0 + (flat (.node x ks)).length ≤ 5000 := by rw [← HT.out]; omega
      have HDR := Aside0.mk hdr
      have HCT := Aside0.mk hct
      clear h1 hcs hfin hdr hct
      by_cases hf : fin.fault = 0
      · have HF := Aside0.mk hf
        clear hf
        go_enter Try.func38, Try.ntmps38
        go_wp2_with (first
          | ((with_reducible refine gate_callee (f := 88) rfl ?_); refine goesL_ (some 16) rfl rfl Try.func88 (by kernel_rfl) rfl #[.slice (some ad) ts.length c] rfl (by (try simp only [List.map_toArray, List.map_cons, List.map_nil]); first | done | rfl) ?_; refine HCK.out.mono ?_; rintro e w1 ⟨he, hb⟩; subst he; refine ⟨_, rfl, ?_⟩; have HB0 := Aside0.mk hb; have HB1 := Aside0.mk (below_step (below_alloc (Below.refl _ W) (.cells #[.slice (some ad) ts.length c] 53)) hb); have c1 : w1.cell? ⟨W.heap.size, 0, none⟩ = some (.slice (some ad) ts.length c) := (by rw [blk_cell (blk_below (blk_new W (.cells #[.slice (some ad) ts.length c] 53)) hb)]; rfl); have d1 := pw_cell_below HB1.out p0'; have l1 : W.heap.size < w1.heap.size := (by have h9 := hb.size; rw [World.size_alloc] at h9; omega); have c13 : (((w1.alloc (.map #[] 0)).alloc (.cells #[.map (some (w1.heap.size))] 128)).alloc (.cells #[.int .i64 0] 3)).cell? ⟨W.heap.size, 0, none⟩ = some (.slice (some ad) ts.length c) := pw_cell_below (below_alloc (below_alloc (below_alloc (Below.refl _ _) _) _) _) c1; clear hb)
          | ((with_reducible refine gate_dst (N := 35) rfl ?_); refine goesF_ (some 35) rfl rfl (.tmp 34) #[.pointer (some ⟨W.heap.size, 0, none⟩), .pointer (some ⟨w1.heap.size + 1 + 1 + 1 + 1 + 1, 0, none⟩), .pointer (some ⟨w1.heap.size + 1 + 1, 0, none⟩), .pointer (some ⟨w1.heap.size + 1 + 1 + 1 + 1 + 1 + 1 + 1, 0, none⟩), .pointer (some ⟨w1.heap.size + 1, 0, none⟩), .pointer (some ⟨w1.heap.size + 1 + 1 + 1 + 1 + 1 + 1, 0, none⟩), .pointer (some ⟨w1.heap.size + 1 + 1 + 1 + 1, 0, none⟩), .pointer (some ⟨w1.heap.size + 1 + 1 + 1 + 1 + 1 + 1 + 1 + 1, 0, none⟩)] rfl Try.func90 (by kernel_rfl) rfl #[.pointer (some ⟨W.heap.size, 0, none⟩), .pointer (some ⟨w1.heap.size + 1 + 1 + 1 + 1 + 1, 0, none⟩), .pointer (some ⟨w1.heap.size + 1 + 1, 0, none⟩), .pointer (some ⟨w1.heap.size + 1 + 1 + 1 + 1 + 1 + 1 + 1, 0, none⟩), .pointer (some ⟨w1.heap.size + 1, 0, none⟩), .pointer (some ⟨w1.heap.size + 1 + 1 + 1 + 1 + 1 + 1, 0, none⟩), .pointer (some ⟨w1.heap.size + 1 + 1 + 1 + 1, 0, none⟩), .pointer (some ⟨w1.heap.size + 1 + 1 + 1 + 1 + 1 + 1 + 1 + 1, 0, none⟩)] rfl (by (try simp only [List.map_toArray, List.map_cons, List.map_nil]); first | done | rfl) ?_; refine (slots2_c hl HTS.out HSM.out ts.length (.node x ks) init _ _ 0 [] HAR.out HDR.out (sv_start HC.out HB0.out HCS.out (Nat.le_trans hl (by decide))) rfl ⟨Nat.le_refl _, Nat.zero_le _, fun _ => Nat.le_refl _⟩ HCT.out).mono ?_; rintro e w6 ⟨he, v6, hs6, hk6, hv6⟩; subst he; refine ⟨_, rfl, ?_⟩; rw [← HFIN.out] at hs6; obtain ⟨A6, c6, e6⟩ := Kd.R_slice hs6.R; subst e6; have HS6 := Aside0.mk hs6; have cF6 := (blk_cell hs6.f 0).trans (show _ = some (.int .i64 fin.fault) from rfl); have cN6 := (blk_cell hs6.n 0).trans (show _ = some (.int .i64 fin.next) from rfl); have cO6 := (blk_cell hs6.o 0).trans (show _ = some (.slice A6 fin.out.length c6) from rfl); rw [HF.out] at cF6; clear hs6 hk6 hv6)
          | fail)
        go_ret3
        show SlotsPost ts W _ _
        unfold SlotsPost
        rw [← HQ.out]
        exact ⟨HS6.out.B, .inr ⟨rfl, .node x ks, HT.out, HR.out, hl, .inr (.inr ⟨H1.out, by rw [← HFIN.out]; exact HF.out, _, rfl, by rw [← HFIN.out]; exact Kd.R_mono HS6.out.R (fun _ _ => trivial)⟩)⟩⟩
      · have f1 : (fin.fault != 0) = true := bne_iff_ne.2 hf
        have f2 : decide (fin.fault = 0) = false := decide_eq_false hf
        have HF := Aside0.mk hf
        clear hf
        go_enter Try.func38, Try.ntmps38
        go_wp2_with (first
          | ((with_reducible refine gate_callee (f := 88) rfl ?_); refine goesL_ (some 16) rfl rfl Try.func88 (by kernel_rfl) rfl #[.slice (some ad) ts.length c] rfl (by (try simp only [List.map_toArray, List.map_cons, List.map_nil]); first | done | rfl) ?_; refine HCK.out.mono ?_; rintro e w1 ⟨he, hb⟩; subst he; refine ⟨_, rfl, ?_⟩; have HB0 := Aside0.mk hb; have HB1 := Aside0.mk (below_step (below_alloc (Below.refl _ W) (.cells #[.slice (some ad) ts.length c] 53)) hb); have c1 : w1.cell? ⟨W.heap.size, 0, none⟩ = some (.slice (some ad) ts.length c) := (by rw [blk_cell (blk_below (blk_new W (.cells #[.slice (some ad) ts.length c] 53)) hb)]; rfl); have d1 := pw_cell_below HB1.out p0'; have l1 : W.heap.size < w1.heap.size := (by have h9 := hb.size; rw [World.size_alloc] at h9; omega); have c13 : (((w1.alloc (.map #[] 0)).alloc (.cells #[.map (some (w1.heap.size))] 128)).alloc (.cells #[.int .i64 0] 3)).cell? ⟨W.heap.size, 0, none⟩ = some (.slice (some ad) ts.length c) := pw_cell_below (below_alloc (below_alloc (below_alloc (Below.refl _ _) _) _) _) c1; clear hb)
          | ((with_reducible refine gate_dst (N := 35) rfl ?_); refine goesF_ (some 35) rfl rfl (.tmp 34) #[.pointer (some ⟨W.heap.size, 0, none⟩), .pointer (some ⟨w1.heap.size + 1 + 1 + 1 + 1 + 1, 0, none⟩), .pointer (some ⟨w1.heap.size + 1 + 1, 0, none⟩), .pointer (some ⟨w1.heap.size + 1 + 1 + 1 + 1 + 1 + 1 + 1, 0, none⟩), .pointer (some ⟨w1.heap.size + 1, 0, none⟩), .pointer (some ⟨w1.heap.size + 1 + 1 + 1 + 1 + 1 + 1, 0, none⟩), .pointer (some ⟨w1.heap.size + 1 + 1 + 1 + 1, 0, none⟩), .pointer (some ⟨w1.heap.size + 1 + 1 + 1 + 1 + 1 + 1 + 1 + 1, 0, none⟩)] rfl Try.func90 (by kernel_rfl) rfl #[.pointer (some ⟨W.heap.size, 0, none⟩), .pointer (some ⟨w1.heap.size + 1 + 1 + 1 + 1 + 1, 0, none⟩), .pointer (some ⟨w1.heap.size + 1 + 1, 0, none⟩), .pointer (some ⟨w1.heap.size + 1 + 1 + 1 + 1 + 1 + 1 + 1, 0, none⟩), .pointer (some ⟨w1.heap.size + 1, 0, none⟩), .pointer (some ⟨w1.heap.size + 1 + 1 + 1 + 1 + 1 + 1, 0, none⟩), .pointer (some ⟨w1.heap.size + 1 + 1 + 1 + 1, 0, none⟩), .pointer (some ⟨w1.heap.size + 1 + 1 + 1 + 1 + 1 + 1 + 1 + 1, 0, none⟩)] rfl (by (try simp only [List.map_toArray, List.map_cons, List.map_nil]); first | done | rfl) ?_; refine (slots2_c hl HTS.out HSM.out ts.length (.node x ks) init _ _ 0 [] HAR.out HDR.out (sv_start HC.out HB0.out HCS.out (Nat.le_trans hl (by decide))) rfl ⟨Nat.le_refl _, Nat.zero_le _, fun _ => Nat.le_refl _⟩ HCT.out).mono ?_; rintro e w6 ⟨he, v6, hs6, hk6, hv6⟩; subst he; refine ⟨_, rfl, ?_⟩; rw [← HFIN.out] at hs6; obtain ⟨A6, c6, e6⟩ := Kd.R_slice hs6.R; subst e6; have HS6 := Aside0.mk hs6; have cF6 := (blk_cell hs6.f 0).trans (show _ = some (.int .i64 fin.fault) from rfl); have cN6 := (blk_cell hs6.n 0).trans (show _ = some (.int .i64 fin.next) from rfl); have cO6 := (blk_cell hs6.o 0).trans (show _ = some (.slice A6 fin.out.length c6) from rfl); clear hs6 hk6 hv6)
          | fail)
        go_region
        go_wp2_with (fail)
        go_ret3
        show SlotsPost ts W _ _
        unfold SlotsPost
        rw [← HQ.out]
        exact ⟨below_step HS6.out.B (below_drew (Below.refl _ _)), .inr ⟨rfl, .node x ks, HT.out, HR.out, hl, .inr (.inl ⟨H1.out, by rw [← HFIN.out]; exact HF.out, by rw [← HFIN.out]; rfl⟩)⟩⟩
    · have e1 : (x.f0 != 1) = true := bne_iff_ne.2 h1
      have H1 := Aside0.mk h1
      clear h1
      go_enter Try.func38, Try.ntmps38
      go_wp2_with (first
        | ((with_reducible refine gate_callee (f := 88) rfl ?_); refine goesL_ (some 16) rfl rfl Try.func88 (by kernel_rfl) rfl #[.slice (some ad) ts.length c] rfl (by (try simp only [List.map_toArray, List.map_cons, List.map_nil]); first | done | rfl) ?_; refine HCK.out.mono ?_; rintro e w1 ⟨he, hb⟩; subst he; refine ⟨_, rfl, ?_⟩; have HB0 := Aside0.mk hb; have HB1 := Aside0.mk (below_step (below_alloc (Below.refl _ W) (.cells #[.slice (some ad) ts.length c] 53)) hb); have c1 : w1.cell? ⟨W.heap.size, 0, none⟩ = some (.slice (some ad) ts.length c) := (by rw [blk_cell (blk_below (blk_new W (.cells #[.slice (some ad) ts.length c] 53)) hb)]; rfl); have d1 := pw_cell_below HB1.out p0'; have l1 : W.heap.size < w1.heap.size := (by have h9 := hb.size; rw [World.size_alloc] at h9; omega); have c13 : (((w1.alloc (.map #[] 0)).alloc (.cells #[.map (some (w1.heap.size))] 128)).alloc (.cells #[.int .i64 0] 3)).cell? ⟨W.heap.size, 0, none⟩ = some (.slice (some ad) ts.length c) := pw_cell_below (below_alloc (below_alloc (below_alloc (Below.refl _ _) _) _) _) c1; clear hb)
        | fail)
      go_ret3
      show SlotsPost ts W _ _
      unfold SlotsPost
      rw [← HQ.out]
      exact ⟨HB1.out, .inr ⟨rfl, .node x ks, HT.out, HR.out, hl, .inl ⟨H1.out, rfl⟩⟩⟩
  · have e0 : (q2 != 0) = true := bne_iff_ne.2 h0
    have e0' : decide (q2 = 0) = false := decide_eq_false h0
    have H0 := Aside0.mk h0
    clear hq hC hts h0
    go_enter Try.func38, Try.ntmps38
    go_wp2_with (first
      | ((with_reducible refine gate_callee (f := 88) rfl ?_); refine goesL_ (some 16) rfl rfl Try.func88 (by kernel_rfl) rfl #[.slice A ts.length c] rfl (by (try simp only [List.map_toArray, List.map_cons, List.map_nil]); first | done | rfl) ?_; refine HCK.out.mono ?_; rintro e w1 ⟨he, hb⟩; subst he; refine ⟨_, rfl, ?_⟩; have HB0 := Aside0.mk hb; have HB1 := Aside0.mk (below_step (below_alloc (Below.refl _ W) (.cells #[.slice A ts.length c] 53)) hb); clear hb)
      | fail)
    go_ret3
    show SlotsPost ts W _ _
    unfold SlotsPost
    rw [← HQ.out]
    exact ⟨HB1.out, .inl ⟨H0.out, rfl⟩⟩
end Go.Proofs.Ytobgijpbfmpdaaa.Ck
