/- The document's disk: contracts, and what a step comes to. -/
import Derived.Test.YtobgijpbfmpdaaaFu
import Derived.Test.YtobgijpbfmpdaaaPDqx0
import Derived.Test.YtobgijpbfmpdaaaFz
/- prompterref25.Disk: contracts of its methods. -/
set_option linter.unusedVariables false
set_option linter.unusedSimpArgs false
set_option maxRecDepth 100000
namespace Go.Proofs.Ytobgijpbfmpdaaa.Rk
open Go.RowKit Go.Proofs.YtobgijpbfmpdaaaW.PrintWords Go.Proofs.YtobgijpbfmpdaaaW.PrintLast Go.Proofs.YtobgijpbfmpdaaaW.PrintMore
open Go.Proofs.Ytobgijpbfmpdaaa.Fm Go.Proofs.Ytobgijpbfmpdaaa.Mp Go.Proofs.Ytobgijpbfmpdaaa.PDq
set_option maxHeartbeats 8000000
/-- A document's disk: block r; its files lie in a row of its own. -/
structure Rsk (W : World) (r base : Nat) (ok : Nat → Prop) (L : List S187) (off : Bool) (left : Int) : Prop where
  ex : ∃ A c, W.heap[r]? = some (.cells #[.slice A L.length c, .bool off, .int .i64 left] 182 (0, 0)) ∧ Kd.R k187 187 W base ok (.slice A L.length c) L
  ne : ∀ k, ok k → k ≠ r
section
variable {W W1 : World} {r base : Nat} {ok : Nat → Prop} {L : List S187} {off : Bool} {left : Int}
theorem Rsk.kb {T : Nat → Prop} (h : Rsk W r base ok L off left) (hk : Kb T W W1) (hr : ¬ T r) (ho : ∀ k, ok k → ¬ T k) : Rsk W1 r base ok L off left := by
  obtain ⟨A, c, h1, h2⟩ := h.ex
  exact ⟨⟨A, c, hk.blk h1 hr, Kd.R_step h2 (fun k hk1 hlt => hk.block k hlt (ho k hk1))⟩, h.ne⟩
theorem Rsk.below (h : Rsk W r base ok L off left) (hb : Below W.heap.size W W1) : Rsk W1 r base ok L off left := h.kb (Kb.of_below (fun _ => False) hb) id (fun _ _ => id)
theorem Rsk.lt (h : Rsk W r base ok L off left) : r < W.heap.size := by
  obtain ⟨A, c, h1, _⟩ := h.ex
  exact blk_lt h1
theorem Rsk.set {i : Nat} {v : Value} {off' : Bool} {left' : Int} (h : Rsk W r base ok L off left) (hs : ∀ s : Value, (#[s, .bool off, .int .i64 left] : Array Value).setIfInBounds i v = #[s, .bool off', .int .i64 left']) :
    Rsk (W.setCell ⟨r, i, none⟩ v) r base ok L off' left' := by
  obtain ⟨A, c, h1, h2⟩ := h.ex
  refine ⟨⟨A, c, blk_put h1 i v (hs _), ?_⟩, h.ne⟩
  exact Kd.R_step h2 (fun k hk hlt => Below.heap_setCell W ⟨r, i, none⟩ v k (h.ne k hk))
end
/-- The place of a name. -/
def findL (L : List S187) (s : ByteArray) : Int := match L.findIdx? (fun x => x.f0.toList == s.toList) with | some i => i | none => -1
theorem findL_at {L : List S187} {s : ByteArray} {i : Nat} (h : i < L.length) (hb : ∀ j, j < i → ((rd_T187 L (j : Int)).f0.toList == s.toList) = false) (he : ((rd_T187 L (i : Int)).f0.toList == s.toList) = true) : findL L s = i := by
  have hrd : ∀ j (hj : j < L.length), rd_T187 L (j : Int) = L[j] := fun j hj => by
    unfold rd_T187; rw [Int.toNat_natCast, List.getD_eq_getElem?_getD, List.getElem?_eq_getElem hj]; rfl
  have : L.findIdx? (fun x => x.f0.toList == s.toList) = some i := by
    rw [List.findIdx?_eq_some_iff_getElem]
    refine ⟨h, by rw [← hrd i h]; exact he, fun j hj => ?_⟩
    have h1 := hb j hj
    rw [hrd j (by omega)] at h1
    simpa using h1
  unfold findL
  rw [this]
theorem findL_none {L : List S187} {s : ByteArray} (hb : ∀ j, j < L.length → ((rd_T187 L (j : Int)).f0.toList == s.toList) = false) : findL L s = -1 := by
  have hrd : ∀ j (hj : j < L.length), rd_T187 L (j : Int) = L[j] := fun j hj => by
    unfold rd_T187; rw [Int.toNat_natCast, List.getD_eq_getElem?_getD, List.getElem?_eq_getElem hj]; rfl
  have : L.findIdx? (fun x => x.f0.toList == s.toList) = none := by
    rw [List.findIdx?_eq_none_iff]
    intro x hx
    obtain ⟨j, hj, rfl⟩ := List.mem_iff_getElem.1 hx
    have h1 := hb j hj
    rw [hrd j hj] at h1
    exact h1
  unfold findL
  rw [this]
theorem find_c (r base : Nat) (ok : Nat → Prop) (L : List S187) (off : Bool) (left : Int) (s : ByteArray) (W : World) (h : Rsk W r base ok L off left) (hl : L.length ≤ 1000000) :
    Calls Try.prog 174 #[.pointer (some ⟨r, 0, none⟩), .string s] W fun e W' => e = .returned (.int .i64 (findL L s)) ∧ W' = W := by
  obtain ⟨A, c, h1, h2⟩ := h.ex
  have hC := (Kd.R_reads' h2).2.2
  have c0 : W.cell? ⟨r, 0, none⟩ = some (.slice A L.length c) := by rw [blk_cell h1]; rfl
  have HC := Aside0.mk hC
  have hll := hl
  clear h h1 h2 hC
  go_enter Try.func174, Try.ntmps174
  go_wp2
  go_loopg [5] L.length (fun kk v5 wr => ∃ i : Nat, v5 = .int .i64 i ∧ Aside0 (i ≤ L.length ∧ kk = L.length - i) ∧ Aside0 (∀ j, j < i → ((rd_T187 L (j : Int)).f0.toList == s.toList) = false) ∧ wr = W)
  case atStart => exact ⟨0, rfl, ⟨Nat.zero_le _, rfl⟩, ⟨fun j hj => by omega⟩, rfl⟩
  case round =>
    obtain ⟨i, rfl, hi, HN, rfl⟩ := hrel
    by_cases hlt : i < L.length
    · have e1 : decide ((i : Int) < (L.length : Int)) = true := decide_eq_true (by omega)
      have e2 : decide (i < L.length) = true := decide_eq_true hlt
      have e3 : (i : Int) < (L.length : Int) := by omega
      have e4 : (0 : Int) ≤ (i : Int) := by omega
      obtain ⟨ad, eA, q0, q1, q2⟩ := at_T187 HC.out (i : Int) e4 e3
      rw [Int.toNat_natCast] at q0 q1 q2
      subst eA
      by_cases he : ((rd_T187 L (i : Int)).f0.toList == s.toList) = true
      · have hf := findL_at hlt HN.out he
        have HF := Aside0.mk hf
        clear hf
        go_wp2_with (fail)
        go_ret
        exact ⟨by rw [HF.out]; rfl, rfl⟩
      · have he := Bool.eq_false_iff.2 he
        go_wp2_with (fail)
        go_roundg (L.length - (i + 1))
        case measure => have := hi.out; omega
        case rel => exact ⟨i + 1, by simp, ⟨by omega, rfl⟩, ⟨fun j hj => by rcases (by omega : j < i ∨ j = i) with h | h; exact HN.out j h; subst h; exact he⟩, rfl⟩
    · have hie : i = L.length := by have := hi.out.1; omega
      subst hie
      have e1 : decide ((L.length : Int) < (L.length : Int)) = false := decide_eq_false (by omega)
      have e2 : decide (L.length < L.length) = false := decide_eq_false (by omega)
      have HF := Aside0.mk (findL_none HN.out)
      go_wp2_with (fail)
      go_ret
      exact ⟨by rw [HF.out]; rfl, rfl⟩
end Go.Proofs.Ytobgijpbfmpdaaa.Rk
/- prompterref25.Disk: fails, asked, Fuse, Read. -/
set_option linter.unusedVariables false
set_option linter.unusedSimpArgs false
set_option maxRecDepth 100000
namespace Go.Proofs.Ytobgijpbfmpdaaa.Rk
open Go.RowKit Go.Proofs.YtobgijpbfmpdaaaW.PrintWords Go.Proofs.YtobgijpbfmpdaaaW.PrintLast Go.Proofs.YtobgijpbfmpdaaaW.PrintMore
open Go.Proofs.Ytobgijpbfmpdaaa.Fm Go.Proofs.Ytobgijpbfmpdaaa.Mp Go.Proofs.Ytobgijpbfmpdaaa.PDq
set_option maxHeartbeats 8000000
def failR (off : Bool) (left : Int) : Bool × Bool × Int := if left = 0 then (true, true, -1) else (false, off, if 0 < left then left - 1 else left)
theorem set1 {W : World} {r base : Nat} {ok : Nat → Prop} {L : List S187} {off : Bool} {left : Int} (h : Rsk W r base ok L off left) (x : Bool) : Rsk (W.setCell ⟨r, 1, none⟩ (.bool x)) r base ok L x left := h.set (i := 1) (fun s => rfl)
theorem set2 {W : World} {r base : Nat} {ok : Nat → Prop} {L : List S187} {off : Bool} {left : Int} (h : Rsk W r base ok L off left) (x : Int) : Rsk (W.setCell ⟨r, 2, none⟩ (.int .i64 x)) r base ok L off x := h.set (i := 2) (fun s => rfl)
theorem kset (W : World) (r i : Nat) (v : Value) : Kb (fun k => k = r) W (W.setCell ⟨r, i, none⟩ v) := Kb.set _ _ _ _ rfl
theorem Rsk.c1 {W : World} {r base : Nat} {ok : Nat → Prop} {L : List S187} {off : Bool} {left : Int} (h : Rsk W r base ok L off left) : W.cell? ⟨r, 1, none⟩ = some (.bool off) := by
  obtain ⟨A, c, h1, _⟩ := h.ex
  rw [blk_cell h1]; rfl
theorem Rsk.c2 {W : World} {r base : Nat} {ok : Nat → Prop} {L : List S187} {off : Bool} {left : Int} (h : Rsk W r base ok L off left) : W.cell? ⟨r, 2, none⟩ = some (.int .i64 left) := by
  obtain ⟨A, c, h1, _⟩ := h.ex
  rw [blk_cell h1]; rfl
theorem Rsk.fr {W : World} {r base : Nat} {ok : Nat → Prop} {L : List S187} {off : Bool} {left : Int} (h : Rsk W r base ok L off left) (i : Nat) : W.frozen? ⟨r, i, none⟩ = false := by
  obtain ⟨A, c, h1, _⟩ := h.ex
  exact blk_frozen h1 i
theorem fails_c (r base : Nat) (ok : Nat → Prop) (L : List S187) (off : Bool) (left : Int) (W : World) (h : Rsk W r base ok L off left) (hl : -1 ≤ left ∧ left ≤ 9223372036854775807) :
    Calls Try.prog 173 #[.pointer (some ⟨r, 0, none⟩)] W fun e W' => e = .returned (.bool (failR off left).1) ∧ Rsk W' r base ok L (failR off left).2.1 (failR off left).2.2 ∧ Kb (fun k => k = r) W W' := by
  have c2 := h.c2
  have f1 := h.fr 1
  have f2 := h.fr 2
  have HR := Aside0.mk h
  clear h
  by_cases h0 : left = 0
  · subst h0
    have c1' := (set2 HR.out (-1)).c1
    have f1' := (set2 HR.out (-1)).fr 1
    have c1 := HR.out.c1
    go_enter Try.func173, Try.ntmps173
    go_wp2_with (fail)
    go_ret
    exact ⟨rfl, set1 (set2 HR.out _) _, (kset _ _ _ _).trans (kset _ _ _ _)⟩
  · have b0 : (left == 0) = false := by simpa using h0
    by_cases hp : 0 < left
    · have b1 : decide (0 < left) = true := decide_eq_true hp
      have hw : IntKind.i64.wrap (left - 1) = left - 1 := by rw [IntWalk.i64_in _ ⟨by omega, by omega⟩]
      rw [show failR off left = (false, off, left - 1) from by unfold failR; rw [if_neg h0, if_pos hp]]
      clear h0 hp
      go_enter Try.func173, Try.ntmps173
      go_wp2_with (fail)
      go_ret
      exact ⟨rfl, set2 HR.out _, kset _ _ _ _⟩
    · have b1 : decide (0 < left) = false := decide_eq_false hp
      rw [show failR off left = (false, off, left) from by unfold failR; rw [if_neg h0, if_neg hp]]
      clear h0 hp
      go_enter Try.func173, Try.ntmps173
      go_wp2_with (fail)
      go_ret
      exact ⟨rfl, HR.out, Kb.refl _ _⟩
def askR (off : Bool) (left : Int) (L : List S187) (s : ByteArray) : Int × Bool × Int :=
  if off then (250, off, left) else if findL L s < 0 then (5, off, left) else if (failR off left).1 then (250, (failR off left).2) else (0, (failR off left).2)
theorem asked_c (r base : Nat) (ok : Nat → Prop) (L : List S187) (off : Bool) (left : Int) (s : ByteArray) (W : World) (h : Rsk W r base ok L off left) (hl : -1 ≤ left ∧ left ≤ 9223372036854775807) (hL : L.length ≤ 1000000) :
    Calls Try.prog 176 #[.pointer (some ⟨r, 0, none⟩), .string s] W fun e W' => e = .returned (.int .i64 (askR off left L s).1) ∧ Rsk W' r base ok L (askR off left L s).2.1 (askR off left L s).2.2 ∧ Kb (fun k => k = r) W W' := by
  have c1 := h.c1
  have HR := Aside0.mk h
  clear h
  cases off
  · by_cases hf : findL L s < 0
    · have b1 : decide (findL L s < 0) = true := decide_eq_true hf
      rw [show askR false left L s = (5, false, left) from by unfold askR; rw [if_neg (by simp), if_pos hf]]
      clear hf
      go_enter Try.func176, Try.ntmps176
      go_wp2_with (first
        | ((with_reducible refine gate_callee (f := 174) rfl ?_); refine goesL_ (some 11) rfl rfl Try.func174 (by kernel_rfl) rfl #[.pointer (some ⟨r, 0, none⟩), .string s] rfl (by (try simp only [List.map_toArray, List.map_cons, List.map_nil]); first | done | rfl) ?_; refine (find_c _ _ _ _ _ _ s _ HR.out hL).mono ?_; rintro e w' ⟨rfl, hw⟩; have hw := hw.symm; subst hw; refine ⟨_, rfl, ?_⟩)
        | fail)
      go_ret
      exact ⟨rfl, HR.out, Kb.refl _ _⟩
    · have b1 : decide (findL L s < 0) = false := decide_eq_false hf
      obtain ⟨z, hz⟩ : ∃ z, z = failR false left := ⟨_, rfl⟩
      have hz1 : askR false left L s = (if z.1 then (250, z.2) else (0, z.2)) := by unfold askR; rw [if_neg (by simp), if_neg hf, hz]
      rw [hz1]
      clear hz1 hf
      obtain ⟨d, o2, l2⟩ := z
      have HZ := Aside0.mk hz
      clear hz
      cases d
      · go_enter Try.func176, Try.ntmps176
        go_wp2_with (first
          | ((with_reducible refine gate_callee (f := 174) rfl ?_); refine goesL_ (some 11) rfl rfl Try.func174 (by kernel_rfl) rfl #[.pointer (some ⟨r, 0, none⟩), .string s] rfl (by (try simp only [List.map_toArray, List.map_cons, List.map_nil]); first | done | rfl) ?_; refine (find_c _ _ _ _ _ _ s _ HR.out hL).mono ?_; rintro e w' ⟨rfl, hw⟩; have hw := hw.symm; subst hw; refine ⟨_, rfl, ?_⟩)
          | ((with_reducible refine gate_callee (f := 173) rfl ?_); refine goesL_ (some 14) rfl rfl Try.func173 (by kernel_rfl) rfl #[.pointer (some ⟨r, 0, none⟩)] rfl (by (try simp only [List.map_toArray, List.map_cons, List.map_nil]); first | done | rfl) ?_; refine (fails_c _ _ _ _ _ _ _ HR.out hl).mono ?_; rintro e w2 ⟨he, h2, k2⟩; rw [← HZ.out] at he h2; subst he; refine ⟨_, rfl, ?_⟩; have HR2 := Aside0.mk h2; have HK2 := Aside0.mk k2; clear h2 k2)
          | fail)
        go_ret
        exact ⟨rfl, HR2.out, HK2.out⟩
      · go_enter Try.func176, Try.ntmps176
        go_wp2_with (first
          | ((with_reducible refine gate_callee (f := 174) rfl ?_); refine goesL_ (some 11) rfl rfl Try.func174 (by kernel_rfl) rfl #[.pointer (some ⟨r, 0, none⟩), .string s] rfl (by (try simp only [List.map_toArray, List.map_cons, List.map_nil]); first | done | rfl) ?_; refine (find_c _ _ _ _ _ _ s _ HR.out hL).mono ?_; rintro e w' ⟨rfl, hw⟩; have hw := hw.symm; subst hw; refine ⟨_, rfl, ?_⟩)
          | ((with_reducible refine gate_callee (f := 173) rfl ?_); refine goesL_ (some 14) rfl rfl Try.func173 (by kernel_rfl) rfl #[.pointer (some ⟨r, 0, none⟩)] rfl (by (try simp only [List.map_toArray, List.map_cons, List.map_nil]); first | done | rfl) ?_; refine (fails_c _ _ _ _ _ _ _ HR.out hl).mono ?_; rintro e w2 ⟨he, h2, k2⟩; rw [← HZ.out] at he h2; subst he; refine ⟨_, rfl, ?_⟩; have HR2 := Aside0.mk h2; have HK2 := Aside0.mk k2; clear h2 k2)
          | fail)
        go_ret
        exact ⟨rfl, HR2.out, HK2.out⟩
  · go_enter Try.func176, Try.ntmps176
    go_wp2_with (fail)
    go_ret
    exact ⟨rfl, HR.out, Kb.refl _ _⟩
end Go.Proofs.Ytobgijpbfmpdaaa.Rk
/- prompterref25.Disk: out, put. -/
set_option linter.unusedVariables false
set_option linter.unusedSimpArgs false
set_option maxRecDepth 100000
namespace Go.Proofs.Ytobgijpbfmpdaaa.Rk
open Go.RowKit Go.Proofs.YtobgijpbfmpdaaaW.PrintWords Go.Proofs.YtobgijpbfmpdaaaW.PrintLast Go.Proofs.YtobgijpbfmpdaaaW.PrintMore
open Go.Proofs.Ytobgijpbfmpdaaa.Fm Go.Proofs.Ytobgijpbfmpdaaa.Mp Go.Proofs.Ytobgijpbfmpdaaa.PDq
set_option maxHeartbeats 8000000
theorem info_f : (Try.prog.info? 187).map (fun i => (i.zero, i.size, i.bytes)) = some (some (.agg #[.string ByteArray.empty, .string ByteArray.empty, .string ByteArray.empty]), k187.sz, 48) := by kernel_rfl
def outL (L : List S187) (s : ByteArray) : List S187 := L.filter fun x => !(x.f0.toList == s.toList)
theorem rd_at {L : List S187} {i : Nat} (h : i < L.length) : rd_T187 L (i : Int) = L[i] := by
  unfold rd_T187; rw [Int.toNat_natCast, List.getD_eq_getElem?_getD, List.getElem?_eq_getElem h]; rfl
theorem filter_take (L : List S187) (f : S187 → Bool) (i : Nat) (h : i < L.length) : (L.take (i + 1)).filter f = (L.take i).filter f ++ (if f (rd_T187 L (i : Int)) then [rd_T187 L (i : Int)] else []) := by
  rw [List.take_succ_eq_append_getElem h, List.filter_append, rd_at h]
  congr 1
  by_cases hf : f L[i] = true <;> simp [hf]
/-- The row of a document's disk, changed for a new one. -/
theorem Rsk.row {W W1 : World} {r base : Nat} {ok : Nat → Prop} {L L1 : List S187} {off : Bool} {left : Int} (h : Rsk W r base ok L off left) (hb : Below W.heap.size W W1) (hbase : base ≤ W.heap.size) (hf : ∀ k, W.heap.size ≤ k → ok k) {v : Value} (ho : Kd.R k187 187 W1 W.heap.size (fun _ => True) v L1) :
    Rsk (W1.setCell ⟨r, 0, none⟩ v) r base ok L1 off left ∧ Kb (fun k => k = r) W (W1.setCell ⟨r, 0, none⟩ v) := by
  obtain ⟨A, c, h1, h2⟩ := h.ex
  obtain ⟨A1, c1, hv⟩ := Kd.R_slice ho
  subst hv
  have h3 := blk_below h1 hb
  have hne : ∀ k, W.heap.size ≤ k → k ≠ r := fun k hk => by have := h.lt; omega
  have ho1 := Kd.R_mono (Kd.R_bound ho) (ok' := fun k => ok k ∧ W.heap.size ≤ k) (fun k hk => ⟨hf k hk.2.1, hk.2.1⟩)
  refine ⟨⟨⟨A1, c1, blk_put h3 0 _ rfl, ?_⟩, h.ne⟩, (Kb.of_below _ hb).trans (Kb.set _ _ _ _ rfl)⟩
  exact Kd.R_mono (Kd.R_lower (Kd.R_step ho1 (fun k hk hlt => Below.heap_setCell W1 ⟨r, 0, none⟩ _ k (hne k hk.2))) hbase) (fun k hk => hk.1)
theorem out_c (r base : Nat) (ok : Nat → Prop) (L : List S187) (off : Bool) (left : Int) (s : ByteArray) (W : World) (h : Rsk W r base ok L off left) (hL : L.length ≤ 1000000) (hbase : base ≤ W.heap.size) (hf : ∀ k, W.heap.size ≤ k → ok k) :
    Calls Try.prog 177 #[.pointer (some ⟨r, 0, none⟩), .string s] W fun e W' => e = .returned (.tuple #[]) ∧ Rsk W' r base ok (outL L s) off left ∧ Kb (fun k => k = r) W W' := by
  obtain ⟨A, c, h1, h2⟩ := h.ex
  have hC := (Kd.R_reads' h2).2.2
  have c0 : W.cell? ⟨r, 0, none⟩ = some (.slice A L.length c) := by rw [blk_cell h1]; rfl
  have HC := Aside0.mk hC
  have HR := Aside0.mk h
  have HF := Aside0.mk hf
  clear h h1 h2 hC hf
  go_enter Try.func177, Try.ntmps177
  go_wp2
  go_loopg [4, 5] L.length (fun kk v4 v5 wr => ∃ (i : Nat) (A4 : Option Addr) (c4 : Nat) (l4 : List S187), v4 = .slice A4 l4.length c4 ∧ v5 = .int .i64 i ∧ Aside0 (i ≤ L.length ∧ kk = L.length - i) ∧ Aside0 (l4 = (L.take i).filter fun x => !(x.f0.toList == s.toList)) ∧
    Aside0 (Kd.R k187 187 wr W.heap.size (fun _ => True) (.slice A4 l4.length c4) l4) ∧ Aside0 (Below W.heap.size W wr))
  case atStart => exact ⟨0, none, 0, [], rfl, rfl, ⟨Nat.zero_le _, rfl⟩, ⟨rfl⟩, ⟨Kd.R_nil _ _ _ _ _⟩, ⟨Below.refl _ _⟩⟩
  case round =>
    obtain ⟨i, A4, c4, l4, rfl, rfl, hi, Hl4, HO, HB⟩ := hrel
    replace c0 := pw_cell_below HB.out c0
    by_cases hlt : i < L.length
    · have e1 : decide ((i : Int) < (L.length : Int)) = true := decide_eq_true (by omega)
      have e2 : decide (i < L.length) = true := decide_eq_true hlt
      have e3 : (i : Int) < (L.length : Int) := by omega
      have e4 : (0 : Int) ≤ (i : Int) := by omega
      have hl4 : l4.length ≤ 1000000 := by rw [Hl4.out]; exact Nat.le_trans (List.length_filter_le _ _) (by rw [List.length_take]; omega)
      have HLL := Aside0.mk hl4
      obtain ⟨x, hx⟩ : ∃ x, x = rd_T187 L (i : Int) := ⟨_, rfl⟩
      obtain ⟨ad, eA, q0, q1, q2⟩ := at_T187 HC.out (i : Int) e4 e3
      rw [Int.toNat_natCast] at q0 q1 q2
      replace q0 := pw_cell_below HB.out q0
      replace q1 := pw_cell_below HB.out q1
      replace q2 := pw_cell_below HB.out q2
      rw [← hx] at q0 q1 q2
      subst eA
      have hst := filter_take L (fun x => !(x.f0.toList == s.toList)) i hlt
      rw [← Hl4.out, ← hx] at hst
      by_cases he : (x.f0.toList == s.toList) = true
      · have he2 : (x.f0.toList != s.toList) = false := by simpa [bne] using he
        rw [if_neg (by rw [he]; simp), List.append_nil] at hst
        have HST := Aside0.mk hst
        clear hst hx hl4
        go_wp2_with (fail)
        go_roundg (L.length - (i + 1))
        case measure => have := hi.out; omega
        case rel => exact ⟨i + 1, A4, c4, l4, rfl, by simp, ⟨by omega, rfl⟩, ⟨HST.out.symm⟩, HO, HB⟩
      · have he := Bool.eq_false_iff.2 he
        have he2 : (x.f0.toList != s.toList) = true := by simpa [bne] using he
        rw [if_pos (by rw [he]; rfl)] at hst
        have HST := Aside0.mk hst
        clear hst hx hl4
        go_wp2_with (first
          | ((with_reducible refine gate_builtin (b := .append) (xs := #[.tmp 25, .tmp 33]) rfl ?_); at_builtin; refine Kd.R_append k187 (w0 := W) W.heap.size rfl (.tmp 25) (.tmp 33) 180 187 (.agg #[.string ByteArray.empty, .string ByteArray.empty, .string ByteArray.empty]) 48 rfl Try.underlying180 info_f rfl (by decide) (by decide) (.slice A4 l4.length c4) l4 x [.string x.f0, .string x.f1, .string x.f2] (fun _ => True) (fun _ => False) rfl rfl (k187_mkM _ _ _ _) (fun _ hk => hk.elim) (fun _ _ => trivial) HO.out HB.out HB.out.size (by have := HLL.out; omega) ?_; intro v1 w1 ho hb hg hat; obtain ⟨A5, c5, e5⟩ := Kd.R_slice ho; subst e5; have n0_ := Aside0.mk ho; have n1_ := Aside0.mk hb; clear HO HB; have HO := n0_; have HB := n1_; clear n0_ n1_ ho hb hg hat)
          | fail)
        go_roundg (L.length - (i + 1))
        case measure => have := hi.out; omega
        case rel => exact ⟨i + 1, A5, c5, l4 ++ [x], by simp, by simp, ⟨by omega, rfl⟩, ⟨HST.out.symm⟩, HO, HB⟩
    · have hie : i = L.length := by have := hi.out.1; omega
      subst hie
      have e1 : decide ((L.length : Int) < (L.length : Int)) = false := decide_eq_false (by omega)
      have e2 : decide (L.length < L.length) = false := decide_eq_false (by omega)
      have f0 : wr.frozen? ⟨r, 0, none⟩ = false := (HR.out.below HB.out).fr 0
      have hend := HR.out.row HB.out hbase HF.out HO.out
      have hl4 : l4 = outL L s := by rw [Hl4.out, List.take_length]; rfl
      have HE := Aside0.mk hend
      have HL4 := Aside0.mk hl4
      clear hend hl4
      go_wp2_with (fail)
      go_end0
      exact ⟨rfl, HL4.out ▸ HE.out.1, HE.out.2⟩
end Go.Proofs.Ytobgijpbfmpdaaa.Rk
/- prompterref25.Disk: put. -/
set_option linter.unusedVariables false
set_option linter.unusedSimpArgs false
set_option maxRecDepth 100000
namespace Go.Proofs.Ytobgijpbfmpdaaa.Rk
open Go.RowKit Go.Proofs.YtobgijpbfmpdaaaW.PrintWords Go.Proofs.YtobgijpbfmpdaaaW.PrintLast Go.Proofs.YtobgijpbfmpdaaaW.PrintMore
open Go.Proofs.Ytobgijpbfmpdaaa.Fm Go.Proofs.Ytobgijpbfmpdaaa.Mp Go.Proofs.Ytobgijpbfmpdaaa.PDq
set_option maxHeartbeats 8000000
def lowL (L : List S187) (f : S187) : List S187 := L.filter fun x => Op.bytesLess x.f0.toList f.f0.toList
def highL (L : List S187) (f : S187) : List S187 := L.filter fun x => !(Op.bytesLess x.f0.toList f.f0.toList || x.f0.toList == f.f0.toList)
def putL (L : List S187) (f : S187) : List S187 := lowL L f ++ [f] ++ highL L f
theorem run_gtr (x f : ByteArray) (W : World) : (binOp .gtr 9 (.string x) (.string f)).run Try.prog W = .ok (.bool (!(Op.bytesLess x.toList f.toList || x.toList == f.toList))) W := rfl
theorem put_c (r base : Nat) (ok : Nat → Prop) (L : List S187) (off : Bool) (left : Int) (f : S187) (W : World) (h : Rsk W r base ok L off left) (hL : L.length ≤ 1000000) (hbase : base ≤ W.heap.size) (hf : ∀ k, W.heap.size ≤ k → ok k) :
    Calls Try.prog 175 #[.pointer (some ⟨r, 0, none⟩), .agg #[.string f.f0, .string f.f1, .string f.f2]] W fun e W' => e = .returned (.tuple #[]) ∧ Rsk W' r base ok (putL L f) off left ∧ Kb (fun k => k = r) W W' := by
  obtain ⟨A, c, h1, h2⟩ := h.ex
  have hb1 : Below W.heap.size W (W.alloc (.cells #[.string f.f0, .string f.f1, .string f.f2] 187)) := below_alloc (Below.refl _ _) _
  have hC := Kd.C_below (Kd.R_reads' h2).2.2 hb1
  have h1' := h.below hb1
  have c0 : (W.alloc (.cells #[.string f.f0, .string f.f1, .string f.f2] 187)).cell? ⟨r, 0, none⟩ = some (.slice A L.length c) := by rw [blk_cell (blk_below h1 hb1)]; rfl
  have hq : (W.alloc (.cells #[.string f.f0, .string f.f1, .string f.f2] 187)).heap[W.heap.size]? = some (.cells #[.string f.f0, .string f.f1, .string f.f2] 187 (0, 0)) := blk_new _ _
  have HR := Aside0.mk h1'
  have HF := Aside0.mk hf
  have Hb1 := Aside0.mk hb1
  clear h h1 h2 h1' hf hb1
  go_enter Try.func175, Try.ntmps175
  go_wp2
  obtain ⟨W1, hW1⟩ : ∃ W1, W1 = W.alloc (.cells #[.string f.f0, .string f.f1, .string f.f2] 187) := ⟨_, rfl⟩
  rw [← hW1] at hC c0 hq HR Hb1 ⊢
  obtain ⟨q, hqq⟩ : ∃ q, q = W.heap.size := ⟨_, rfl⟩
  rw [← hqq] at hq ⊢
  have t0 : W1.cell? ⟨q, 0, none⟩ = some (.string f.f0) := by rw [blk_cell hq]; rfl
  have t1 : W1.cell? ⟨q, 1, none⟩ = some (.string f.f1) := by rw [blk_cell hq]; rfl
  have t2 : W1.cell? ⟨q, 2, none⟩ = some (.string f.f2) := by rw [blk_cell hq]; rfl
  have HC := Aside0.mk hC
  clear hq hC hW1 hqq
  go_loopg [4, 5] L.length (fun kk v4 v5 wr => ∃ (i : Nat) (A4 : Option Addr) (c4 : Nat) (l4 : List S187), v4 = .slice A4 l4.length c4 ∧ v5 = .int .i64 i ∧ Aside0 (i ≤ L.length ∧ kk = L.length - i) ∧ Aside0 (l4 = ([] : List S187) ++ (L.take i).filter fun x => Op.bytesLess x.f0.toList f.f0.toList) ∧
    Aside0 (Kd.R k187 187 wr W1.heap.size (fun _ => True) (.slice A4 l4.length c4) l4) ∧ Aside0 (Below W1.heap.size W1 wr))
  case atStart => exact ⟨0, none, 0, [], rfl, rfl, ⟨Nat.zero_le _, rfl⟩, ⟨rfl⟩, ⟨Kd.R_nil _ _ _ _ _⟩, ⟨Below.refl _ _⟩⟩
  case round =>
    obtain ⟨i, A4, c4, l4, rfl, rfl, hi, Hl4, HO, HB⟩ := hrel
    have d0 := pw_cell_below HB.out c0
    have u0_ := pw_cell_below HB.out t0
    have u1_ := pw_cell_below HB.out t1
    have u2_ := pw_cell_below HB.out t2
    have hl4 : l4.length ≤ 2000002 := by
      have h3 := List.length_filter_le (fun x : S187 => Op.bytesLess x.f0.toList f.f0.toList) (L.take i)
      rw [Hl4.out, List.length_append]
      rw [List.length_take] at h3
      have h4 : (([] : List S187)).length ≤ 1000001 := by simp
      omega
    have HLL := Aside0.mk hl4
    clear hl4
    by_cases hlt : i < L.length
    · have e1 : decide ((i : Int) < (L.length : Int)) = true := decide_eq_true (by omega)
      have e2 : decide (i < L.length) = true := decide_eq_true hlt
      have e3 : (i : Int) < (L.length : Int) := by omega
      have e4 : (0 : Int) ≤ (i : Int) := by omega
      obtain ⟨x, hx⟩ : ∃ x, x = rd_T187 L (i : Int) := ⟨_, rfl⟩
      obtain ⟨ad, eA, q0, q1, q2⟩ := at_T187 HC.out (i : Int) e4 e3
      rw [Int.toNat_natCast] at q0 q1 q2
      replace q0 := pw_cell_below HB.out q0
      replace q1 := pw_cell_below HB.out q1
      replace q2 := pw_cell_below HB.out q2
      rw [← hx] at q0 q1 q2
      subst eA
      have hst := filter_take L (fun x => Op.bytesLess x.f0.toList f.f0.toList) i hlt
      have hst2 : ([] : List S187) ++ (L.take (i + 1)).filter (fun x => Op.bytesLess x.f0.toList f.f0.toList) = l4 ++ (if (fun x : S187 => Op.bytesLess x.f0.toList f.f0.toList) x then [x] else []) := by rw [hst, Hl4.out, ← hx]; simp only [List.append_assoc]
      clear hst hx
      by_cases he : (Op.bytesLess x.f0.toList f.f0.toList) = true
      · rw [if_pos he] at hst2
        have HST := Aside0.mk hst2
        clear hst2
        go_wp2_with (first
          | ((with_reducible refine gate_builtin (b := .append) (xs := #[.tmp 27, .tmp 35]) rfl ?_); at_builtin; refine Kd.R_append k187 (w0 := W1) W1.heap.size rfl (.tmp 27) (.tmp 35) 180 187 (.agg #[.string ByteArray.empty, .string ByteArray.empty, .string ByteArray.empty]) 48 rfl Try.underlying180 info_f rfl (by decide) (by decide) (.slice A4 l4.length c4) l4 x [.string x.f0, .string x.f1, .string x.f2] (fun _ => True) (fun _ => False) rfl rfl (k187_mkM _ _ _ _) (fun _ hk => hk.elim) (fun _ _ => trivial) (Kd.R_drewN HO.out nq) (pw_below_drewN HB.out nq) (pw_below_drewN HB.out nq).size (by have := HLL.out; omega) ?_; intro v1 w1 ho hb hg hat; obtain ⟨A5, c5, e5⟩ := Kd.R_slice ho; subst e5; have n0_ := Aside0.mk ho; have n1_ := Aside0.mk hb; clear HO HB; have HO := n0_; have HB := n1_; clear n0_ n1_ ho hb hg hat)
          | go_quiet (fail))
        go_roundg (L.length - (i + 1))
        case measure => have := hi.out; omega
        case rel => exact ⟨i + 1, A5, c5, l4 ++ [x], by simp, by simp, ⟨by omega, rfl⟩, ⟨HST.out.symm⟩, HO, HB⟩
      · rw [if_neg he, List.append_nil] at hst2
        have he := Bool.eq_false_iff.2 he
        have HST := Aside0.mk hst2
        clear hst2
        go_wp2_with (first
          | go_quiet (fail)
          | fail)
        go_roundg (L.length - (i + 1))
        case measure => have := hi.out; omega
        case rel => exact ⟨i + 1, A4, c4, l4, rfl, by simp, ⟨by omega, rfl⟩, ⟨HST.out.symm⟩, ⟨Kd.R_drewN HO.out _⟩, ⟨pw_below_drewN HB.out _⟩⟩
    · have hie : i = L.length := by have := hi.out.1; omega
      subst hie
      have e1 : decide ((L.length : Int) < (L.length : Int)) = false := decide_eq_false (by omega)
      have e2 : decide (L.length < L.length) = false := decide_eq_false (by omega)
      go_wp2_with (first
        | ((with_reducible refine gate_builtin (b := .append) (xs := #[.tmp 37, .tmp 39]) rfl ?_); at_builtin; refine Kd.R_append k187 (w0 := W1) W1.heap.size rfl (.tmp 37) (.tmp 39) 180 187 (.agg #[.string ByteArray.empty, .string ByteArray.empty, .string ByteArray.empty]) 48 rfl Try.underlying180 info_f rfl (by decide) (by decide) (.slice A4 l4.length c4) l4 f [.string f.f0, .string f.f1, .string f.f2] (fun _ => True) (fun _ => False) rfl rfl (k187_mkM _ _ _ _) (fun _ hk => hk.elim) (fun _ _ => trivial) (HO.out) (HB.out) (HB.out).size (by have := HLL.out; omega) ?_; intro v1 w1 ho hb hg hat; obtain ⟨A5, c5, e5⟩ := Kd.R_slice ho; subst e5; have n0_ := Aside0.mk ho; have n1_ := Aside0.mk hb; clear HO HB; have HO := n0_; have HB := n1_; clear n0_ n1_ ho hb hg hat)
        | fail)
      have HL5 : Aside0 (l4 = lowL L f) := ⟨by rw [Hl4.out, List.take_length]; rfl⟩
      obtain ⟨l5, hl5⟩ : ∃ l5, l5 = l4 ++ [f] := ⟨_, rfl⟩
      have H5 := Aside0.mk hl5
      have HO5 := HO
      rw [← hl5] at HO5
      have hll : (l4.length : Nat) + 1 = l5.length := by rw [hl5]; simp
      try rw [hll]
      have HB5 := HB
      clear hl5 hll HO HB HLL Hl4 d0 u0_ u1_ u2_ hi
      have HO := HO5
      clear HO5
      have HB := HB5
      clear HB5
      go_loopg [4, 6] L.length (fun kk v4 v5 wr => ∃ (i : Nat) (A4 : Option Addr) (c4 : Nat) (l4 : List S187), v4 = .slice A4 l4.length c4 ∧ v5 = .int .i64 i ∧ Aside0 (i ≤ L.length ∧ kk = L.length - i) ∧ Aside0 (l4 = (lowL L f ++ [f]) ++ (L.take i).filter fun x => !(Op.bytesLess x.f0.toList f.f0.toList || x.f0.toList == f.f0.toList)) ∧
        Aside0 (Kd.R k187 187 wr W1.heap.size (fun _ => True) (.slice A4 l4.length c4) l4) ∧ Aside0 (Below W1.heap.size W1 wr))
      case atStart => exact ⟨0, A5, c5, l5, rfl, rfl, ⟨Nat.zero_le _, rfl⟩, ⟨by rw [H5.out, HL5.out]; simp⟩, HO, HB⟩
      case round =>
        clear HO HB
        obtain ⟨i, A4, c4, l4, rfl, rfl, hi, Hl4, HO, HB⟩ := hrel
        have d0 := pw_cell_below HB.out c0
        have u0_ := pw_cell_below HB.out t0
        have u1_ := pw_cell_below HB.out t1
        have u2_ := pw_cell_below HB.out t2
        have hl4 : l4.length ≤ 2000002 := by
          have h3 := List.length_filter_le (fun x : S187 => !(Op.bytesLess x.f0.toList f.f0.toList || x.f0.toList == f.f0.toList)) (L.take i)
          rw [Hl4.out, List.length_append]
          rw [List.length_take] at h3
          have h4 : ((lowL L f ++ [f])).length ≤ 1000001 := by rw [List.length_append]; have := List.length_filter_le (fun x : S187 => Op.bytesLess x.f0.toList f.f0.toList) L; show (L.filter _).length + 1 ≤ _; omega
          omega
        have HLL := Aside0.mk hl4
        clear hl4
        by_cases hlt : i < L.length
        · have e1 : decide ((i : Int) < (L.length : Int)) = true := decide_eq_true (by omega)
          have e2 : decide (i < L.length) = true := decide_eq_true hlt
          have e3 : (i : Int) < (L.length : Int) := by omega
          have e4 : (0 : Int) ≤ (i : Int) := by omega
          obtain ⟨x, hx⟩ : ∃ x, x = rd_T187 L (i : Int) := ⟨_, rfl⟩
          obtain ⟨ad, eA, q0, q1, q2⟩ := at_T187 HC.out (i : Int) e4 e3
          rw [Int.toNat_natCast] at q0 q1 q2
          replace q0 := pw_cell_below HB.out q0
          replace q1 := pw_cell_below HB.out q1
          replace q2 := pw_cell_below HB.out q2
          rw [← hx] at q0 q1 q2
          subst eA
          have hst := filter_take L (fun x => !(Op.bytesLess x.f0.toList f.f0.toList || x.f0.toList == f.f0.toList)) i hlt
          have hst2 : (lowL L f ++ [f]) ++ (L.take (i + 1)).filter (fun x => !(Op.bytesLess x.f0.toList f.f0.toList || x.f0.toList == f.f0.toList)) = l4 ++ (if (fun x : S187 => !(Op.bytesLess x.f0.toList f.f0.toList || x.f0.toList == f.f0.toList)) x then [x] else []) := by rw [hst, Hl4.out, ← hx]; simp only [List.append_assoc]
          clear hst hx
          by_cases he : (!(Op.bytesLess x.f0.toList f.f0.toList || x.f0.toList == f.f0.toList)) = true
          · rw [if_pos he] at hst2
            have HST := Aside0.mk hst2
            clear hst2
            have hgt : ∀ W : World, (binOp .gtr 9 (.string x.f0) (.string f.f0)).run Try.prog W = .ok (.bool true) W := fun W => by rw [run_gtr, he]
            clear he
            go_wp2_with (first
              | ((with_reducible refine gate_builtin (b := .append) (xs := #[.tmp 61, .tmp 69]) rfl ?_); at_builtin; refine Kd.R_append k187 (w0 := W1) W1.heap.size rfl (.tmp 61) (.tmp 69) 180 187 (.agg #[.string ByteArray.empty, .string ByteArray.empty, .string ByteArray.empty]) 48 rfl Try.underlying180 info_f rfl (by decide) (by decide) (.slice A4 l4.length c4) l4 x [.string x.f0, .string x.f1, .string x.f2] (fun _ => True) (fun _ => False) rfl rfl (k187_mkM _ _ _ _) (fun _ hk => hk.elim) (fun _ _ => trivial) (Kd.R_drewN HO.out nq) (pw_below_drewN HB.out nq) (pw_below_drewN HB.out nq).size (by have := HLL.out; omega) ?_; intro v1 w1 ho hb hg hat; obtain ⟨A5, c5, e5⟩ := Kd.R_slice ho; subst e5; have n0_ := Aside0.mk ho; have n1_ := Aside0.mk hb; clear HO HB; have HO := n0_; have HB := n1_; clear n0_ n1_ ho hb hg hat)
              | go_quiet (fail))
            go_roundg (L.length - (i + 1))
            case measure => have := hi.out; omega
            case rel => exact ⟨i + 1, A5, c5, l4 ++ [x], by simp, by simp, ⟨by omega, rfl⟩, ⟨HST.out.symm⟩, HO, HB⟩
          · rw [if_neg he, List.append_nil] at hst2
            have he := Bool.eq_false_iff.2 he
            have HST := Aside0.mk hst2
            clear hst2
            have hgt : ∀ W : World, (binOp .gtr 9 (.string x.f0) (.string f.f0)).run Try.prog W = .ok (.bool false) W := fun W => by rw [run_gtr, he]
            clear he
            go_wp2_with (first
              | go_quiet (fail)
              | fail)
            go_roundg (L.length - (i + 1))
            case measure => have := hi.out; omega
            case rel => exact ⟨i + 1, A4, c4, l4, rfl, by simp, ⟨by omega, rfl⟩, ⟨HST.out.symm⟩, ⟨Kd.R_drewN HO.out _⟩, ⟨pw_below_drewN HB.out _⟩⟩
        · have hie : i = L.length := by have := hi.out.1; omega
          subst hie
          have e1 : decide ((L.length : Int) < (L.length : Int)) = false := decide_eq_false (by omega)
          have e2 : decide (L.length < L.length) = false := decide_eq_false (by omega)
          have f0 : wr.frozen? ⟨r, 0, none⟩ = false := (HR.out.below HB.out).fr 0
          have hend := HR.out.row HB.out (Nat.le_trans hbase Hb1.out.size) (fun k hk => HF.out k (Nat.le_trans Hb1.out.size hk)) HO.out
          have hl4 : l4 = putL L f := by rw [Hl4.out, List.take_length]; rfl
          have HE := Aside0.mk hend
          have HL4 := Aside0.mk hl4
          clear hend hl4
          go_wp2_with (fail)
          go_end0
          exact ⟨rfl, HL4.out ▸ HE.out.1, (Kb.of_below _ Hb1.out).trans HE.out.2⟩
end Go.Proofs.Ytobgijpbfmpdaaa.Rk
/- prompterref25.Disk: Append. -/
set_option linter.unusedVariables false
set_option linter.unusedSimpArgs false
set_option maxRecDepth 100000
namespace Go.Proofs.Ytobgijpbfmpdaaa.Rk
open Go.RowKit Go.Proofs.YtobgijpbfmpdaaaW.PrintWords Go.Proofs.YtobgijpbfmpdaaaW.PrintLast Go.Proofs.YtobgijpbfmpdaaaW.PrintMore
open Go.Proofs.Ytobgijpbfmpdaaa.Fm Go.Proofs.Ytobgijpbfmpdaaa.Mp Go.Proofs.Ytobgijpbfmpdaaa.PDq
set_option maxHeartbeats 8000000
def oldF (L : List S187) (s : ByteArray) : S187 := if 0 ≤ findL L s then rd_T187 L (findL L s) else ⟨s, ByteArray.empty, ByteArray.empty⟩
def appF (L : List S187) (s : ByteArray) (x : List Int) : S187 := ⟨(oldF L s).f0, (oldF L s).f1, (oldF L s).f2 ++ strOfNums x⟩
def rappR (off : Bool) (left : Int) (L : List S187) (s : ByteArray) (x : List Int) : Int × Bool × Int × List S187 :=
  if off then (250, off, left, L) else (if (failR off left).1 then 250 else 0, (failR off left).2.1, (failR off left).2.2, putL L (appF L s x))
theorem findL_lt (L : List S187) (s : ByteArray) : -1 ≤ findL L s ∧ findL L s < L.length := by
  unfold findL
  split
  · rename_i i h
    have := (List.findIdx?_eq_some_iff_getElem.1 h).1
    omega
  · omega
theorem append_c (r base : Nat) (ok : Nat → Prop) (L : List S187) (off : Bool) (left : Int) (s : ByteArray) (A : Option Addr) (c : Nat) (x : List Int) (W : World) (h : Rsk W r base ok L off left) (hl : -1 ≤ left ∧ left ≤ 9223372036854775807) (hL : L.length ≤ 1000000) (hbase : base ≤ W.heap.size) (hf : ∀ k, W.heap.size ≤ k → ok k)
    (hC : Kd.F (Kd.int .u8) W (fun k => k ≠ r) A x.length x) (hsz : (oldF L s).f2.size + (strOfNums x).size ≤ 9223372036854775807) :
    Calls Try.prog 127 #[.pointer (some ⟨r, 0, none⟩), .string s, .slice A x.length c] W fun e W' => e = .returned (.int .i64 (rappR off left L s x).1) ∧ Rsk W' r base ok (rappR off left L s x).2.2.2 (rappR off left L s x).2.1 (rappR off left L s x).2.2.1 ∧ Kb (fun k => k = r) W W' := by
  have c1 := h.c1
  have HR := Aside0.mk h
  have HF := Aside0.mk hf
  have HC := Aside0.mk hC
  clear h hf hC
  cases off
  · obtain ⟨z, hz⟩ : ∃ z, z = failR false left := ⟨_, rfl⟩
    obtain ⟨dn, o2, l2⟩ := z
    have hr : rappR false left L s x = (if dn then 250 else 0, o2, l2, putL L (appF L s x)) := by unfold rappR; rw [if_neg (by simp), ← hz]
    rw [hr]
    have HZ := Aside0.mk hz
    clear hz hr
    have hfl := findL_lt L s
    obtain ⟨t, ht⟩ : ∃ t, t = findL L s := ⟨_, rfl⟩
    rw [← ht] at hfl
    have HT := Aside0.mk ht
    obtain ⟨y, hy⟩ : ∃ y, y = oldF L s := ⟨_, rfl⟩
    rw [← hy] at hsz
    have hap : appF L s x = ⟨y.f0, y.f1, y.f2 ++ strOfNums x⟩ := by unfold appF; rw [← hy]
    rw [hap]
    by_cases h0 : 0 ≤ t
    · have hyr : y = rd_T187 L t := by rw [hy]; unfold oldF; rw [← ht, if_pos h0]
      clear hy hap ht
      have b0 : decide (0 ≤ t) = true := decide_eq_true h0
      have b1 : t < (L.length : Int) := hfl.2
      have HYR := Aside0.mk hyr
      clear hyr
      cases dn
      · go_enter Try.func127, Try.ntmps127
        go_wp2_with (first
          | ((with_reducible refine gate_callee (f := 173) rfl ?_); refine goesL_ (some 15) rfl rfl Try.func173 (by kernel_rfl) rfl #[.pointer (some ⟨r, 0, none⟩)] rfl (by (try simp only [List.map_toArray, List.map_cons, List.map_nil]); first | done | rfl) ?_; refine (fails_c _ _ _ _ _ _ _ HR.out hl).mono ?_; rintro e w2 ⟨he, h2, k2⟩; rw [← HZ.out] at he h2; subst he; refine ⟨_, rfl, ?_⟩; have HR2 := Aside0.mk h2; have HK2 := Aside0.mk k2; have rb := h2.lt; have hcv := (fun (o : Obj) =>  Kd.C_string (P := Try.prog) Try.underlying22 Try.underlying5 Try.underlying9 (c := c) (Kd.C_below (Kd.F_now (Kd.F_step HC.out (fun k hk hlt => k2.block k hlt hk))) (below_alloc (Below.refl _ _) o))); obtain ⟨AL, cL, g1_, g2_⟩ := h2.ex; have d0 : w2.cell? ⟨r, 0, none⟩ = some (.slice AL L.length cL) := (by rw [blk_cell g1_]; rfl); obtain ⟨ad, eA, q0, q1, q2⟩ := at_T187 (Kd.R_reads' g2_).2.2 t h0 b1; rw [← HYR.out] at q0 q1 q2; subst eA; have qb := World.block_lt_of_cell? _ _ q0; have qb' : ad.block < w2.heap.size := (by rw [add_block] at qb; exact qb); clear g1_ g2_; clear h2 k2)
          | ((with_reducible refine gate_callee (f := 174) rfl ?_); refine goesL_ (some 20) rfl rfl Try.func174 (by kernel_rfl) rfl #[.pointer (some ⟨r, 0, none⟩), .string s] rfl (by (try simp only [List.map_toArray, List.map_cons, List.map_nil]); first | done | rfl) ?_; refine (find_c _ _ _ _ _ _ s _ (HR2.out.below (by repeat (first | exact Below.refl _ _ | apply below_alloc | refine Below.setCell ?_ (Nat.le_refl _) _))) hL).mono ?_; rintro e w' ⟨he, hw⟩; have hw := hw.symm; subst hw; rw [← HT.out] at he; subst he; refine ⟨_, rfl, ?_⟩)
          | ((with_reducible refine gate_callee (f := 175) rfl ?_); refine goesL_ (some 38) rfl rfl Try.func175 (by kernel_rfl) rfl #[.pointer (some ⟨r, 0, none⟩), .agg #[.string y.f0, .string y.f1, .string (y.f2 ++ strOfNums x)]] rfl (by (try simp only [List.map_toArray, List.map_cons, List.map_nil]); first | done | rfl) ?_; refine (put_c _ _ _ _ _ _ ⟨y.f0, y.f1, y.f2 ++ strOfNums x⟩ _ (HR2.out.below (below_alloc (Below.refl _ w2) (.cells #[.string y.f0, .string y.f1, .string (y.f2 ++ strOfNums x)] 187))) hL (Nat.le_trans hbase (Nat.le_trans HK2.out.size (below_alloc (Below.refl _ w2) (.cells #[.string y.f0, .string y.f1, .string (y.f2 ++ strOfNums x)] 187)).size)) (fun k hk => HF.out k (Nat.le_trans HK2.out.size (Nat.le_trans (below_alloc (Below.refl _ w2) (.cells #[.string y.f0, .string y.f1, .string (y.f2 ++ strOfNums x)] 187)).size hk)))).mono ?_; rintro e w4 ⟨rfl, h4, k4⟩; refine ⟨_, rfl, ?_⟩; have HR4 := Aside0.mk h4; have HK4 := Aside0.mk (HK2.out.trans ((Kb.of_below _ (below_alloc (Below.refl _ w2) (.cells #[.string y.f0, .string y.f1, .string (y.f2 ++ strOfNums x)] 187))).trans k4)); clear h4 k4)
          | fail)
        go_ret
        exact ⟨rfl, HR4.out, HK4.out⟩
      · go_enter Try.func127, Try.ntmps127
        go_wp2_with (first
          | ((with_reducible refine gate_callee (f := 173) rfl ?_); refine goesL_ (some 15) rfl rfl Try.func173 (by kernel_rfl) rfl #[.pointer (some ⟨r, 0, none⟩)] rfl (by (try simp only [List.map_toArray, List.map_cons, List.map_nil]); first | done | rfl) ?_; refine (fails_c _ _ _ _ _ _ _ HR.out hl).mono ?_; rintro e w2 ⟨he, h2, k2⟩; rw [← HZ.out] at he h2; subst he; refine ⟨_, rfl, ?_⟩; have HR2 := Aside0.mk h2; have HK2 := Aside0.mk k2; have rb := h2.lt; have hcv := (fun (o : Obj) =>  Kd.C_string (P := Try.prog) Try.underlying22 Try.underlying5 Try.underlying9 (c := c) (Kd.C_below (Kd.F_now (Kd.F_step HC.out (fun k hk hlt => k2.block k hlt hk))) (below_alloc (Below.refl _ _) o))); obtain ⟨AL, cL, g1_, g2_⟩ := h2.ex; have d0 : w2.cell? ⟨r, 0, none⟩ = some (.slice AL L.length cL) := (by rw [blk_cell g1_]; rfl); obtain ⟨ad, eA, q0, q1, q2⟩ := at_T187 (Kd.R_reads' g2_).2.2 t h0 b1; rw [← HYR.out] at q0 q1 q2; subst eA; have qb := World.block_lt_of_cell? _ _ q0; have qb' : ad.block < w2.heap.size := (by rw [add_block] at qb; exact qb); clear g1_ g2_; clear h2 k2)
          | ((with_reducible refine gate_callee (f := 174) rfl ?_); refine goesL_ (some 20) rfl rfl Try.func174 (by kernel_rfl) rfl #[.pointer (some ⟨r, 0, none⟩), .string s] rfl (by (try simp only [List.map_toArray, List.map_cons, List.map_nil]); first | done | rfl) ?_; refine (find_c _ _ _ _ _ _ s _ (HR2.out.below (by repeat (first | exact Below.refl _ _ | apply below_alloc | refine Below.setCell ?_ (Nat.le_refl _) _))) hL).mono ?_; rintro e w' ⟨he, hw⟩; have hw := hw.symm; subst hw; rw [← HT.out] at he; subst he; refine ⟨_, rfl, ?_⟩)
          | ((with_reducible refine gate_callee (f := 175) rfl ?_); refine goesL_ (some 38) rfl rfl Try.func175 (by kernel_rfl) rfl #[.pointer (some ⟨r, 0, none⟩), .agg #[.string y.f0, .string y.f1, .string (y.f2 ++ strOfNums x)]] rfl (by (try simp only [List.map_toArray, List.map_cons, List.map_nil]); first | done | rfl) ?_; refine (put_c _ _ _ _ _ _ ⟨y.f0, y.f1, y.f2 ++ strOfNums x⟩ _ (HR2.out.below (below_alloc (Below.refl _ w2) (.cells #[.string y.f0, .string y.f1, .string (y.f2 ++ strOfNums x)] 187))) hL (Nat.le_trans hbase (Nat.le_trans HK2.out.size (below_alloc (Below.refl _ w2) (.cells #[.string y.f0, .string y.f1, .string (y.f2 ++ strOfNums x)] 187)).size)) (fun k hk => HF.out k (Nat.le_trans HK2.out.size (Nat.le_trans (below_alloc (Below.refl _ w2) (.cells #[.string y.f0, .string y.f1, .string (y.f2 ++ strOfNums x)] 187)).size hk)))).mono ?_; rintro e w4 ⟨rfl, h4, k4⟩; refine ⟨_, rfl, ?_⟩; have HR4 := Aside0.mk h4; have HK4 := Aside0.mk (HK2.out.trans ((Kb.of_below _ (below_alloc (Below.refl _ w2) (.cells #[.string y.f0, .string y.f1, .string (y.f2 ++ strOfNums x)] 187))).trans k4)); clear h4 k4)
          | fail)
        go_ret
        exact ⟨rfl, HR4.out, HK4.out⟩
    · have hyr : y = ⟨s, ByteArray.empty, ByteArray.empty⟩ := by rw [hy]; unfold oldF; rw [← ht, if_neg h0]
      clear hy hap ht
      subst hyr
      have b0 : decide (0 ≤ t) = false := decide_eq_false h0
      cases dn
      · go_enter Try.func127, Try.ntmps127
        go_wp2_with (first
          | ((with_reducible refine gate_callee (f := 173) rfl ?_); refine goesL_ (some 15) rfl rfl Try.func173 (by kernel_rfl) rfl #[.pointer (some ⟨r, 0, none⟩)] rfl (by (try simp only [List.map_toArray, List.map_cons, List.map_nil]); first | done | rfl) ?_; refine (fails_c _ _ _ _ _ _ _ HR.out hl).mono ?_; rintro e w2 ⟨he, h2, k2⟩; rw [← HZ.out] at he h2; subst he; refine ⟨_, rfl, ?_⟩; have HR2 := Aside0.mk h2; have HK2 := Aside0.mk k2; have rb := h2.lt; have hcv := (fun (o : Obj) =>  Kd.C_string (P := Try.prog) Try.underlying22 Try.underlying5 Try.underlying9 (c := c) (Kd.C_below (Kd.F_now (Kd.F_step HC.out (fun k hk hlt => k2.block k hlt hk))) (below_alloc (Below.refl _ _) o))); clear h2 k2)
          | ((with_reducible refine gate_callee (f := 174) rfl ?_); refine goesL_ (some 20) rfl rfl Try.func174 (by kernel_rfl) rfl #[.pointer (some ⟨r, 0, none⟩), .string s] rfl (by (try simp only [List.map_toArray, List.map_cons, List.map_nil]); first | done | rfl) ?_; refine (find_c _ _ _ _ _ _ s _ (HR2.out.below (by repeat (first | exact Below.refl _ _ | apply below_alloc | refine Below.setCell ?_ (Nat.le_refl _) _))) hL).mono ?_; rintro e w' ⟨he, hw⟩; have hw := hw.symm; subst hw; rw [← HT.out] at he; subst he; refine ⟨_, rfl, ?_⟩)
          | ((with_reducible refine gate_callee (f := 175) rfl ?_); refine goesL_ (some 38) rfl rfl Try.func175 (by kernel_rfl) rfl #[.pointer (some ⟨r, 0, none⟩), .agg #[.string s, .string ByteArray.empty, .string (ByteArray.empty ++ strOfNums x)]] rfl (by (try simp only [List.map_toArray, List.map_cons, List.map_nil]); first | done | rfl) ?_; refine (put_c _ _ _ _ _ _ ⟨s, ByteArray.empty, ByteArray.empty ++ strOfNums x⟩ _ (HR2.out.below (below_alloc (Below.refl _ w2) (.cells #[.string s, .string ByteArray.empty, .string (ByteArray.empty ++ strOfNums x)] 187))) hL (Nat.le_trans hbase (Nat.le_trans HK2.out.size (below_alloc (Below.refl _ w2) (.cells #[.string s, .string ByteArray.empty, .string (ByteArray.empty ++ strOfNums x)] 187)).size)) (fun k hk => HF.out k (Nat.le_trans HK2.out.size (Nat.le_trans (below_alloc (Below.refl _ w2) (.cells #[.string s, .string ByteArray.empty, .string (ByteArray.empty ++ strOfNums x)] 187)).size hk)))).mono ?_; rintro e w4 ⟨rfl, h4, k4⟩; refine ⟨_, rfl, ?_⟩; have HR4 := Aside0.mk h4; have HK4 := Aside0.mk (HK2.out.trans ((Kb.of_below _ (below_alloc (Below.refl _ w2) (.cells #[.string s, .string ByteArray.empty, .string (ByteArray.empty ++ strOfNums x)] 187))).trans k4)); clear h4 k4)
          | fail)
        go_ret
        exact ⟨rfl, HR4.out, HK4.out⟩
      · go_enter Try.func127, Try.ntmps127
        go_wp2_with (first
          | ((with_reducible refine gate_callee (f := 173) rfl ?_); refine goesL_ (some 15) rfl rfl Try.func173 (by kernel_rfl) rfl #[.pointer (some ⟨r, 0, none⟩)] rfl (by (try simp only [List.map_toArray, List.map_cons, List.map_nil]); first | done | rfl) ?_; refine (fails_c _ _ _ _ _ _ _ HR.out hl).mono ?_; rintro e w2 ⟨he, h2, k2⟩; rw [← HZ.out] at he h2; subst he; refine ⟨_, rfl, ?_⟩; have HR2 := Aside0.mk h2; have HK2 := Aside0.mk k2; have rb := h2.lt; have hcv := (fun (o : Obj) =>  Kd.C_string (P := Try.prog) Try.underlying22 Try.underlying5 Try.underlying9 (c := c) (Kd.C_below (Kd.F_now (Kd.F_step HC.out (fun k hk hlt => k2.block k hlt hk))) (below_alloc (Below.refl _ _) o))); clear h2 k2)
          | ((with_reducible refine gate_callee (f := 174) rfl ?_); refine goesL_ (some 20) rfl rfl Try.func174 (by kernel_rfl) rfl #[.pointer (some ⟨r, 0, none⟩), .string s] rfl (by (try simp only [List.map_toArray, List.map_cons, List.map_nil]); first | done | rfl) ?_; refine (find_c _ _ _ _ _ _ s _ (HR2.out.below (by repeat (first | exact Below.refl _ _ | apply below_alloc | refine Below.setCell ?_ (Nat.le_refl _) _))) hL).mono ?_; rintro e w' ⟨he, hw⟩; have hw := hw.symm; subst hw; rw [← HT.out] at he; subst he; refine ⟨_, rfl, ?_⟩)
          | ((with_reducible refine gate_callee (f := 175) rfl ?_); refine goesL_ (some 38) rfl rfl Try.func175 (by kernel_rfl) rfl #[.pointer (some ⟨r, 0, none⟩), .agg #[.string s, .string ByteArray.empty, .string (ByteArray.empty ++ strOfNums x)]] rfl (by (try simp only [List.map_toArray, List.map_cons, List.map_nil]); first | done | rfl) ?_; refine (put_c _ _ _ _ _ _ ⟨s, ByteArray.empty, ByteArray.empty ++ strOfNums x⟩ _ (HR2.out.below (below_alloc (Below.refl _ w2) (.cells #[.string s, .string ByteArray.empty, .string (ByteArray.empty ++ strOfNums x)] 187))) hL (Nat.le_trans hbase (Nat.le_trans HK2.out.size (below_alloc (Below.refl _ w2) (.cells #[.string s, .string ByteArray.empty, .string (ByteArray.empty ++ strOfNums x)] 187)).size)) (fun k hk => HF.out k (Nat.le_trans HK2.out.size (Nat.le_trans (below_alloc (Below.refl _ w2) (.cells #[.string s, .string ByteArray.empty, .string (ByteArray.empty ++ strOfNums x)] 187)).size hk)))).mono ?_; rintro e w4 ⟨rfl, h4, k4⟩; refine ⟨_, rfl, ?_⟩; have HR4 := Aside0.mk h4; have HK4 := Aside0.mk (HK2.out.trans ((Kb.of_below _ (below_alloc (Below.refl _ w2) (.cells #[.string s, .string ByteArray.empty, .string (ByteArray.empty ++ strOfNums x)] 187))).trans k4)); clear h4 k4)
          | fail)
        go_ret
        exact ⟨rfl, HR4.out, HK4.out⟩
  · go_enter Try.func127, Try.ntmps127
    go_wp2_with (fail)
    go_ret
    exact ⟨rfl, HR.out, Kb.refl _ _⟩
end Go.Proofs.Ytobgijpbfmpdaaa.Rk
/- prompterref25.Disk: Remove, Fuse, Read. -/
set_option linter.unusedVariables false
set_option linter.unusedSimpArgs false
set_option maxRecDepth 100000
namespace Go.Proofs.Ytobgijpbfmpdaaa.Rk
open Go.RowKit Go.Proofs.YtobgijpbfmpdaaaW.PrintWords Go.Proofs.YtobgijpbfmpdaaaW.PrintLast Go.Proofs.YtobgijpbfmpdaaaW.PrintMore
open Go.Proofs.Ytobgijpbfmpdaaa.Fm Go.Proofs.Ytobgijpbfmpdaaa.Mp Go.Proofs.Ytobgijpbfmpdaaa.PDq
set_option maxHeartbeats 8000000
theorem askR_e (off : Bool) (left : Int) (L : List S187) (s : ByteArray) : (askR off left L s).1 = 0 ∨ (askR off left L s).1 = 5 ∨ (askR off left L s).1 = 250 := by
  unfold askR
  split
  · simp
  split
  · simp
  split <;> simp
def remL (off : Bool) (left : Int) (L : List S187) (s : ByteArray) : List S187 := if (askR off left L s).1 = 0 then outL L s else L
theorem remove_c (r base : Nat) (ok : Nat → Prop) (L : List S187) (off : Bool) (left : Int) (s : ByteArray) (W : World) (h : Rsk W r base ok L off left) (hl : -1 ≤ left ∧ left ≤ 9223372036854775807) (hL : L.length ≤ 1000000) (hbase : base ≤ W.heap.size) (hf : ∀ k, W.heap.size ≤ k → ok k) :
    Calls Try.prog 130 #[.pointer (some ⟨r, 0, none⟩), .string s] W fun e W' => e = .returned (.int .i64 (askR off left L s).1) ∧ Rsk W' r base ok (remL off left L s) (askR off left L s).2.1 (askR off left L s).2.2 ∧ Kb (fun k => k = r) W W' := by
  have HR := Aside0.mk h
  have HF := Aside0.mk hf
  clear h hf
  have hz0 := askR_e off left L s
  unfold remL
  obtain ⟨z, hz⟩ : ∃ z, z = askR off left L s := ⟨_, rfl⟩
  rw [← hz] at hz0 ⊢
  obtain ⟨a, o2, l2⟩ := z
  have HZ := Aside0.mk hz
  clear hz
  dsimp only at hz0 ⊢
  rcases hz0 with rfl | rfl | rfl
  · rw [if_pos rfl]
    go_enter Try.func130, Try.ntmps130
    go_wp2_with (first
      | ((with_reducible refine gate_callee (f := 176) rfl ?_); refine goesL_ (some 8) rfl rfl Try.func176 (by kernel_rfl) rfl #[.pointer (some ⟨r, 0, none⟩), .string s] rfl (by (try simp only [List.map_toArray, List.map_cons, List.map_nil]); first | done | rfl) ?_; refine (asked_c _ _ _ _ _ _ s _ HR.out hl hL).mono ?_; rintro e w2 ⟨he, h2, k2⟩; rw [← HZ.out] at he h2; subst he; refine ⟨_, rfl, ?_⟩; have HR2 := Aside0.mk h2; have HK2 := Aside0.mk k2; clear h2 k2)
      | ((with_reducible refine gate_callee (f := 177) rfl ?_); refine goesL_ (some 13) rfl rfl Try.func177 (by kernel_rfl) rfl #[.pointer (some ⟨r, 0, none⟩), .string s] rfl (by (try simp only [List.map_toArray, List.map_cons, List.map_nil]); first | done | rfl) ?_; refine (out_c _ _ _ _ _ _ s _ HR2.out hL (Nat.le_trans hbase HK2.out.size) (fun k hk => HF.out k (Nat.le_trans HK2.out.size hk))).mono ?_; rintro e w3 ⟨rfl, h3, k3⟩; refine ⟨_, rfl, ?_⟩; have HR3 := Aside0.mk h3; have HK3 := Aside0.mk k3; clear h3 k3)
      | fail)
    go_ret
    exact ⟨rfl, HR3.out, HK2.out.trans HK3.out⟩
  · rw [if_neg (by decide)]
    go_enter Try.func130, Try.ntmps130
    go_wp2_with (first
      | ((with_reducible refine gate_callee (f := 176) rfl ?_); refine goesL_ (some 8) rfl rfl Try.func176 (by kernel_rfl) rfl #[.pointer (some ⟨r, 0, none⟩), .string s] rfl (by (try simp only [List.map_toArray, List.map_cons, List.map_nil]); first | done | rfl) ?_; refine (asked_c _ _ _ _ _ _ s _ HR.out hl hL).mono ?_; rintro e w2 ⟨he, h2, k2⟩; rw [← HZ.out] at he h2; subst he; refine ⟨_, rfl, ?_⟩; have HR2 := Aside0.mk h2; have HK2 := Aside0.mk k2; clear h2 k2)
      | fail)
    go_ret
    exact ⟨rfl, HR2.out, HK2.out⟩
  · rw [if_neg (by decide)]
    go_enter Try.func130, Try.ntmps130
    go_wp2_with (first
      | ((with_reducible refine gate_callee (f := 176) rfl ?_); refine goesL_ (some 8) rfl rfl Try.func176 (by kernel_rfl) rfl #[.pointer (some ⟨r, 0, none⟩), .string s] rfl (by (try simp only [List.map_toArray, List.map_cons, List.map_nil]); first | done | rfl) ?_; refine (asked_c _ _ _ _ _ _ s _ HR.out hl hL).mono ?_; rintro e w2 ⟨he, h2, k2⟩; rw [← HZ.out] at he h2; subst he; refine ⟨_, rfl, ?_⟩; have HR2 := Aside0.mk h2; have HK2 := Aside0.mk k2; clear h2 k2)
      | fail)
    go_ret
    exact ⟨rfl, HR2.out, HK2.out⟩
theorem fuse_c (r base : Nat) (ok : Nat → Prop) (L : List S187) (off : Bool) (left : Int) (n : Int) (W : World) (h : Rsk W r base ok L off left) :
    Calls Try.prog 131 #[.pointer (some ⟨r, 0, none⟩), .int .i64 n] W fun e W' => e = .returned (.int .i64 (Dk.fuseR off left n).2) ∧ Rsk W' r base ok L off (Dk.fuseR off left n).1 ∧ Kb (fun k => k = r) W W' := by
  have c1 := h.c1
  have c2 := h.c2
  have f2 := h.fr 2
  have HR := Aside0.mk h
  clear h
  cases off
  · by_cases hn : n < 0
    · have hb : decide (n < 0) = true := decide_eq_true hn
      rw [show Dk.fuseR false left n = (left, 1) from by unfold Dk.fuseR; rw [if_neg (by simp), if_pos hn]]
      clear hn
      go_enter Try.func131, Try.ntmps131
      go_wp2_with (fail)
      go_ret
      exact ⟨rfl, HR.out, Kb.refl _ _⟩
    · have hb : decide (n < 0) = false := decide_eq_false hn
      rw [show Dk.fuseR false left n = (n, 0) from by unfold Dk.fuseR; rw [if_neg (by simp), if_neg hn]]
      clear hn
      go_enter Try.func131, Try.ntmps131
      go_wp2_with (fail)
      go_ret
      exact ⟨rfl, set2 HR.out _, kset _ _ _ _⟩
  · go_enter Try.func131, Try.ntmps131
    go_wp2_with (fail)
    go_ret
    exact ⟨rfl, HR.out, Kb.refl _ _⟩
def readL (off : Bool) (L : List S187) (s : ByteArray) : ByteArray × Int := if off then (ByteArray.empty, 250) else if findL L s < 0 then (ByteArray.empty, 5) else ((rd_T187 L (findL L s)).f1 ++ (rd_T187 L (findL L s)).f2, 0)
theorem read_c (r base : Nat) (ok : Nat → Prop) (L : List S187) (off : Bool) (left : Int) (s : ByteArray) (W : World) (h : Rsk W r base ok L off left) (hL : L.length ≤ 1000000) (hsz : ∀ y ∈ L, y.f1.size + y.f2.size ≤ 9223372036854775807) :
    Calls Try.prog 133 #[.pointer (some ⟨r, 0, none⟩), .string s] W fun e W' => e = .returned (.tuple #[.string (readL off L s).1, .int .i64 (readL off L s).2]) ∧ Below W.heap.size W W' := by
  have c1 := h.c1
  have HR := Aside0.mk h
  obtain ⟨A, c, h1, h2⟩ := h.ex
  have c0 : W.cell? ⟨r, 0, none⟩ = some (.slice A L.length c) := by rw [blk_cell h1]; rfl
  have HC := Aside0.mk (Kd.R_reads' h2).2.2
  clear h h1 h2
  cases off
  · have hfl := findL_lt L s
    unfold readL
    obtain ⟨t, ht⟩ : ∃ t, t = findL L s := ⟨_, rfl⟩
    rw [← ht] at hfl ⊢
    have HT := Aside0.mk ht
    clear ht
    by_cases h0 : t < 0
    · have b0 : decide (t < 0) = true := decide_eq_true h0
      rw [if_neg (by simp), if_pos h0]
      clear h0
      go_enter Try.func133, Try.ntmps133
      go_wp2_with (first
        | ((with_reducible refine gate_callee (f := 174) rfl ?_); refine goesL_ (some 13) rfl rfl Try.func174 (by kernel_rfl) rfl #[.pointer (some ⟨r, 0, none⟩), .string s] rfl (by (try simp only [List.map_toArray, List.map_cons, List.map_nil]); first | done | rfl) ?_; refine (find_c _ _ _ _ _ _ s _ HR.out hL).mono ?_; rintro e w' ⟨he, hw⟩; have hw := hw.symm; subst hw; rw [← HT.out] at he; subst he; refine ⟨_, rfl, ?_⟩)
        | fail)
      go_ret2
      exact ⟨rfl, Below.refl _ _⟩
    · have b0 : decide (t < 0) = false := decide_eq_false h0
      rw [if_neg (by simp), if_neg h0]
      have t0 : 0 ≤ t := by omega
      have t1 : t < (L.length : Int) := hfl.2
      obtain ⟨y, hy⟩ : ∃ y, y = rd_T187 L t := ⟨_, rfl⟩
      obtain ⟨ad, eA, q0, q1, q2⟩ := at_T187 HC.out t t0 t1
      have hsy : y.f1.size + y.f2.size ≤ 9223372036854775807 := by
        refine hsz y ?_
        rw [hy]
        have := rd_at (L := L) (i := t.toNat) (by omega)
        rw [Int.toNat_of_nonneg t0] at this
        rw [this]
        exact List.getElem_mem _
      rw [← hy] at q0 q1 q2 ⊢
      subst eA
      clear h0 hy hsz
      go_enter Try.func133, Try.ntmps133
      go_wp2_with (first
        | ((with_reducible refine gate_callee (f := 174) rfl ?_); refine goesL_ (some 13) rfl rfl Try.func174 (by kernel_rfl) rfl #[.pointer (some ⟨r, 0, none⟩), .string s] rfl (by (try simp only [List.map_toArray, List.map_cons, List.map_nil]); first | done | rfl) ?_; refine (find_c _ _ _ _ _ _ s _ HR.out hL).mono ?_; rintro e w' ⟨he, hw⟩; have hw := hw.symm; subst hw; rw [← HT.out] at he; subst he; refine ⟨_, rfl, ?_⟩)
        | go_quiet (fail))
      go_ret2
      exact ⟨rfl, pw_below_drewN (Below.refl _ _) _⟩
  · go_enter Try.func133, Try.ntmps133
    go_wp2_with (fail)
    go_ret2
    exact ⟨rfl, Below.refl _ _⟩
end Go.Proofs.Ytobgijpbfmpdaaa.Rk
/- prompterref25.Disk: Sync, Rename. -/
set_option linter.unusedVariables false
set_option linter.unusedSimpArgs false
set_option maxRecDepth 100000
namespace Go.Proofs.Ytobgijpbfmpdaaa.Rk
open Go.RowKit Go.Proofs.YtobgijpbfmpdaaaW.PrintWords Go.Proofs.YtobgijpbfmpdaaaW.PrintLast Go.Proofs.YtobgijpbfmpdaaaW.PrintMore
open Go.Proofs.Ytobgijpbfmpdaaa.Fm Go.Proofs.Ytobgijpbfmpdaaa.Mp Go.Proofs.Ytobgijpbfmpdaaa.PDq
set_option maxHeartbeats 8000000
theorem two_ {P : Program} {md : Region.Mode} {ops : Array Oper} {Q : Exit → Act → World → Prop} {S : World → Prop} {ds : List Nat} {i j : Nat} {N M : Option Tmp} {oi oj : Oper} {fuel : Nat} {l : Array Bool} {a : Act} {w : World} (l1 l2 : Array Bool) (hi : ops[i]? = some oi) (hj : ops[j]? = some oj) (hN : oi.dst = N) (hM : oj.dst = M)
    (hc : (Region.ready md ops l == [i, j] && l.setIfInBounds i true == l1 && l.setIfInBounds j true == l2) = true) (hdi : i ∉ ds) (hdj : j ∉ ds)
    (h1 : ∀ K : Act → World → Prop, Shut (∀ a' w', S w' → (S w' → wpAnyLast P md ops Q S ds fuel l1 a' w') → K a' w') → if Region.wanted oi (yielded ops a.tmps) = true then Oper.wp P oi a w K Q else K (a.put N undef) w)
    (h2 : ∀ K : Act → World → Prop, Shut (∀ a' w', S w' → (S w' → wpAnyLast P md ops Q S ds fuel l2 a' w') → K a' w') → if Region.wanted oj (yielded ops a.tmps) = true then Oper.wp P oj a w K Q else K (a.put M undef) w) :
    wpAnyLast P md ops Q S ds (fuel + 1) l a w := by
  subst hN
  subst hM
  simp only [Bool.and_eq_true, beq_iff_eq] at hc
  obtain ⟨⟨e1, e2⟩, e3⟩ := hc
  subst e2
  subst e3
  exact wpAnyLast_ready e1 (by simp) (AllReadyL.cons hi hdi h1 (AllReadyL.cons hj hdj h2 AllReadyL.nil))
theorem askR_0 {off : Bool} {left : Int} {L : List S187} {s : ByteArray} (h : (askR off left L s).1 = 0) : 0 ≤ findL L s := by
  unfold askR at h
  split at h
  · simp at h
  split at h
  · simp at h
  · omega
def synF (L : List S187) (s : ByteArray) : S187 := ⟨(rd_T187 L (findL L s)).f0, (rd_T187 L (findL L s)).f1 ++ (rd_T187 L (findL L s)).f2, ByteArray.empty⟩
def synL (off : Bool) (left : Int) (L : List S187) (s : ByteArray) : List S187 := if (askR off left L s).1 = 0 then putL L (synF L s) else L
theorem sync_c (r base : Nat) (ok : Nat → Prop) (L : List S187) (off : Bool) (left : Int) (s : ByteArray) (W : World) (h : Rsk W r base ok L off left) (hl : -1 ≤ left ∧ left ≤ 9223372036854775807) (hL : L.length ≤ 1000000) (hbase : base ≤ W.heap.size) (hf : ∀ k, W.heap.size ≤ k → ok k) (hsz : ∀ y ∈ L, y.f1.size + y.f2.size ≤ 9223372036854775807) :
    Calls Try.prog 128 #[.pointer (some ⟨r, 0, none⟩), .string s] W fun e W' => e = .returned (.int .i64 (askR off left L s).1) ∧ Rsk W' r base ok (synL off left L s) (askR off left L s).2.1 (askR off left L s).2.2 ∧ Kb (fun k => k = r) W W' := by
  have HR := Aside0.mk h
  have HF := Aside0.mk hf
  clear h hf
  have hz0 := askR_e off left L s
  have hz1 : (askR off left L s).1 = 0 → 0 ≤ findL L s := askR_0
  unfold synL
  obtain ⟨z, hz⟩ : ∃ z, z = askR off left L s := ⟨_, rfl⟩
  rw [← hz] at hz0 hz1 ⊢
  obtain ⟨a, o2, l2⟩ := z
  have HZ := Aside0.mk hz
  clear hz
  dsimp only at hz0 hz1 ⊢
  rcases hz0 with rfl | rfl | rfl
  · rw [if_pos rfl]
    have t0 := hz1 rfl
    have t1 := (findL_lt L s).2
    unfold synF
    obtain ⟨t, ht⟩ : ∃ t, t = findL L s := ⟨_, rfl⟩
    rw [← ht] at t0 t1 ⊢
    have HT := Aside0.mk ht
    obtain ⟨y, hy⟩ : ∃ y, y = rd_T187 L t := ⟨_, rfl⟩
    have hsy : y.f1.size + y.f2.size ≤ 9223372036854775807 := by
      refine hsz y ?_
      rw [hy]
      have := rd_at (L := L) (i := t.toNat) (by omega)
      rw [Int.toNat_of_nonneg t0] at this
      rw [this]
      exact List.getElem_mem _
    rw [← hy]
    have HY := Aside0.mk hy
    clear hy hsz ht hz1
    go_enter Try.func128, Try.ntmps128
    go_wp2_with (first
      | ((with_reducible refine gate_callee (f := 176) rfl ?_); refine goesL_ (some 9) rfl rfl Try.func176 (by kernel_rfl) rfl #[.pointer (some ⟨r, 0, none⟩), .string s] rfl (by (try simp only [List.map_toArray, List.map_cons, List.map_nil]); first | done | rfl) ?_; refine (asked_c _ _ _ _ _ _ s _ HR.out hl hL).mono ?_; rintro e w2 ⟨he, h2, k2⟩; rw [← HZ.out] at he h2; subst he; refine ⟨_, rfl, ?_⟩; have HR2 := Aside0.mk h2; have HK2 := Aside0.mk k2; clear h2 k2)
      | fail)
    obtain ⟨AL, cL, g1_, g2_⟩ := HR2.out.ex
    obtain ⟨ad, eA, q0, q1, q2⟩ := at_T187 (Kd.R_reads' g2_).2.2 t t0 t1
    have d0 : w2.cell? ⟨r, 0, none⟩ = some (.slice AL L.length cL) := by rw [blk_cell g1_]; rfl
    rw [← HY.out] at q0 q1 q2
    subst eA
    clear g1_ g2_
    refine start_ (n := 11) (S := fun w' => w'.cell? ⟨r, 0, none⟩ = some (.slice (some ad) L.length cL) ∧ w'.cell? (ad.add (t.toNat * 3)) = some (.string y.f0) ∧ w'.cell? ⟨(ad.add (t.toNat * 3)).block, (ad.add (t.toNat * 3)).off + 1, none⟩ = some (.string y.f1) ∧ w'.cell? ⟨(ad.add (t.toNat * 3)).block, (ad.add (t.toNat * 3)).off + 2, none⟩ = some (.string y.f2)) (ds := [10]) #[false, false, false, false, false, false, false, false, false, false, false] (by kernel_rfl) rfl rfl ⟨d0, q0, q1, q2⟩ (fun hHeld => ?_)
    refine pure_ (i := 0) (N := some 12) (v := ?_) (a' := ?_) #[true, false, false, false, false, false, false, false, false, false, false] rfl rfl (by kernel_rfl) (fun _ _ _ h => h) (Or.inl ⟨by rfl, ?_⟩) ?_ ?_
    rotate_left
    · intro w'
      go_simp
      with_reducible rfl
    rotate_left
    · simp only [Act.put, List.setIfInBounds_toArray, List.set_cons_zero, List.set_cons_succ, i64_w, i32_w]
      rfl
    refine pure_ (i := 1) (N := some 13) (v := ?_) (a' := ?_) #[true, true, false, false, false, false, false, false, false, false, false] rfl rfl (by kernel_rfl) (fun _ _ _ h => h) (Or.inl ⟨by rfl, ?_⟩) ?_ ?_
    rotate_left
    · intro w'
      go_simp
      with_reducible rfl
    rotate_left
    · simp only [Act.put, List.setIfInBounds_toArray, List.set_cons_zero, List.set_cons_succ, i64_w, i32_w]
      rfl
    refine pure_ (i := 2) (N := some 14) (v := ?_) (a' := ?_) #[true, true, true, false, false, false, false, false, false, false, false] rfl rfl (by kernel_rfl) (fun _ _ _ h => h) (Or.inl ⟨by rfl, ?_⟩) ?_ ?_
    rotate_left
    · intro w'
      go_simp
      with_reducible rfl
    rotate_left
    · simp only [Act.put, List.setIfInBounds_toArray, List.set_cons_zero, List.set_cons_succ, i64_w, i32_w]
      rfl
    refine take_ (i := 3) (N := some 15) (v := ?_) (a' := ?_) #[true, true, true, true, false, false, false, false, false, false, false] rfl rfl (by kernel_rfl) (fun _ _ _ h => h) (Or.inl ⟨by rfl, ?_⟩) hHeld ?_ ?_
    rotate_left
    · intro w' hS_
      obtain ⟨s0_, s1_, s2_, s3_⟩ := hS_
      go_simp
      with_reducible rfl
    rotate_left
    · simp only [Act.put, List.setIfInBounds_toArray, List.set_cons_zero, List.set_cons_succ, i64_w, i32_w]
      rfl
    refine pure_ (i := 4) (N := some 16) (v := ?_) (a' := ?_) #[true, true, true, true, true, false, false, false, false, false, false] rfl rfl (by kernel_rfl) (fun _ _ _ h => h) (Or.inl ⟨by rfl, ?_⟩) ?_ ?_
    rotate_left
    · intro w'
      go_simp
      with_reducible rfl
    rotate_left
    · simp only [Act.put, List.setIfInBounds_toArray, List.set_cons_zero, List.set_cons_succ, i64_w, i32_w]
      rfl
    refine pure_ (i := 5) (N := some 17) (v := ?_) (a' := ?_) #[true, true, true, true, true, true, false, false, false, false, false] rfl rfl (by kernel_rfl) (fun _ _ _ h => h) (Or.inl ⟨by rfl, ?_⟩) ?_ ?_
    rotate_left
    · intro w'
      go_simp
      with_reducible rfl
    rotate_left
    · simp only [Act.put, List.setIfInBounds_toArray, List.set_cons_zero, List.set_cons_succ, i64_w, i32_w]
      rfl
    refine two_ (i := 6) (j := 9) (N := some 18) (M := some 6) #[true, true, true, true, true, true, true, false, false, false, false] #[true, true, true, true, true, true, false, false, false, true, false] rfl rfl rfl rfl (by kernel_rfl) (by decide) (by decide) (fun K hK => ?_) (fun K hK => ?_)
    · refine goes_ Try.func174 (by kernel_rfl) rfl #[.pointer (some ⟨r, 0, none⟩), .string s] (by rfl) rfl rfl (by (try simp only [List.map_toArray, List.map_cons, List.map_nil]); first | done | rfl) ?_
      refine (find_c _ _ _ _ _ _ s _ (HR2.out.below (below_drew (Below.refl _ _))) hL).mono ?_
      rintro e w' ⟨he, hw⟩
      have hw := hw.symm
      subst hw
      rw [← HT.out] at he
      subst he
      refine ⟨_, rfl, ?_⟩
      refine hK.out _ _ hHeld (fun hHeld => ?_)
      clear hK K
      refine norm_ (a' := ?_) ?_ ?_
      rotate_left
      · show Act.put _ (some 18) _ = _
        simp only [Act.put, List.setIfInBounds_toArray, List.set_cons_zero, List.set_cons_succ, i64_w, i32_w]
        rfl
      refine pure_ (i := 7) (N := some 19) (v := ?_) (a' := ?_) #[true, true, true, true, true, true, true, true, false, false, false] rfl rfl (by kernel_rfl) (fun _ _ _ h => h) (Or.inl ⟨by rfl, ?_⟩) ?_ ?_
      rotate_left
      · intro w'
        go_simp
        with_reducible rfl
      rotate_left
      · simp only [Act.put, List.setIfInBounds_toArray, List.set_cons_zero, List.set_cons_succ, i64_w, i32_w]
        rfl
      refine take_ (i := 8) (N := some 20) (v := ?_) (a' := ?_) #[true, true, true, true, true, true, true, true, true, false, false] rfl rfl (by kernel_rfl) (fun _ _ _ h => h) (Or.inl ⟨by rfl, ?_⟩) hHeld ?_ ?_
      rotate_left
      · intro w' hS_
        obtain ⟨s0_, s1_, s2_, s3_⟩ := hS_
        go_simp
        with_reducible rfl
      rotate_left
      · simp only [Act.put, List.setIfInBounds_toArray, List.set_cons_zero, List.set_cons_succ, i64_w, i32_w]
        rfl
      refine one_ (i := 9) (N := some 6) #[true, true, true, true, true, true, true, true, true, true, false] rfl rfl (by kernel_rfl) (by decide) (fun K hK => ?_)
      refine value_ (by rfl) rfl (by go_simp; exact ⟨rfl, rfl⟩) ?_
      refine hK.out _ _ ⟨pw_cell_below (below_alloc (Below.refl _ _) _) hHeld.1, pw_cell_below (below_alloc (Below.refl _ _) _) hHeld.2.1, pw_cell_below (below_alloc (Below.refl _ _) _) hHeld.2.2.1, pw_cell_below (below_alloc (Below.refl _ _) _) hHeld.2.2.2⟩ (fun hHeld => ?_)
      clear hK K
      refine norm_ (a' := ?_) ?_ ?_
      rotate_left
      · show Act.put _ (some 6) _ = _
        simp only [Act.put, List.setIfInBounds_toArray, List.set_cons_zero, List.set_cons_succ, i64_w, i32_w]
        rfl
      refine last_ (i := 10) (N := none) #[true, true, true, true, true, true, true, true, true, true, true] rfl rfl (by kernel_rfl) (by decide) (fun K hK => ?_)
      refine skip_ (by rfl) rfl (by go_simp; rfl) ?_
      refine hK.out _ _ ?_
      clear hK K
      refine done_ (by kernel_rfl) ?_
      go_wp2_with (first
        | ((with_reducible refine gate_callee (f := 175) rfl ?_); refine goesL_ (some 30) rfl rfl Try.func175 (by kernel_rfl) rfl #[.pointer (some ⟨r, 0, none⟩), .agg #[.string y.f0, .string (y.f1 ++ y.f2), .string ByteArray.empty]] rfl (by (try simp only [List.map_toArray, List.map_cons, List.map_nil]); first | done | rfl) ?_; refine (put_c _ _ _ _ _ _ ⟨y.f0, (y.f1 ++ y.f2), ByteArray.empty⟩ _ (HR2.out.below (below_drew (below_alloc (Below.refl _ w2) (.cells #[.string y.f0, .string (y.f1 ++ y.f2), .string ByteArray.empty] 187)))) hL (Nat.le_trans hbase (Nat.le_trans HK2.out.size (below_drew (below_alloc (Below.refl _ w2) (.cells #[.string y.f0, .string (y.f1 ++ y.f2), .string ByteArray.empty] 187))).size)) (fun k hk => HF.out k (Nat.le_trans HK2.out.size (Nat.le_trans (below_drew (below_alloc (Below.refl _ w2) (.cells #[.string y.f0, .string (y.f1 ++ y.f2), .string ByteArray.empty] 187))).size hk)))).mono ?_; rintro e w4 ⟨rfl, h4, k4⟩; refine ⟨_, rfl, ?_⟩; have HR4 := Aside0.mk h4; have HK4 := Aside0.mk (HK2.out.trans ((Kb.of_below _ (below_drew (below_alloc (Below.refl _ w2) (.cells #[.string y.f0, .string (y.f1 ++ y.f2), .string ByteArray.empty] 187)))).trans k4)); clear h4 k4)
        | fail)
      go_ret
      exact ⟨rfl, HR4.out, HK4.out⟩
    · refine value_ (by rfl) rfl (by go_simp; exact ⟨rfl, rfl⟩) ?_
      refine hK.out _ _ ⟨pw_cell_below (below_alloc (Below.refl _ _) _) hHeld.1, pw_cell_below (below_alloc (Below.refl _ _) _) hHeld.2.1, pw_cell_below (below_alloc (Below.refl _ _) _) hHeld.2.2.1, pw_cell_below (below_alloc (Below.refl _ _) _) hHeld.2.2.2⟩ (fun hHeld => ?_)
      clear hK K
      refine norm_ (a' := ?_) ?_ ?_
      rotate_left
      · show Act.put _ (some 6) _ = _
        simp only [Act.put, List.setIfInBounds_toArray, List.set_cons_zero, List.set_cons_succ, i64_w, i32_w]
        rfl
      refine one_ (i := 6) (N := some 18) #[true, true, true, true, true, true, true, false, false, true, false] rfl rfl (by kernel_rfl) (by decide) (fun K hK => ?_)
      refine goes_ Try.func174 (by kernel_rfl) rfl #[.pointer (some ⟨r, 0, none⟩), .string s] (by rfl) rfl rfl (by (try simp only [List.map_toArray, List.map_cons, List.map_nil]); first | done | rfl) ?_
      refine (find_c _ _ _ _ _ _ s _ (HR2.out.below (below_drew (below_alloc (Below.refl _ _) _))) hL).mono ?_
      rintro e w' ⟨he, hw⟩
      have hw := hw.symm
      subst hw
      rw [← HT.out] at he
      subst he
      refine ⟨_, rfl, ?_⟩
      refine hK.out _ _ hHeld (fun hHeld => ?_)
      clear hK K
      refine norm_ (a' := ?_) ?_ ?_
      rotate_left
      · show Act.put _ (some 18) _ = _
        simp only [Act.put, List.setIfInBounds_toArray, List.set_cons_zero, List.set_cons_succ, i64_w, i32_w]
        rfl
      refine pure_ (i := 7) (N := some 19) (v := ?_) (a' := ?_) #[true, true, true, true, true, true, true, true, false, true, false] rfl rfl (by kernel_rfl) (fun _ _ _ h => h) (Or.inl ⟨by rfl, ?_⟩) ?_ ?_
      rotate_left
      · intro w'
        go_simp
        with_reducible rfl
      rotate_left
      · simp only [Act.put, List.setIfInBounds_toArray, List.set_cons_zero, List.set_cons_succ, i64_w, i32_w]
        rfl
      refine take_ (i := 8) (N := some 20) (v := ?_) (a' := ?_) #[true, true, true, true, true, true, true, true, true, true, false] rfl rfl (by kernel_rfl) (fun _ _ _ h => h) (Or.inl ⟨by rfl, ?_⟩) hHeld ?_ ?_
      rotate_left
      · intro w' hS_
        obtain ⟨s0_, s1_, s2_, s3_⟩ := hS_
        go_simp
        with_reducible rfl
      rotate_left
      · simp only [Act.put, List.setIfInBounds_toArray, List.set_cons_zero, List.set_cons_succ, i64_w, i32_w]
        rfl
      refine last_ (i := 10) (N := none) #[true, true, true, true, true, true, true, true, true, true, true] rfl rfl (by kernel_rfl) (by decide) (fun K hK => ?_)
      refine skip_ (by rfl) rfl (by go_simp; rfl) ?_
      refine hK.out _ _ ?_
      clear hK K
      refine done_ (by kernel_rfl) ?_
      go_wp2_with (first
        | ((with_reducible refine gate_callee (f := 175) rfl ?_); refine goesL_ (some 30) rfl rfl Try.func175 (by kernel_rfl) rfl #[.pointer (some ⟨r, 0, none⟩), .agg #[.string y.f0, .string (y.f1 ++ y.f2), .string ByteArray.empty]] rfl (by (try simp only [List.map_toArray, List.map_cons, List.map_nil]); first | done | rfl) ?_; refine (put_c _ _ _ _ _ _ ⟨y.f0, (y.f1 ++ y.f2), ByteArray.empty⟩ _ (HR2.out.below (below_drew (below_alloc (Below.refl _ w2) (.cells #[.string y.f0, .string (y.f1 ++ y.f2), .string ByteArray.empty] 187)))) hL (Nat.le_trans hbase (Nat.le_trans HK2.out.size (below_drew (below_alloc (Below.refl _ w2) (.cells #[.string y.f0, .string (y.f1 ++ y.f2), .string ByteArray.empty] 187))).size)) (fun k hk => HF.out k (Nat.le_trans HK2.out.size (Nat.le_trans (below_drew (below_alloc (Below.refl _ w2) (.cells #[.string y.f0, .string (y.f1 ++ y.f2), .string ByteArray.empty] 187))).size hk)))).mono ?_; rintro e w4 ⟨rfl, h4, k4⟩; refine ⟨_, rfl, ?_⟩; have HR4 := Aside0.mk h4; have HK4 := Aside0.mk (HK2.out.trans ((Kb.of_below _ (below_drew (below_alloc (Below.refl _ w2) (.cells #[.string y.f0, .string (y.f1 ++ y.f2), .string ByteArray.empty] 187)))).trans k4)); clear h4 k4)
        | fail)
      go_ret
      exact ⟨rfl, HR4.out, HK4.out⟩
  · rw [if_neg (by decide)]
    go_enter Try.func128, Try.ntmps128
    go_wp2_with (first
      | ((with_reducible refine gate_callee (f := 176) rfl ?_); refine goesL_ (some 9) rfl rfl Try.func176 (by kernel_rfl) rfl #[.pointer (some ⟨r, 0, none⟩), .string s] rfl (by (try simp only [List.map_toArray, List.map_cons, List.map_nil]); first | done | rfl) ?_; refine (asked_c _ _ _ _ _ _ s _ HR.out hl hL).mono ?_; rintro e w2 ⟨he, h2, k2⟩; rw [← HZ.out] at he h2; subst he; refine ⟨_, rfl, ?_⟩; have HR2 := Aside0.mk h2; have HK2 := Aside0.mk k2; clear h2 k2)
      | fail)
    go_ret
    exact ⟨rfl, HR2.out, HK2.out⟩
  · rw [if_neg (by decide)]
    go_enter Try.func128, Try.ntmps128
    go_wp2_with (first
      | ((with_reducible refine gate_callee (f := 176) rfl ?_); refine goesL_ (some 9) rfl rfl Try.func176 (by kernel_rfl) rfl #[.pointer (some ⟨r, 0, none⟩), .string s] rfl (by (try simp only [List.map_toArray, List.map_cons, List.map_nil]); first | done | rfl) ?_; refine (asked_c _ _ _ _ _ _ s _ HR.out hl hL).mono ?_; rintro e w2 ⟨he, h2, k2⟩; rw [← HZ.out] at he h2; subst he; refine ⟨_, rfl, ?_⟩; have HR2 := Aside0.mk h2; have HK2 := Aside0.mk k2; clear h2 k2)
      | fail)
    go_ret
    exact ⟨rfl, HR2.out, HK2.out⟩
end Go.Proofs.Ytobgijpbfmpdaaa.Rk
/- DiskScript: the document's list beside the disk's files. -/
set_option linter.unusedVariables false
set_option linter.unusedSimpArgs false
set_option maxRecDepth 100000
namespace Go.Proofs.Ytobgijpbfmpdaaa.Rk
open Go.RowKit Go.Proofs.YtobgijpbfmpdaaaW.PrintWords Go.Proofs.YtobgijpbfmpdaaaW.PrintLast Go.Proofs.YtobgijpbfmpdaaaW.PrintMore
open Go.Proofs.Ytobgijpbfmpdaaa.Fm Go.Proofs.Ytobgijpbfmpdaaa.Mp Go.Proofs.Ytobgijpbfmpdaaa.PDq
open Go.Proofs.Ytobgijpbfmpdaaa.Dk (Cont Fls cur)
theorem bl_bb : ∀ a b : Ky, Op.bytesLess a b = bytesBefore a b
  | [], [] => rfl
  | [], _ :: _ => rfl
  | _ :: _, [] => rfl
  | a :: x, b :: y => by rw [Op.bytesLess, bytesBefore, bl_bb x y]
def fileS (p : Ky × Cont) : S187 := ⟨⟨p.1.toArray⟩, strOfNums (p.2.1.take p.2.2), strOfNums (p.2.1.drop p.2.2)⟩
def LF (F : Fls) : List S187 := F.map fileS
theorem fileS_key (p : Ky × Cont) : (fileS p).f0.toList = p.1 := by unfold fileS; rw [ByteArray.toList_eq]
theorem LF_length (F : Fls) : (LF F).length = F.length := by simp [LF]
theorem key_beq (p : Ky × Cont) (s : ByteArray) : ((fileS p).f0.toList == s.toList) = (p.1 == s.data.toList) := by rw [fileS_key, ByteArray.toList_eq]
theorem rd_LF {F : Fls} {i : Nat} (h : i < F.length) : rd_T187 (LF F) (i : Int) = fileS F[i] := by
  rw [rd_at (by rw [LF_length]; exact h)]
  simp [LF]
theorem findL_some {F : Fls} {s : ByteArray} {c : Cont} (hc : Mp.get F s.data.toList = some c) : 0 ≤ findL (LF F) s ∧ rd_T187 (LF F) (findL (LF F) s) = fileS (s.data.toList, c) := by
  unfold Mp.get at hc
  obtain ⟨p, hp, rfl⟩ := Option.map_eq_some_iff.1 hc
  obtain ⟨h1, i, hi, he, hb⟩ := List.find?_eq_some_iff_getElem.1 hp
  have hf : findL (LF F) s = (i : Int) := findL_at (by rw [LF_length]; exact hi) (fun j hj => by
    rw [rd_LF (by omega), key_beq]
    have := hb j hj
    simpa using this) (by rw [rd_LF hi, key_beq, he]; exact h1)
  rw [hf]
  refine ⟨by omega, ?_⟩
  rw [rd_LF hi, he]
  have : p.1 = s.data.toList := by simpa using h1
  rw [← this]
theorem findL_no {F : Fls} {s : ByteArray} (hc : Mp.get F s.data.toList = none) : findL (LF F) s = -1 := by
  unfold Mp.get at hc
  have hn := Option.map_eq_none_iff.1 hc
  refine findL_none (fun j hj => ?_)
  rw [LF_length] at hj
  rw [rd_LF hj, key_beq]
  have := List.find?_eq_none.1 hn F[j] (List.getElem_mem hj)
  simpa using this
theorem outL_LF (F : Fls) (s : ByteArray) : outL (LF F) s = LF (Mp.del F s.data.toList) := by
  unfold outL LF Mp.del
  rw [List.filter_map]
  congr 1
  refine List.filter_congr (fun p _ => ?_)
  show (!((fileS p).f0.toList == s.toList)) = _
  rw [key_beq]
theorem ins_split (k : Ky) (c : Cont) : ∀ {F : Fls}, Ris F → Mp.put F k c = F.filter (fun p => bytesBefore p.1 k) ++ [(k, c)] ++ F.filter (fun p => !(bytesBefore p.1 k || p.1 == k))
  | [], _ => rfl
  | p :: r, h => by
    have hr : Ris r := (List.pairwise_cons.1 h).2
    have hp := (List.pairwise_cons.1 h).1
    have ih := @ins_split k c r hr
    unfold Mp.put Mp.del at ih ⊢
    by_cases he : p.1 = k
    · have hgt : ∀ q ∈ r, bytesBefore k q.1 = true := fun q hq => he ▸ hp q hq
      have e1 : r.filter (fun q => !(q.1 == k)) = r := List.filter_eq_self.2 (fun q hq => by
        have := bb_ne (hgt q hq)
        simp [Ne.symm this])
      have e2 : r.filter (fun q => bytesBefore q.1 k) = [] := List.filter_eq_nil_iff.2 (fun q hq => by rw [bb_asymm (hgt q hq)]; simp)
      have e3 : r.filter (fun q => !(bytesBefore q.1 k || q.1 == k)) = r := List.filter_eq_self.2 (fun q hq => by
        have := bb_ne (hgt q hq)
        rw [bb_asymm (hgt q hq)]
        simp [Ne.symm this])
      rw [List.filter_cons_of_neg (by simp [he]), List.filter_cons_of_neg (by simp [he, bb_irrefl]), List.filter_cons_of_neg (by simp [he]), e1, e2, e3]
      cases r with
      | nil => rfl
      | cons q t =>
        show (if bytesBefore k q.1 then _ else _) = _
        rw [if_pos (hgt q (List.mem_cons_self ..))]
        rfl
    · rw [List.filter_cons_of_pos (by simp [he])]
      rcases bb_total he with hb | hb
      · rw [List.filter_cons_of_pos (by simpa using hb), List.filter_cons_of_neg (by simp [hb])]
        show (if bytesBefore k p.1 then _ else p :: _) = _
        rw [if_neg (by rw [bb_asymm hb]; simp), ih]
        rfl
      · have hgt : ∀ q ∈ r, bytesBefore k q.1 = true := fun q hq => bb_trans hb (hp q hq)
        have e1 : r.filter (fun q => !(q.1 == k)) = r := List.filter_eq_self.2 (fun q hq => by
          have := bb_ne (hgt q hq)
          simp [Ne.symm this])
        have e2 : r.filter (fun q => bytesBefore q.1 k) = [] := List.filter_eq_nil_iff.2 (fun q hq => by rw [bb_asymm (hgt q hq)]; simp)
        have e3 : r.filter (fun q => !(bytesBefore q.1 k || q.1 == k)) = r := List.filter_eq_self.2 (fun q hq => by
          have := bb_ne (hgt q hq)
          rw [bb_asymm (hgt q hq)]
          simp [Ne.symm this])
        rw [List.filter_cons_of_neg (by rw [bb_asymm hb]; simp), List.filter_cons_of_pos (by rw [bb_asymm hb]; simp [he]), e1, e2, e3]
        show (if bytesBefore k p.1 then _ else _) = _
        rw [if_pos hb]
        rfl
theorem putL_LF {F : Fls} (h : Ris F) (k : Ky) (c : Cont) : putL (LF F) (fileS (k, c)) = LF (Mp.put F k c) := by
  rw [ins_split k c h]
  unfold putL lowL highL LF
  rw [List.map_append, List.map_append, List.filter_map, List.filter_map]
  congr 1
  · congr 1
    congr 1
    refine List.filter_congr (fun p _ => ?_)
    show Op.bytesLess (fileS p).f0.toList (fileS (k, c)).f0.toList = _
    rw [fileS_key, fileS_key, bl_bb]
  · congr 1
    refine List.filter_congr (fun p _ => ?_)
    show (!(Op.bytesLess (fileS p).f0.toList (fileS (k, c)).f0.toList || (fileS p).f0.toList == (fileS (k, c)).f0.toList)) = _
    rw [fileS_key, fileS_key, bl_bb]
end Go.Proofs.Ytobgijpbfmpdaaa.Rk
/- DiskScript: a step of the document's disk is a step of the disk. -/
set_option linter.unusedVariables false
set_option linter.unusedSimpArgs false
set_option maxRecDepth 100000
namespace Go.Proofs.Ytobgijpbfmpdaaa.Rk
open Go.RowKit Go.Proofs.YtobgijpbfmpdaaaW.PrintWords Go.Proofs.YtobgijpbfmpdaaaW.PrintLast Go.Proofs.YtobgijpbfmpdaaaW.PrintMore
open Go.Proofs.Ytobgijpbfmpdaaa.Fm Go.Proofs.Ytobgijpbfmpdaaa.Mp Go.Proofs.Ytobgijpbfmpdaaa.PDq
open Go.Proofs.Ytobgijpbfmpdaaa.Dk (Cont Fls cur)
theorem str_app (x y : List Int) : strOfNums (x ++ y) = strOfNums x ++ strOfNums y :=
  Go.WideShapes.bytes_inj (by rw [strOfNums_data, List.map_append]; simp [strOfNums_data])
theorem str_take (x : List Int) (n : Nat) : (strOfNums x).extract 0 n = strOfNums (x.take n) :=
  Go.WideShapes.bytes_inj (by rw [strOfNums_data, List.map_take, ← strOfNums_data]; simp)
theorem str_nil : strOfNums [] = ByteArray.empty := rfl
theorem key_back (s : ByteArray) : (⟨s.data.toList.toArray⟩ : ByteArray) = s := by cases s; simp
theorem oldF_LF (F : Fls) (s : ByteArray) : oldF (LF F) s = fileS (s.data.toList, cur F s.data.toList) := by
  unfold oldF Dk.cur
  cases h : Mp.get F s.data.toList with
  | none =>
    rw [findL_no h, if_neg (by decide)]
    show _ = (⟨⟨s.data.toList.toArray⟩, strOfNums (([] : List Int).take 0), strOfNums (([] : List Int).drop 0)⟩ : S187)
    rw [key_back]
    rfl
  | some c =>
    obtain ⟨h1, h2⟩ := findL_some h
    rw [if_pos h1, h2]
    rfl
theorem fileS_app (k : Ky) (c : Cont) (x : List Int) (h : c.2 ≤ c.1.length) : (⟨(fileS (k, c)).f0, (fileS (k, c)).f1, (fileS (k, c)).f2 ++ strOfNums x⟩ : S187) = fileS (k, (c.1 ++ x, c.2)) := by
  unfold fileS
  dsimp only
  rw [List.take_append_of_le_length h, List.drop_append_of_le_length h, str_app]
theorem fileS_syn (k : Ky) (c : Cont) : (⟨(fileS (k, c)).f0, (fileS (k, c)).f1 ++ (fileS (k, c)).f2, ByteArray.empty⟩ : S187) = fileS (k, (c.1, c.1.length)) := by
  unfold fileS
  dsimp only
  rw [← str_app, List.take_append_drop, List.take_length, List.drop_length, str_nil]
theorem fileS_all (p : Ky × Cont) : (fileS p).f1 ++ (fileS p).f2 = strOfNums p.2.1 := by
  unfold fileS
  dsimp only
  rw [← str_app, List.take_append_drop]
section
variable {F F' : Fls} {off : Bool} {z : Int} {s : ByteArray} {x : List Int}
theorem app_rel (hr : Ris F) (hc : (cur F s.data.toList).2 ≤ (cur F s.data.toList).1.length) :
    rappR off z (LF F) s x = ((Dk.appR off z F s.data.toList x).2.2.2, (Dk.appR off z F s.data.toList x).1, (Dk.appR off z F s.data.toList x).2.1, LF (Dk.appR off z F s.data.toList x).2.2.1) := by
  have hp : putL (LF F) (appF (LF F) s x) = LF (put F s.data.toList ((cur F s.data.toList).1 ++ x, (cur F s.data.toList).2)) := by
    unfold appF
    rw [oldF_LF, fileS_app _ _ _ hc, putL_LF hr]
  unfold rappR Dk.appR
  cases off
  · simp only [Bool.false_eq_true, if_false]
    rw [hp]
    unfold failR Dk.chgR
    by_cases h : z = 0
    · simp [h]
    · simp [h]
  · rfl
theorem ask_rel (F' : Fls) : Dk.askR off z F F' s.data.toList = ((askR off z (LF F) s).2.1, (askR off z (LF F) s).2.2, (if (askR off z (LF F) s).1 = 0 then F' else F), (askR off z (LF F) s).1) := by
  unfold Dk.askR askR
  cases off
  · simp only [Bool.false_eq_true, if_false]
    cases h : Mp.get F s.data.toList with
    | none =>
      rw [findL_no h]
      rfl
    | some c =>
      have h1 := (findL_some h).1
      have h2 : ¬ findL (LF F) s < 0 := by omega
      simp only [if_neg h2, Option.isSome_some, if_true]
      unfold failR Dk.chgR
      by_cases h : z = 0
      · simp [h]
      · simp [h]
  · rfl
theorem ask_get (h : (askR off z (LF F) s).1 = 0) : Mp.get F s.data.toList = some (cur F s.data.toList) := by
  have h1 := askR_0 h
  cases h2 : Mp.get F s.data.toList with
  | none => rw [findL_no h2] at h1; omega
  | some c => unfold Dk.cur; rw [h2]; rfl
theorem syn_rel (hr : Ris F) : synL off z (LF F) s = LF (if (askR off z (LF F) s).1 = 0 then put F s.data.toList ((cur F s.data.toList).1, (cur F s.data.toList).1.length) else F) := by
  unfold synL
  by_cases h : (askR off z (LF F) s).1 = 0
  · rw [if_pos h, if_pos h]
    unfold synF
    rw [(findL_some (ask_get h)).2, fileS_syn, putL_LF hr]
  · rw [if_neg h, if_neg h]
theorem rem_rel : remL off z (LF F) s = LF (if (askR off z (LF F) s).1 = 0 then Mp.del F s.data.toList else F) := by
  unfold remL
  by_cases h : (askR off z (LF F) s).1 = 0
  · rw [if_pos h, if_pos h, outL_LF]
  · rw [if_neg h, if_neg h]
def renF (L : List S187) (s t : ByteArray) : S187 := ⟨t, (rd_T187 L (findL L s)).f1, (rd_T187 L (findL L s)).f2⟩
def renL (off : Bool) (left : Int) (L : List S187) (s t : ByteArray) : List S187 := if (askR off left L s).1 = 0 then putL (outL L s) (renF L s t) else L
theorem ren_rel (hr : Ris F) (t : ByteArray) : renL off z (LF F) s t = LF (if (askR off z (LF F) s).1 = 0 then put (Mp.del F s.data.toList) t.data.toList (cur F s.data.toList) else F) := by
  unfold renL
  by_cases h : (askR off z (LF F) s).1 = 0
  · rw [if_pos h, if_pos h, outL_LF]
    have : renF (LF F) s t = fileS (t.data.toList, cur F s.data.toList) := by
      unfold renF
      rw [(findL_some (ask_get h)).2]
      unfold fileS
      dsimp only
    rw [this, putL_LF (hr.del _)]
  · rw [if_neg h, if_neg h]
theorem read_rel (hr : Ris F) : readL off (LF F) s = (strOfNums (Dk.readR off F s.data.toList).1, (Dk.readR off F s.data.toList).2) := by
  unfold readL Dk.readR
  cases off
  · simp only [Bool.false_eq_true, if_false]
    cases h : Mp.get F s.data.toList with
    | none => rw [findL_no h]; rfl
    | some c =>
      obtain ⟨h1, h2⟩ := findL_some h
      have h3 : ¬ findL (LF F) s < 0 := by omega
      rw [if_neg h3, h2, fileS_all]
      unfold Dk.cur
      rw [h]
      rfl
  · rfl
end
/-- A crash of the document's disk, file by file: what has gone by, and how many lost bytes. -/
def keepN (keep : List Int) (i : Nat) (n : Nat) : Nat := if (i : Int) < keep.length then (max 0 (min (rd keep i) (n : Int))).toNat else 0
def crsStep (keep : List Int) (a : List S187 × Nat) (x : S187) : List S187 × Nat :=
  if x.f2.size = 0 then (a.1 ++ [x], a.2) else (a.1 ++ [⟨x.f0, x.f1 ++ x.f2.extract 0 (keepN keep a.2 x.f2.size), ByteArray.empty⟩], a.2 + 1)
def crsL (keep : List Int) (L : List S187) : List S187 × Nat := L.foldl (crsStep keep) ([], 0)
theorem crsL_snoc (keep : List Int) (L : List S187) (x : S187) : crsL keep (L ++ [x]) = crsStep keep (crsL keep L) x := by unfold crsL; rw [List.foldl_append]; rfl
theorem crs_step (keep : List Int) (a : Fls × Nat) (p : Ky × Cont) (h : p.2.2 ≤ p.2.1.length) : crsStep keep (LF a.1, a.2) (fileS p) = (LF (Dk.crStep keep a p).1, (Dk.crStep keep a p).2) := by
  have hs : (fileS p).f2.size = p.2.1.length - p.2.2 := by unfold fileS; rw [strOfNums_size, List.length_drop]
  unfold crsStep Dk.crStep
  rw [hs]
  by_cases he : p.2.2 = p.2.1.length
  · rw [if_pos (by omega), if_pos he]
    simp [LF]
  · rw [if_neg (by omega), if_neg he]
    have hn : keepN keep a.2 (p.2.1.length - p.2.2) = Dk.keptN keep a.2 p.2 := rfl
    rw [show ((LF a.1, a.2) : List S187 × Nat).2 = a.2 from rfl, hn]
    have hx : (⟨(fileS p).f0, (fileS p).f1 ++ (fileS p).f2.extract 0 (Dk.keptN keep a.2 p.2), ByteArray.empty⟩ : S187) = fileS (p.1, (p.2.1.take (p.2.2 + Dk.keptN keep a.2 p.2), p.2.2 + Dk.keptN keep a.2 p.2)) := by
      unfold fileS
      dsimp only
      rw [str_take, ← str_app, ← List.take_add, List.take_take, Nat.min_self, List.drop_take_self, str_nil]
    rw [hx]
    simp [LF]
theorem crs_rel (keep : List Int) {F : Fls} (h : ∀ p ∈ F, p.2.2 ≤ p.2.1.length) : (crsL keep (LF F)).1 = LF (Dk.crashF keep F) := by
  have hg : ∀ (F : Fls) (a : Fls × Nat), (∀ p ∈ F, p.2.2 ≤ p.2.1.length) → (LF F).foldl (crsStep keep) (LF a.1, a.2) = (LF (F.foldl (Dk.crStep keep) a).1, (F.foldl (Dk.crStep keep) a).2) := by
    intro F
    induction F with
    | nil => intro a _; rfl
    | cons p r ih =>
      intro a hp
      show (LF r).foldl (crsStep keep) (crsStep keep (LF a.1, a.2) (fileS p)) = _
      rw [crs_step keep a p (hp p (List.mem_cons_self ..)), ih _ (fun q hq => hp q (List.mem_cons_of_mem _ hq))]
      rfl
  have := hg F ([], 0) h
  unfold crsL Dk.crashF Dk.crS
  show (List.foldl (crsStep keep) (LF ([] : Fls), 0) (LF F)).1 = _
  rw [this]
end Go.Proofs.Ytobgijpbfmpdaaa.Rk
/- DiskScript: the disk and the document's, side by side. -/
set_option linter.unusedVariables false
set_option linter.unusedSimpArgs false
set_option maxRecDepth 100000
namespace Go.Proofs.Ytobgijpbfmpdaaa.Rk
open Go.RowKit Go.Proofs.YtobgijpbfmpdaaaW.PrintWords Go.Proofs.YtobgijpbfmpdaaaW.PrintLast Go.Proofs.YtobgijpbfmpdaaaW.PrintMore
open Go.Proofs.Ytobgijpbfmpdaaa.Fm Go.Proofs.Ytobgijpbfmpdaaa.Mp Go.Proofs.Ytobgijpbfmpdaaa.PDq
open Go.Proofs.Ytobgijpbfmpdaaa.Dk (Cont Fls cur Dsk)
theorem Rsk.mono {W : World} {r base : Nat} {ok ok' : Nat → Prop} {L : List S187} {off : Bool} {left : Int} (h : Rsk W r base ok L off left) (hk : ∀ k, ok k → base ≤ k → k < W.heap.size → ok' k) (hn : ∀ k, ok' k → k ≠ r) : Rsk W r base ok' L off left := by
  obtain ⟨A, c, h1, h2⟩ := h.ex
  exact ⟨⟨A, c, h1, Kd.R_mono (Kd.R_bound h2) (fun k hb => hk k hb.1 hb.2.1 hb.2.2.1)⟩, hn⟩
/-- Y: blocks that belong to neither; X: the blocks of the disk's files. -/
structure Pair (Y : Nat → Prop) (W0 W : World) (B g b r : Nat) (off1 : Bool) (z1 : Int) (F : Fls) (off2 : Bool) (z2 : Int) (L : List S187) : Prop where
  ex : ∃ X : Nat → Prop, Dsk W g b F.length off1 z1 F X ∧ Rsk W r B (fun k => B ≤ k ∧ k ≠ g ∧ k ≠ b ∧ k ≠ r ∧ ¬ X k ∧ ¬ Y k) L off2 z2 ∧ ∀ k, X k → B ≤ k ∧ k ≠ g ∧ k ≠ b ∧ k ≠ r ∧ ¬ Y k ∧ k < W.heap.size
  HB : Below B W0 W
  ho : B ≤ g ∧ B ≤ b ∧ B ≤ r ∧ g ≠ r ∧ b ≠ r
  hY : ∀ k, Y k → k ≠ g ∧ k ≠ b ∧ k ≠ r ∧ k < W.heap.size
section
variable {Y Y' : Nat → Prop} {W0 W W1 W2 : World} {B g b r : Nat} {off1 off1' : Bool} {z1 z1' : Int} {F F' : Fls} {off2 off2' : Bool} {z2 z2' : Int} {L L' : List S187}
theorem Pair.lt (h : Pair Y W0 W B g b r off1 z1 F off2 z2 L) : g < W.heap.size ∧ b < W.heap.size ∧ r < W.heap.size := by
  obtain ⟨X, h1, h2, _⟩ := h.ex
  exact ⟨h1.glt, h1.blt, h2.lt⟩
theorem Pair.size (h : Pair Y W0 W B g b r off1 z1 F off2 z2 L) : B ≤ W.heap.size := by
  have h1 := h.lt
  have h2 := h.ho
  omega
theorem Pair.below (h : Pair Y W0 W B g b r off1 z1 F off2 z2 L) (hb : Below W.heap.size W W1) : Pair Y W0 W1 B g b r off1 z1 F off2 z2 L := by
  obtain ⟨X, h1, h2, h3⟩ := h.ex
  have hs := hb.size
  exact ⟨⟨X, h1.below hb, h2.below hb, fun k hk => by have := h3 k hk; exact ⟨this.1, this.2.1, this.2.2.1, this.2.2.2.1, this.2.2.2.2.1, by omega⟩⟩, below_then h.HB h.size hb, h.ho, fun k hk => by have := h.hY k hk; omega⟩
/-- For a call of the disk. -/
theorem Pair.dsk (h : Pair Y W0 W B g b r off1 z1 F off2 z2 L) : ∃ S : Nat → Prop, Dsk W g b F.length off1 z1 F S ∧ (∀ k, W.heap.size ≤ k → S k) ∧
    ∀ (W1 : World) (n : Nat) (off' : Bool) (z' : Int) (F' : Fls), Dsk W1 g b n off' z' F' S → Kb (fun k => k = g ∨ k = b) W W1 → Pair Y W0 W1 B g b r off' z' F' off2 z2 L := by
  obtain ⟨X, h1, h2, h3⟩ := h.ex
  have hlt := h.lt
  have ho := h.ho
  have hsz := h.size
  refine ⟨fun k => X k ∨ W.heap.size ≤ k, h1.mono (fun k hk _ => .inl hk) (fun k hk => ?_), fun k hk => .inr hk, fun W1 n off' z' F' hD hK => ?_⟩
  · rcases hk with hk | hk
    · exact h1.hS k hk
    · omega
  · have hs := hK.size
    refine ⟨⟨fun k => (X k ∨ W.heap.size ≤ k) ∧ k < W1.heap.size, hD.tight.mono (fun k hk hl => ⟨hk, hl⟩) (fun k hk => ?_), ?_, fun k hk => ?_⟩, h.HB.trans (hK.to_below hsz (fun k e => by omega)), ho, fun k hk => by have := h.hY k hk; omega⟩
    · rcases hk.1 with hk | hk
      · exact h1.hS k hk
      · omega
    · have h4 := h2.mono (ok' := fun k => B ≤ k ∧ k ≠ g ∧ k ≠ b ∧ k ≠ r ∧ ¬ ((X k ∨ W.heap.size ≤ k) ∧ k < W1.heap.size) ∧ ¬ Y k) (fun k hk _ hl => ⟨hk.1, hk.2.1, hk.2.2.1, hk.2.2.2.1, fun e => by
        rcases e.1 with e | e
        · exact hk.2.2.2.2.1 e
        · omega, hk.2.2.2.2.2⟩) (fun k hk => hk.2.2.2.1)
      exact h4.kb hK (by omega) (fun k hk e => by have := hk.2.1; have := hk.2.2.1; omega)
    · rcases hk.1 with hx | hx
      · have := h3 k hx
        exact ⟨this.1, this.2.1, this.2.2.1, this.2.2.2.1, this.2.2.2.2.1, hk.2⟩
      · exact ⟨by omega, by omega, by omega, by omega, fun e => by have := h.hY k e; omega, hk.2⟩
/-- For a call of the document's. -/
theorem Pair.ref (h : Pair Y W0 W B g b r off1 z1 F off2 z2 L) : ∃ ok : Nat → Prop, Rsk W r B ok L off2 z2 ∧ (∀ k, W.heap.size ≤ k → ok k) ∧ (∀ k, ok k → B ≤ k) ∧
    ∀ (W1 : World) (off' : Bool) (z' : Int) (L' : List S187), Rsk W1 r B ok L' off' z' → Kb (fun k => k = r ∨ ok k) W W1 → Pair Y W0 W1 B g b r off1 z1 F off' z' L' := by
  obtain ⟨X, h1, h2, h3⟩ := h.ex
  have hlt := h.lt
  have ho := h.ho
  have hsz := h.size
  refine ⟨_, h2, fun k hk => ⟨by omega, by omega, by omega, by omega, fun e => by have := h3 k e; omega, fun e => by have := h.hY k e; omega⟩, fun k hk => hk.1, fun W1 off' z' L' hR hK => ?_⟩
  have hs := hK.size
  refine ⟨⟨X, h1.kb hK (fun e => ?_) (fun e => ?_) (fun k hk e => ?_), hR, fun k hk => by have := h3 k hk; exact ⟨this.1, this.2.1, this.2.2.1, this.2.2.2.1, this.2.2.2.2.1, by omega⟩⟩, h.HB.trans (hK.to_below hsz (fun k e => by rcases e with e | e; omega; exact e.1)), ho, fun k hk => by have := h.hY k hk; omega⟩
  · rcases e with e | e
    · omega
    · exact e.2.1 rfl
  · rcases e with e | e
    · omega
    · exact e.2.2.1 rfl
  · rcases e with e | e
    · exact (h3 k hk).2.2.2.1 e
    · exact e.2.2.2.2.1 hk
/-- A block that belongs to neither. -/
theorem Pair.foreign (h : Pair Y W0 W B g b r off1 z1 F off2 z2 L) (hb : Below W.heap.size W W1) {q : Nat} (h1 : W.heap.size ≤ q) (h2 : q < W1.heap.size) : Pair (fun k => Y k ∨ k = q) W0 W1 B g b r off1 z1 F off2 z2 L := by
  obtain ⟨X, e1, e2, e3⟩ := h.ex
  have hs := hb.size
  have hlt := h.lt
  refine ⟨⟨X, e1.below hb, (e2.mono (ok' := fun k => B ≤ k ∧ k ≠ g ∧ k ≠ b ∧ k ≠ r ∧ ¬ X k ∧ ¬ (Y k ∨ k = q)) (fun k hk _ hl => ⟨hk.1, hk.2.1, hk.2.2.1, hk.2.2.2.1, hk.2.2.2.2.1, fun e => ?_⟩) (fun k hk => hk.2.2.2.1)).below hb, fun k hk => ?_⟩, below_then h.HB h.size hb, h.ho, fun k hk => ?_⟩
  · rcases e with e | e
    · exact hk.2.2.2.2.2 e
    · omega
  · have := e3 k hk
    exact ⟨this.1, this.2.1, this.2.2.1, this.2.2.2.1, fun e => by
      rcases e with e | e
      · exact this.2.2.2.2.1 e
      · omega, by omega⟩
  · rcases hk with e | e
    · have := h.hY k e
      omega
    · omega
/-- A write to it. -/
theorem Pair.free (h : Pair Y W0 W B g b r off1 z1 F off2 z2 L) (hk : Kb Y W W1) (hB : ∀ k, Y k → B ≤ k) : Pair Y W0 W1 B g b r off1 z1 F off2 z2 L := by
  obtain ⟨X, e1, e2, e3⟩ := h.ex
  have hs := hk.size
  have hlt := h.lt
  exact ⟨⟨X, e1.kb hk (fun e => (h.hY g e).1 rfl) (fun e => (h.hY b e).2.1 rfl) (fun k hx e => (e3 k hx).2.2.2.2.1 e), e2.kb hk (fun e => (h.hY r e).2.2.1 rfl) (fun k hx e => hx.2.2.2.2.2 e), fun k hx => by have := e3 k hx; exact ⟨this.1, this.2.1, this.2.2.1, this.2.2.2.1, this.2.2.2.2.1, by omega⟩⟩,
    h.HB.trans (hk.to_below h.size hB), h.ho, fun k hk => by have := h.hY k hk; omega⟩
theorem Pair.forget (h : Pair Y W0 W B g b r off1 z1 F off2 z2 L) : Pair (fun _ => False) W0 W B g b r off1 z1 F off2 z2 L := by
  obtain ⟨X, e1, e2, e3⟩ := h.ex
  exact ⟨⟨X, e1, e2.mono (fun k hk _ _ => ⟨hk.1, hk.2.1, hk.2.2.1, hk.2.2.2.1, hk.2.2.2.2.1, id⟩) (fun k hk => hk.2.2.2.1), fun k hx => by have := e3 k hx; exact ⟨this.1, this.2.1, this.2.2.1, this.2.2.2.1, id, this.2.2.2.2.2⟩⟩, h.HB, h.ho, fun k hk => hk.elim⟩
/-- The disk becomes its twin; the elder one has been turned. -/
theorem Pair.twin (h : Pair (fun _ => False) W0 W B g b r off1 z1 F off2 z2 L) (hb : Below W.heap.size W W1) {g' b' n : Nat} (hg : W.heap.size ≤ g') (hbb : W.heap.size ≤ b') (hD : Dsk W1 g' b' n off1 z1 F (fun k => W.heap.size ≤ k ∧ k ≠ g' ∧ k ≠ b')) (hk : Kb (fun k => k = g ∨ k = b) W1 W2) :
    Pair (fun _ => False) W0 W2 B g' b' r off1 z1 F off2 z2 L := by
  obtain ⟨X, e1, e2, e3⟩ := h.ex
  have hs := hb.size
  have hs2 := hk.size
  have hlt := h.lt
  have ho := h.ho
  have hsz := h.size
  have hD2 := (hD.kb hk (by omega) (by omega) (fun k hx e => by omega)).tight
  refine ⟨⟨fun k => (W.heap.size ≤ k ∧ k ≠ g' ∧ k ≠ b') ∧ k < W2.heap.size, hD2.mono (fun k hx hl => ⟨hx, hl⟩) (fun k hx => ⟨hx.1.2.1, hx.1.2.2⟩), ?_, fun k hx => ⟨by omega, hx.1.2.1, hx.1.2.2, by omega, id, hx.2⟩⟩,
    (below_then h.HB hsz hb).trans (hk.to_below (by omega) (fun k e => by omega)), ⟨by omega, by omega, ho.2.2.1, by omega, by omega⟩, fun k hx => hx.elim⟩
  have h4 := (e2.mono (ok' := fun k => (B ≤ k ∧ k ≠ g' ∧ k ≠ b' ∧ k ≠ r ∧ ¬ ((W.heap.size ≤ k ∧ k ≠ g' ∧ k ≠ b') ∧ k < W2.heap.size) ∧ ¬ False) ∧ (k ≠ g ∧ k ≠ b)) (fun k hx _ hl => ⟨⟨hx.1, by omega, by omega, hx.2.2.2.1, by omega, id⟩, hx.2.1, hx.2.2.1⟩) (fun k hx => hx.1.2.2.2.1)).below hb
  exact (h4.kb hk (by omega) (fun k hx e => by omega)).mono (fun k hx _ _ => hx.1) (fun k hx => hx.2.2.2.1)
end
end Go.Proofs.Ytobgijpbfmpdaaa.Rk
