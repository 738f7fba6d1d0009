/- A disk's methods that change it: contracts. -/
import Derived.Test.YtobgijpbfmpdaaaDb
set_option linter.unusedVariables false
set_option linter.unusedSimpArgs false
set_option maxRecDepth 100000
namespace Go.Proofs.Ytobgijpbfmpdaaa.Dk
open Go.RowKit Go.Proofs.YtobgijpbfmpdaaaW.PrintWords Go.Proofs.YtobgijpbfmpdaaaW.PrintLast Go.Proofs.YtobgijpbfmpdaaaW.PrintMore
open Go.Proofs.Ytobgijpbfmpdaaa.Fm Go.Proofs.Ytobgijpbfmpdaaa.Mp
set_option maxHeartbeats 4000000
abbrev Fls := List (Ky × Cont)
def cur (F : Fls) (k : Ky) : Cont := (Mp.get F k).getD ([], 0)
def appR (off : Bool) (fuse : Int) (F : Fls) (k : Ky) (x : List Int) : Bool × Int × Fls × Int := if off then (off, fuse, F, 250) else chgR true off fuse F (put F k ((cur F k).1 ++ x, (cur F k).2))
def askR (off : Bool) (fuse : Int) (F F' : Fls) (k : Ky) : Bool × Int × Fls × Int := if off then (off, fuse, F, 250) else if (Mp.get F k).isSome then chgR false off fuse F F' else (off, fuse, F, 5)
theorem box_cell {W W1 : World} {g q : Nat} {v : Value} {t : Nat} (h : W.heap[q]? = some (.cells #[v] t (0, 0))) (hk : Kb (fun k => k = g) W W1) (hne : q ≠ g) : W1.cell? ⟨q, 0, none⟩ = some v := by
  rw [blk_cell (hk.blk h hne)]; rfl
theorem bytes_kb {W W1 : World} {g b n : Nat} {off : Bool} {fuse : Int} {F : Fls} {S : Nat → Prop} (D : Dsk W g b n off fuse F S) {A : Option Addr} {x : List Int} (hC : Kd.C (Kd.int .u8) W A x.length x) (hk : Kb (fun k => k = g) W W1) : Kd.C (Kd.int .u8) W1 A x.length x := by
  have hr := Kd.reads_of_C (d := (0 : Int)) (enc := Value.int .u8) (h1 := fun _ => rfl) hC
  refine Kd.C_of_reads (d := (0 : Int)) (h1 := fun _ => rfl) ⟨hr.1, hr.2.1, fun hp => ?_⟩
  obtain ⟨ad, hA, hc⟩ := hr.2.2 hp
  refine ⟨ad, hA, fun j hj => ?_⟩
  have h0 := hc j hj
  have hb : (ad.add j).block = ad.block := add_block ad j
  have hne : ad.block ≠ g := fun e => by
    simp only [World.cell?, hb, e, D.hg] at h0
    split at h0
    · cases h0
    · rcases Nat.lt_or_ge (ad.add j).off 3 with hlt | hge
      · rcases (by omega : (ad.add j).off = 0 ∨ (ad.add j).off = 1 ∨ (ad.add j).off = 2) with h | h | h <;> rw [h] at h0 <;> simp at h0
      · rw [Array.getElem?_eq_none (by simpa using hge)] at h0; cases h0
  rw [World.cell?_of_block (hk.block (ad.add j).block (World.block_lt_of_cell? _ _ h0) (by rw [hb]; exact hne))]
  exact h0
theorem append_dsk (g b n : Nat) (off : Bool) (fuse : Int) (F : List (Ky × Cont)) (S : Nat → Prop) (s : ByteArray) (A : Option Addr) (c : Nat) (x : List Int) (W : World) (D : Dsk W g b n off fuse F S) (hs : s.size ≤ maxLen) (hC : Kd.C (Kd.int .u8) W A x.length x) (hn : n < maxLen) (hfresh : ∀ k, W.heap.size ≤ k → S k) (hl : (cur F s.data.toList).1.length + x.length ≤ 1000000) (hfu : -1 ≤ fuse ∧ fuse ≤ 9223372036854775807) :
    Calls Try.prog 62 #[.pointer (some ⟨g, 0, none⟩), .string s, .slice A x.length c] W fun e W' => e = .returned (.int .i64 (appR off fuse F s.data.toList x).2.2.2) ∧
      Dsk W' g b (n + 1) (appR off fuse F s.data.toList x).1 (appR off fuse F s.data.toList x).2.1 (appR off fuse F s.data.toList x).2.2.1 S ∧ Kb (fun k => k = g ∨ k = b) W W' := by
  have hmf : ∀ (fn : Fn) (first cap : Array Value) (w : World), (Instr.makeFunc fn first cap).run Try.prog w = .ok (.func fn first cap) w := fun _ _ _ _ => rfl
  have hb3 : Below W.heap.size W (((W.alloc (.cells #[.pointer (some ⟨g, 0, none⟩)] 89)).alloc (.cells #[.string s] 9)).alloc (.cells #[.slice A x.length c] 22)) := (below_alloc (below_alloc (below_alloc (Below.refl _ _) _) _) _)
  have hgl := D.glt
  have HD3 := Aside0.mk (D.below hb3)
  have Hb3 := Aside0.mk hb3
  have HD := Aside0.mk D
  have q0 : (((W.alloc (.cells #[.pointer (some ⟨g, 0, none⟩)] 89)).alloc (.cells #[.string s] 9)).alloc (.cells #[.slice A x.length c] 22)).heap[W.heap.size]? = some (.cells #[.pointer (some ⟨g, 0, none⟩)] 89 (0, 0)) := by
    have this : (((W.alloc (.cells #[.pointer (some ⟨g, 0, none⟩)] 89)).alloc (.cells #[.string s] 9)).alloc (.cells #[.slice A x.length c] 22)).heap[W.heap.size]? = some (.cells #[.pointer (some ⟨g, 0, none⟩)] 89 (0, 0)) := blk_below (blk_below (blk_new W _) (below_alloc (Below.refl _ _) _)) (below_alloc (Below.refl _ _) _)
    simpa only [World.size_alloc, Nat.add_assoc] using this
  have Q0 := Aside0.mk q0
  have q1 : (((W.alloc (.cells #[.pointer (some ⟨g, 0, none⟩)] 89)).alloc (.cells #[.string s] 9)).alloc (.cells #[.slice A x.length c] 22)).heap[W.heap.size + 1]? = some (.cells #[.string s] 9 (0, 0)) := by
    have this : (((W.alloc (.cells #[.pointer (some ⟨g, 0, none⟩)] 89)).alloc (.cells #[.string s] 9)).alloc (.cells #[.slice A x.length c] 22)).heap[(W.alloc (.cells #[.pointer (some ⟨g, 0, none⟩)] 89)).heap.size]? = some (.cells #[.string s] 9 (0, 0)) := blk_below (blk_new (W.alloc (.cells #[.pointer (some ⟨g, 0, none⟩)] 89)) _) (below_alloc (Below.refl _ _) _)
    simpa only [World.size_alloc, Nat.add_assoc] using this
  have Q1 := Aside0.mk q1
  have q2 : (((W.alloc (.cells #[.pointer (some ⟨g, 0, none⟩)] 89)).alloc (.cells #[.string s] 9)).alloc (.cells #[.slice A x.length c] 22)).heap[W.heap.size + 2]? = some (.cells #[.slice A x.length c] 22 (0, 0)) := by
    have this : (((W.alloc (.cells #[.pointer (some ⟨g, 0, none⟩)] 89)).alloc (.cells #[.string s] 9)).alloc (.cells #[.slice A x.length c] 22)).heap[((W.alloc (.cells #[.pointer (some ⟨g, 0, none⟩)] 89)).alloc (.cells #[.string s] 9)).heap.size]? = some (.cells #[.slice A x.length c] 22 (0, 0)) := blk_new ((W.alloc (.cells #[.pointer (some ⟨g, 0, none⟩)] 89)).alloc (.cells #[.string s] 9)) _
    simpa only [World.size_alloc, Nat.add_assoc] using this
  have Q2 := Aside0.mk q2
  have Hdo : Aside0 (∀ (W1 : World) (off1 : Bool) (fuse1 : Int), Dsk W1 g b n off1 fuse1 F S → Kb (fun k => k = g) (((W.alloc (.cells #[.pointer (some ⟨g, 0, none⟩)] 89)).alloc (.cells #[.string s] 9)).alloc (.cells #[.slice A x.length c] 22)) W1 → Calls Try.prog 118 #[.pointer (some ⟨W.heap.size, 0, none⟩), .pointer (some ⟨W.heap.size + 1, 0, none⟩), .pointer (some ⟨W.heap.size + 2, 0, none⟩)] W1 fun e W' => e = .returned (.tuple #[]) ∧ Dsk W' g b (n + 1) off1 fuse1 (put F s.data.toList ((cur F s.data.toList).1 ++ x, (cur F s.data.toList).2)) S ∧ Kb (fun k => k = b) W1 W') := ⟨fun W1 off1 fuse1 hD hK => by
    refine append1 _ _ _ g b n off1 fuse1 F S s A c x W1 hD (box_cell Q0.out hK (by omega)) (box_cell Q1.out hK (by omega)) (box_cell Q2.out hK (by omega)) ?_ hs hn (fun k hk => hfresh k (Nat.le_trans Hb3.out.size (Nat.le_trans hK.size hk))) hl
    exact bytes_kb HD3.out (Kd.C_below hC Hb3.out) hK⟩
  clear hb3 D q0 q1 q2
  cases off
  · have hr : appR false fuse F s.data.toList x = chgR true false fuse F (put F s.data.toList ((cur F s.data.toList).1 ++ x, (cur F s.data.toList).2)) := rfl
    rw [hr]
    clear hr
    go_enter Try.func62, Try.ntmps62
    go_wp2_with (first
      | ((with_reducible refine gate_callee (f := 116) rfl ?_); refine goesL_ (some 9) rfl rfl Try.func116 (by kernel_rfl) rfl #[.pointer (some ⟨g, 0, none⟩)] rfl (by (try simp only [List.map_toArray, List.map_cons, List.map_nil]); first | done | rfl) ?_; refine (goes_dsk _ _ _ _ _ _ _ _ HD3.out).mono ?_; rintro e _ ⟨rfl, rfl⟩; refine ⟨_, rfl, ?_⟩)
      | ((with_reducible refine gate_callee (f := 117) rfl ?_); refine goesL_ (some 15) rfl rfl Try.func117 (by kernel_rfl) rfl #[.pointer (some ⟨g, 0, none⟩), .bool true, .func (.func 118) #[] #[.pointer (some ⟨W.heap.size, 0, none⟩), .pointer (some ⟨W.heap.size + 1, 0, none⟩), .pointer (some ⟨W.heap.size + 2, 0, none⟩)]] rfl (by (try simp only [List.map_toArray, List.map_cons, List.map_nil]); first | done | rfl) ?_; refine (change_dsk _ _ _ _ _ _ _ _ HD3.out hfu true _ Try.f118 _ _ Try.func118 (by kernel_rfl) rfl Hdo.out).mono ?_; rintro e W4 ⟨rfl, hD, hK⟩; refine ⟨_, rfl, ?_⟩; have HD4 := Aside0.mk hD; have HK4 := Aside0.mk hK; clear hD hK))
    go_ret
    exact ⟨rfl, HD4.out, (Kb.of_below _ Hb3.out).trans HK4.out⟩
  · go_enter Try.func62, Try.ntmps62
    go_wp2_with (first
      | ((with_reducible refine gate_callee (f := 116) rfl ?_); refine goesL_ (some 9) rfl rfl Try.func116 (by kernel_rfl) rfl #[.pointer (some ⟨g, 0, none⟩)] rfl (by (try simp only [List.map_toArray, List.map_cons, List.map_nil]); first | done | rfl) ?_; refine (goes_dsk _ _ _ _ _ _ _ _ HD3.out).mono ?_; rintro e _ ⟨rfl, rfl⟩; refine ⟨_, rfl, ?_⟩)
      | fail)
    go_ret
    exact ⟨rfl, HD3.out.more (Nat.le_succ _), Kb.of_below _ Hb3.out⟩
theorem sync_dsk (g b n : Nat) (off : Bool) (fuse : Int) (F : List (Ky × Cont)) (S : Nat → Prop) (s : ByteArray) (W : World) (D : Dsk W g b n off fuse F S) (hs : s.size ≤ maxLen) (hn : n < maxLen) (hfu : -1 ≤ fuse ∧ fuse ≤ 9223372036854775807) :
    Calls Try.prog 63 #[.pointer (some ⟨g, 0, none⟩), .string s] W fun e W' => e = .returned (.int .i64 (askR off fuse F (put F s.data.toList ((cur F s.data.toList).1, (cur F s.data.toList).1.length)) s.data.toList).2.2.2) ∧
      Dsk W' g b (n + 1) (askR off fuse F (put F s.data.toList ((cur F s.data.toList).1, (cur F s.data.toList).1.length)) s.data.toList).1 (askR off fuse F (put F s.data.toList ((cur F s.data.toList).1, (cur F s.data.toList).1.length)) s.data.toList).2.1 (askR off fuse F (put F s.data.toList ((cur F s.data.toList).1, (cur F s.data.toList).1.length)) s.data.toList).2.2.1 S ∧ Kb (fun k => k = g ∨ k = b) W W' := by
  have hmf : ∀ (fn : Fn) (first cap : Array Value) (w : World), (Instr.makeFunc fn first cap).run Try.prog w = .ok (.func fn first cap) w := fun _ _ _ _ => rfl
  have hb3 : Below W.heap.size W ((W.alloc (.cells #[.pointer (some ⟨g, 0, none⟩)] 89)).alloc (.cells #[.string s] 9)) := (below_alloc (below_alloc (Below.refl _ _) _) _)
  have hgl := D.glt
  have HD3 := Aside0.mk (D.below hb3)
  have Hb3 := Aside0.mk hb3
  have HD := Aside0.mk D
  have q0 : ((W.alloc (.cells #[.pointer (some ⟨g, 0, none⟩)] 89)).alloc (.cells #[.string s] 9)).heap[W.heap.size]? = some (.cells #[.pointer (some ⟨g, 0, none⟩)] 89 (0, 0)) := by
    have this : ((W.alloc (.cells #[.pointer (some ⟨g, 0, none⟩)] 89)).alloc (.cells #[.string s] 9)).heap[W.heap.size]? = some (.cells #[.pointer (some ⟨g, 0, none⟩)] 89 (0, 0)) := blk_below (blk_new W _) (below_alloc (Below.refl _ _) _)
    simpa only [World.size_alloc, Nat.add_assoc] using this
  have Q0 := Aside0.mk q0
  have q1 : ((W.alloc (.cells #[.pointer (some ⟨g, 0, none⟩)] 89)).alloc (.cells #[.string s] 9)).heap[W.heap.size + 1]? = some (.cells #[.string s] 9 (0, 0)) := by
    have this : ((W.alloc (.cells #[.pointer (some ⟨g, 0, none⟩)] 89)).alloc (.cells #[.string s] 9)).heap[(W.alloc (.cells #[.pointer (some ⟨g, 0, none⟩)] 89)).heap.size]? = some (.cells #[.string s] 9 (0, 0)) := blk_new (W.alloc (.cells #[.pointer (some ⟨g, 0, none⟩)] 89)) _
    simpa only [World.size_alloc, Nat.add_assoc] using this
  have Q1 := Aside0.mk q1
  have Hdo : Aside0 (∀ (W1 : World) (off1 : Bool) (fuse1 : Int), Dsk W1 g b n off1 fuse1 F S → Kb (fun k => k = g) ((W.alloc (.cells #[.pointer (some ⟨g, 0, none⟩)] 89)).alloc (.cells #[.string s] 9)) W1 → Calls Try.prog 121 #[.pointer (some ⟨W.heap.size, 0, none⟩), .pointer (some ⟨W.heap.size + 1, 0, none⟩)] W1 fun e W' => e = .returned (.tuple #[]) ∧ Dsk W' g b (n + 1) off1 fuse1 (put F s.data.toList ((cur F s.data.toList).1, (cur F s.data.toList).1.length)) S ∧ Kb (fun k => k = b) W1 W') := ⟨fun W1 off1 fuse1 hD hK => by
    exact sync1 _ _ g b n off1 fuse1 F S s W1 hD (box_cell Q0.out hK (by omega)) (box_cell Q1.out hK (by omega)) hs hn⟩
  clear hb3 D q0 q1
  cases off
  · obtain ⟨is, his⟩ : ∃ is, is = (Mp.get F s.data.toList).isSome := ⟨_, rfl⟩
    have His := Aside0.mk his
    cases is
    · have hr : askR false fuse F (put F s.data.toList ((cur F s.data.toList).1, (cur F s.data.toList).1.length)) s.data.toList = (false, fuse, F, 5) := by unfold askR; rw [← his]; rfl
      rw [hr]
      clear hr his
      go_enter Try.func63, Try.ntmps63
      go_wp2_with (first
        | ((with_reducible refine gate_callee (f := 120) rfl ?_); refine goesL_ (some 8) rfl rfl Try.func120 (by kernel_rfl) rfl #[.pointer (some ⟨g, 0, none⟩), .string s] rfl (by (try simp only [List.map_toArray, List.map_cons, List.map_nil]); first | done | rfl) ?_; refine (there_dsk _ _ _ _ _ _ _ s hs _ HD3.out).mono ?_; rintro e w5 ⟨rfl, hb⟩; refine ⟨_, rfl, ?_⟩; have Z := His.out; rw [← Z]; clear Z; have HD5 := Aside0.mk (HD3.out.below hb); have Hb5 := Aside0.mk hb; clear hb)
        | fail)
      go_ret
      exact ⟨rfl, HD5.out.more (Nat.le_succ _), (Kb.of_below _ Hb3.out).trans (Kb.of_below _ Hb5.out)⟩
    · have hr : askR false fuse F (put F s.data.toList ((cur F s.data.toList).1, (cur F s.data.toList).1.length)) s.data.toList = chgR false false fuse F (put F s.data.toList ((cur F s.data.toList).1, (cur F s.data.toList).1.length)) := by unfold askR; rw [← his]; rfl
      rw [hr]
      clear hr his
      go_enter Try.func63, Try.ntmps63
      go_wp2_with (first
        | ((with_reducible refine gate_callee (f := 120) rfl ?_); refine goesL_ (some 8) rfl rfl Try.func120 (by kernel_rfl) rfl #[.pointer (some ⟨g, 0, none⟩), .string s] rfl (by (try simp only [List.map_toArray, List.map_cons, List.map_nil]); first | done | rfl) ?_; refine (there_dsk _ _ _ _ _ _ _ s hs _ HD3.out).mono ?_; rintro e w5 ⟨rfl, hb⟩; refine ⟨_, rfl, ?_⟩; have Z := His.out; rw [← Z]; clear Z; have HD5 := Aside0.mk (HD3.out.below hb); have Hb5 := Aside0.mk hb; clear hb; have k0_ : w5.cell? ⟨W.heap.size, 0, none⟩ = some (.pointer (some ⟨g, 0, none⟩)) := (by rw [blk_cell (blk_below Q0.out Hb5.out)]; rfl); have k1_ : w5.cell? ⟨W.heap.size + 1, 0, none⟩ = some (.string s) := (by rw [blk_cell (blk_below Q1.out Hb5.out)]; rfl))
        | ((with_reducible refine gate_callee (f := 117) rfl ?_); refine goesL_ (some 14) rfl rfl Try.func117 (by kernel_rfl) rfl #[.pointer (some ⟨g, 0, none⟩), .bool false, .func (.func 121) #[] #[.pointer (some ⟨W.heap.size, 0, none⟩), .pointer (some ⟨W.heap.size + 1, 0, none⟩)]] rfl (by (try simp only [List.map_toArray, List.map_cons, List.map_nil]); first | done | rfl) ?_; refine (change_dsk _ _ _ _ _ _ _ _ HD5.out hfu false _ Try.f121 _ _ Try.func121 (by kernel_rfl) rfl (fun W1 off1 fuse1 h1 h2 => Hdo.out W1 off1 fuse1 h1 ((Kb.of_below _ Hb5.out).trans h2))).mono ?_; rintro e W4 ⟨rfl, hD, hK⟩; refine ⟨_, rfl, ?_⟩; have HD4 := Aside0.mk hD; have HK4 := Aside0.mk hK; clear hD hK))
      go_ret
      exact ⟨rfl, HD4.out, ((Kb.of_below _ Hb3.out).trans (Kb.of_below _ Hb5.out)).trans HK4.out⟩
  · go_enter Try.func63, Try.ntmps63
    go_wp2_with (first
      | ((with_reducible refine gate_callee (f := 120) rfl ?_); refine goesL_ (some 8) rfl rfl Try.func120 (by kernel_rfl) rfl #[.pointer (some ⟨g, 0, none⟩), .string s] rfl (by (try simp only [List.map_toArray, List.map_cons, List.map_nil]); first | done | rfl) ?_; refine (there_dsk _ _ _ _ _ _ _ s hs _ HD3.out).mono ?_; rintro e w5 ⟨rfl, hb⟩; refine ⟨_, rfl, ?_⟩; have HD5 := Aside0.mk (HD3.out.below hb); have Hb5 := Aside0.mk hb; clear hb)
      | fail)
    go_ret
    exact ⟨rfl, HD5.out.more (Nat.le_succ _), (Kb.of_below _ Hb3.out).trans (Kb.of_below _ Hb5.out)⟩
theorem remove_dsk (g b n : Nat) (off : Bool) (fuse : Int) (F : List (Ky × Cont)) (S : Nat → Prop) (s : ByteArray) (W : World) (D : Dsk W g b n off fuse F S) (hs : s.size ≤ maxLen) (hfu : -1 ≤ fuse ∧ fuse ≤ 9223372036854775807) :
    Calls Try.prog 74 #[.pointer (some ⟨g, 0, none⟩), .string s] W fun e W' => e = .returned (.int .i64 (askR off fuse F (Mp.del F s.data.toList) s.data.toList).2.2.2) ∧
      Dsk W' g b (n + 1) (askR off fuse F (Mp.del F s.data.toList) s.data.toList).1 (askR off fuse F (Mp.del F s.data.toList) s.data.toList).2.1 (askR off fuse F (Mp.del F s.data.toList) s.data.toList).2.2.1 S ∧ Kb (fun k => k = g ∨ k = b) W W' := by
  have hmf : ∀ (fn : Fn) (first cap : Array Value) (w : World), (Instr.makeFunc fn first cap).run Try.prog w = .ok (.func fn first cap) w := fun _ _ _ _ => rfl
  have hb3 : Below W.heap.size W ((W.alloc (.cells #[.pointer (some ⟨g, 0, none⟩)] 89)).alloc (.cells #[.string s] 9)) := (below_alloc (below_alloc (Below.refl _ _) _) _)
  have hgl := D.glt
  have HD3 := Aside0.mk (D.below hb3)
  have Hb3 := Aside0.mk hb3
  have HD := Aside0.mk D
  have q0 : ((W.alloc (.cells #[.pointer (some ⟨g, 0, none⟩)] 89)).alloc (.cells #[.string s] 9)).heap[W.heap.size]? = some (.cells #[.pointer (some ⟨g, 0, none⟩)] 89 (0, 0)) := by
    have this : ((W.alloc (.cells #[.pointer (some ⟨g, 0, none⟩)] 89)).alloc (.cells #[.string s] 9)).heap[W.heap.size]? = some (.cells #[.pointer (some ⟨g, 0, none⟩)] 89 (0, 0)) := blk_below (blk_new W _) (below_alloc (Below.refl _ _) _)
    simpa only [World.size_alloc, Nat.add_assoc] using this
  have Q0 := Aside0.mk q0
  have q1 : ((W.alloc (.cells #[.pointer (some ⟨g, 0, none⟩)] 89)).alloc (.cells #[.string s] 9)).heap[W.heap.size + 1]? = some (.cells #[.string s] 9 (0, 0)) := by
    have this : ((W.alloc (.cells #[.pointer (some ⟨g, 0, none⟩)] 89)).alloc (.cells #[.string s] 9)).heap[(W.alloc (.cells #[.pointer (some ⟨g, 0, none⟩)] 89)).heap.size]? = some (.cells #[.string s] 9 (0, 0)) := blk_new (W.alloc (.cells #[.pointer (some ⟨g, 0, none⟩)] 89)) _
    simpa only [World.size_alloc, Nat.add_assoc] using this
  have Q1 := Aside0.mk q1
  have Hdo : Aside0 (∀ (W1 : World) (off1 : Bool) (fuse1 : Int), Dsk W1 g b n off1 fuse1 F S → Kb (fun k => k = g) ((W.alloc (.cells #[.pointer (some ⟨g, 0, none⟩)] 89)).alloc (.cells #[.string s] 9)) W1 → Calls Try.prog 126 #[.pointer (some ⟨W.heap.size, 0, none⟩), .pointer (some ⟨W.heap.size + 1, 0, none⟩)] W1 fun e W' => e = .returned (.tuple #[]) ∧ Dsk W' g b (n + 1) off1 fuse1 (Mp.del F s.data.toList) S ∧ Kb (fun k => k = b) W1 W') := ⟨fun W1 off1 fuse1 hD hK => by
    refine (remove1 _ _ g b n off1 fuse1 F S s W1 hD (box_cell Q0.out hK (by omega)) (box_cell Q1.out hK (by omega)) hs).mono ?_
    rintro e W' ⟨he, hD', hK'⟩
    exact ⟨he, hD'.more (Nat.le_succ _), hK'⟩⟩
  clear hb3 D q0 q1
  cases off
  · obtain ⟨is, his⟩ : ∃ is, is = (Mp.get F s.data.toList).isSome := ⟨_, rfl⟩
    have His := Aside0.mk his
    cases is
    · have hr : askR false fuse F (Mp.del F s.data.toList) s.data.toList = (false, fuse, F, 5) := by unfold askR; rw [← his]; rfl
      rw [hr]
      clear hr his
      go_enter Try.func74, Try.ntmps74
      go_wp2_with (first
        | ((with_reducible refine gate_callee (f := 120) rfl ?_); refine goesL_ (some 8) rfl rfl Try.func120 (by kernel_rfl) rfl #[.pointer (some ⟨g, 0, none⟩), .string s] rfl (by (try simp only [List.map_toArray, List.map_cons, List.map_nil]); first | done | rfl) ?_; refine (there_dsk _ _ _ _ _ _ _ s hs _ HD3.out).mono ?_; rintro e w5 ⟨rfl, hb⟩; refine ⟨_, rfl, ?_⟩; have Z := His.out; rw [← Z]; clear Z; have HD5 := Aside0.mk (HD3.out.below hb); have Hb5 := Aside0.mk hb; clear hb)
        | fail)
      go_ret
      exact ⟨rfl, HD5.out.more (Nat.le_succ _), (Kb.of_below _ Hb3.out).trans (Kb.of_below _ Hb5.out)⟩
    · have hr : askR false fuse F (Mp.del F s.data.toList) s.data.toList = chgR false false fuse F (Mp.del F s.data.toList) := by unfold askR; rw [← his]; rfl
      rw [hr]
      clear hr his
      go_enter Try.func74, Try.ntmps74
      go_wp2_with (first
        | ((with_reducible refine gate_callee (f := 120) rfl ?_); refine goesL_ (some 8) rfl rfl Try.func120 (by kernel_rfl) rfl #[.pointer (some ⟨g, 0, none⟩), .string s] rfl (by (try simp only [List.map_toArray, List.map_cons, List.map_nil]); first | done | rfl) ?_; refine (there_dsk _ _ _ _ _ _ _ s hs _ HD3.out).mono ?_; rintro e w5 ⟨rfl, hb⟩; refine ⟨_, rfl, ?_⟩; have Z := His.out; rw [← Z]; clear Z; have HD5 := Aside0.mk (HD3.out.below hb); have Hb5 := Aside0.mk hb; clear hb; have k0_ : w5.cell? ⟨W.heap.size, 0, none⟩ = some (.pointer (some ⟨g, 0, none⟩)) := (by rw [blk_cell (blk_below Q0.out Hb5.out)]; rfl); have k1_ : w5.cell? ⟨W.heap.size + 1, 0, none⟩ = some (.string s) := (by rw [blk_cell (blk_below Q1.out Hb5.out)]; rfl))
        | ((with_reducible refine gate_callee (f := 117) rfl ?_); refine goesL_ (some 14) rfl rfl Try.func117 (by kernel_rfl) rfl #[.pointer (some ⟨g, 0, none⟩), .bool false, .func (.func 126) #[] #[.pointer (some ⟨W.heap.size, 0, none⟩), .pointer (some ⟨W.heap.size + 1, 0, none⟩)]] rfl (by (try simp only [List.map_toArray, List.map_cons, List.map_nil]); first | done | rfl) ?_; refine (change_dsk _ _ _ _ _ _ _ _ HD5.out hfu false _ Try.f126 _ _ Try.func126 (by kernel_rfl) rfl (fun W1 off1 fuse1 h1 h2 => Hdo.out W1 off1 fuse1 h1 ((Kb.of_below _ Hb5.out).trans h2))).mono ?_; rintro e W4 ⟨rfl, hD, hK⟩; refine ⟨_, rfl, ?_⟩; have HD4 := Aside0.mk hD; have HK4 := Aside0.mk hK; clear hD hK))
      go_ret
      exact ⟨rfl, HD4.out, ((Kb.of_below _ Hb3.out).trans (Kb.of_below _ Hb5.out)).trans HK4.out⟩
  · go_enter Try.func74, Try.ntmps74
    go_wp2_with (first
      | ((with_reducible refine gate_callee (f := 120) rfl ?_); refine goesL_ (some 8) rfl rfl Try.func120 (by kernel_rfl) rfl #[.pointer (some ⟨g, 0, none⟩), .string s] rfl (by (try simp only [List.map_toArray, List.map_cons, List.map_nil]); first | done | rfl) ?_; refine (there_dsk _ _ _ _ _ _ _ s hs _ HD3.out).mono ?_; rintro e w5 ⟨rfl, hb⟩; refine ⟨_, rfl, ?_⟩; have HD5 := Aside0.mk (HD3.out.below hb); have Hb5 := Aside0.mk hb; clear hb)
      | fail)
    go_ret
    exact ⟨rfl, HD5.out.more (Nat.le_succ _), (Kb.of_below _ Hb3.out).trans (Kb.of_below _ Hb5.out)⟩
theorem rename_dsk (g b n : Nat) (off : Bool) (fuse : Int) (F : List (Ky × Cont)) (S : Nat → Prop) (s t : ByteArray) (W : World) (D : Dsk W g b n off fuse F S) (hs : s.size ≤ maxLen) (ht : t.size ≤ maxLen) (hn : n < maxLen) (hfu : -1 ≤ fuse ∧ fuse ≤ 9223372036854775807) :
    Calls Try.prog 77 #[.pointer (some ⟨g, 0, none⟩), .string s, .string t] W fun e W' => e = .returned (.int .i64 (askR off fuse F (put (Mp.del F s.data.toList) t.data.toList (cur F s.data.toList)) s.data.toList).2.2.2) ∧
      Dsk W' g b (n + 1) (askR off fuse F (put (Mp.del F s.data.toList) t.data.toList (cur F s.data.toList)) s.data.toList).1 (askR off fuse F (put (Mp.del F s.data.toList) t.data.toList (cur F s.data.toList)) s.data.toList).2.1 (askR off fuse F (put (Mp.del F s.data.toList) t.data.toList (cur F s.data.toList)) s.data.toList).2.2.1 S ∧ Kb (fun k => k = g ∨ k = b) W W' := by
  have hmf : ∀ (fn : Fn) (first cap : Array Value) (w : World), (Instr.makeFunc fn first cap).run Try.prog w = .ok (.func fn first cap) w := fun _ _ _ _ => rfl
  have hb3 : Below W.heap.size W (((W.alloc (.cells #[.pointer (some ⟨g, 0, none⟩)] 89)).alloc (.cells #[.string s] 9)).alloc (.cells #[.string t] 9)) := (below_alloc (below_alloc (below_alloc (Below.refl _ _) _) _) _)
  have hgl := D.glt
  have HD3 := Aside0.mk (D.below hb3)
  have Hb3 := Aside0.mk hb3
  have HD := Aside0.mk D
  have q0 : (((W.alloc (.cells #[.pointer (some ⟨g, 0, none⟩)] 89)).alloc (.cells #[.string s] 9)).alloc (.cells #[.string t] 9)).heap[W.heap.size]? = some (.cells #[.pointer (some ⟨g, 0, none⟩)] 89 (0, 0)) := by
    have this : (((W.alloc (.cells #[.pointer (some ⟨g, 0, none⟩)] 89)).alloc (.cells #[.string s] 9)).alloc (.cells #[.string t] 9)).heap[W.heap.size]? = some (.cells #[.pointer (some ⟨g, 0, none⟩)] 89 (0, 0)) := blk_below (blk_below (blk_new W _) (below_alloc (Below.refl _ _) _)) (below_alloc (Below.refl _ _) _)
    simpa only [World.size_alloc, Nat.add_assoc] using this
  have Q0 := Aside0.mk q0
  have q1 : (((W.alloc (.cells #[.pointer (some ⟨g, 0, none⟩)] 89)).alloc (.cells #[.string s] 9)).alloc (.cells #[.string t] 9)).heap[W.heap.size + 1]? = some (.cells #[.string s] 9 (0, 0)) := by
    have this : (((W.alloc (.cells #[.pointer (some ⟨g, 0, none⟩)] 89)).alloc (.cells #[.string s] 9)).alloc (.cells #[.string t] 9)).heap[(W.alloc (.cells #[.pointer (some ⟨g, 0, none⟩)] 89)).heap.size]? = some (.cells #[.string s] 9 (0, 0)) := blk_below (blk_new (W.alloc (.cells #[.pointer (some ⟨g, 0, none⟩)] 89)) _) (below_alloc (Below.refl _ _) _)
    simpa only [World.size_alloc, Nat.add_assoc] using this
  have Q1 := Aside0.mk q1
  have q2 : (((W.alloc (.cells #[.pointer (some ⟨g, 0, none⟩)] 89)).alloc (.cells #[.string s] 9)).alloc (.cells #[.string t] 9)).heap[W.heap.size + 2]? = some (.cells #[.string t] 9 (0, 0)) := by
    have this : (((W.alloc (.cells #[.pointer (some ⟨g, 0, none⟩)] 89)).alloc (.cells #[.string s] 9)).alloc (.cells #[.string t] 9)).heap[((W.alloc (.cells #[.pointer (some ⟨g, 0, none⟩)] 89)).alloc (.cells #[.string s] 9)).heap.size]? = some (.cells #[.string t] 9 (0, 0)) := blk_new ((W.alloc (.cells #[.pointer (some ⟨g, 0, none⟩)] 89)).alloc (.cells #[.string s] 9)) _
    simpa only [World.size_alloc, Nat.add_assoc] using this
  have Q2 := Aside0.mk q2
  have Hdo : Aside0 (∀ (W1 : World) (off1 : Bool) (fuse1 : Int), Dsk W1 g b n off1 fuse1 F S → Kb (fun k => k = g) (((W.alloc (.cells #[.pointer (some ⟨g, 0, none⟩)] 89)).alloc (.cells #[.string s] 9)).alloc (.cells #[.string t] 9)) W1 → Calls Try.prog 134 #[.pointer (some ⟨W.heap.size, 0, none⟩), .pointer (some ⟨W.heap.size + 1, 0, none⟩), .pointer (some ⟨W.heap.size + 2, 0, none⟩)] W1 fun e W' => e = .returned (.tuple #[]) ∧ Dsk W' g b (n + 1) off1 fuse1 (put (Mp.del F s.data.toList) t.data.toList (cur F s.data.toList)) S ∧ Kb (fun k => k = b) W1 W') := ⟨fun W1 off1 fuse1 hD hK => by
    exact rename1 _ _ _ g b n off1 fuse1 F S s t W1 hD (box_cell Q0.out hK (by omega)) (box_cell Q1.out hK (by omega)) (box_cell Q2.out hK (by omega)) hs ht hn⟩
  clear hb3 D q0 q1 q2
  cases off
  · obtain ⟨is, his⟩ : ∃ is, is = (Mp.get F s.data.toList).isSome := ⟨_, rfl⟩
    have His := Aside0.mk his
    cases is
    · have hr : askR false fuse F (put (Mp.del F s.data.toList) t.data.toList (cur F s.data.toList)) s.data.toList = (false, fuse, F, 5) := by unfold askR; rw [← his]; rfl
      rw [hr]
      clear hr his
      go_enter Try.func77, Try.ntmps77
      go_wp2_with (first
        | ((with_reducible refine gate_callee (f := 120) rfl ?_); refine goesL_ (some 10) rfl rfl Try.func120 (by kernel_rfl) rfl #[.pointer (some ⟨g, 0, none⟩), .string s] rfl (by (try simp only [List.map_toArray, List.map_cons, List.map_nil]); first | done | rfl) ?_; refine (there_dsk _ _ _ _ _ _ _ s hs _ HD3.out).mono ?_; rintro e w5 ⟨rfl, hb⟩; refine ⟨_, rfl, ?_⟩; have Z := His.out; rw [← Z]; clear Z; have HD5 := Aside0.mk (HD3.out.below hb); have Hb5 := Aside0.mk hb; clear hb)
        | fail)
      go_ret
      exact ⟨rfl, HD5.out.more (Nat.le_succ _), (Kb.of_below _ Hb3.out).trans (Kb.of_below _ Hb5.out)⟩
    · have hr : askR false fuse F (put (Mp.del F s.data.toList) t.data.toList (cur F s.data.toList)) s.data.toList = chgR false false fuse F (put (Mp.del F s.data.toList) t.data.toList (cur F s.data.toList)) := by unfold askR; rw [← his]; rfl
      rw [hr]
      clear hr his
      go_enter Try.func77, Try.ntmps77
      go_wp2_with (first
        | ((with_reducible refine gate_callee (f := 120) rfl ?_); refine goesL_ (some 10) rfl rfl Try.func120 (by kernel_rfl) rfl #[.pointer (some ⟨g, 0, none⟩), .string s] rfl (by (try simp only [List.map_toArray, List.map_cons, List.map_nil]); first | done | rfl) ?_; refine (there_dsk _ _ _ _ _ _ _ s hs _ HD3.out).mono ?_; rintro e w5 ⟨rfl, hb⟩; refine ⟨_, rfl, ?_⟩; have Z := His.out; rw [← Z]; clear Z; have HD5 := Aside0.mk (HD3.out.below hb); have Hb5 := Aside0.mk hb; clear hb; have k0_ : w5.cell? ⟨W.heap.size, 0, none⟩ = some (.pointer (some ⟨g, 0, none⟩)) := (by rw [blk_cell (blk_below Q0.out Hb5.out)]; rfl); have k1_ : w5.cell? ⟨W.heap.size + 1, 0, none⟩ = some (.string s) := (by rw [blk_cell (blk_below Q1.out Hb5.out)]; rfl); have k2_ : w5.cell? ⟨W.heap.size + 2, 0, none⟩ = some (.string t) := (by rw [blk_cell (blk_below Q2.out Hb5.out)]; rfl))
        | ((with_reducible refine gate_callee (f := 117) rfl ?_); refine goesL_ (some 16) rfl rfl Try.func117 (by kernel_rfl) rfl #[.pointer (some ⟨g, 0, none⟩), .bool false, .func (.func 134) #[] #[.pointer (some ⟨W.heap.size, 0, none⟩), .pointer (some ⟨W.heap.size + 1, 0, none⟩), .pointer (some ⟨W.heap.size + 2, 0, none⟩)]] rfl (by (try simp only [List.map_toArray, List.map_cons, List.map_nil]); first | done | rfl) ?_; refine (change_dsk _ _ _ _ _ _ _ _ HD5.out hfu false _ Try.f134 _ _ Try.func134 (by kernel_rfl) rfl (fun W1 off1 fuse1 h1 h2 => Hdo.out W1 off1 fuse1 h1 ((Kb.of_below _ Hb5.out).trans h2))).mono ?_; rintro e W4 ⟨rfl, hD, hK⟩; refine ⟨_, rfl, ?_⟩; have HD4 := Aside0.mk hD; have HK4 := Aside0.mk hK; clear hD hK))
      go_ret
      exact ⟨rfl, HD4.out, ((Kb.of_below _ Hb3.out).trans (Kb.of_below _ Hb5.out)).trans HK4.out⟩
  · go_enter Try.func77, Try.ntmps77
    go_wp2_with (first
      | ((with_reducible refine gate_callee (f := 120) rfl ?_); refine goesL_ (some 10) rfl rfl Try.func120 (by kernel_rfl) rfl #[.pointer (some ⟨g, 0, none⟩), .string s] rfl (by (try simp only [List.map_toArray, List.map_cons, List.map_nil]); first | done | rfl) ?_; refine (there_dsk _ _ _ _ _ _ _ s hs _ HD3.out).mono ?_; rintro e w5 ⟨rfl, hb⟩; refine ⟨_, rfl, ?_⟩; have HD5 := Aside0.mk (HD3.out.below hb); have Hb5 := Aside0.mk hb; clear hb)
      | fail)
    go_ret
    exact ⟨rfl, HD5.out.more (Nat.le_succ _), (Kb.of_below _ Hb3.out).trans (Kb.of_below _ Hb5.out)⟩
end Go.Proofs.Ytobgijpbfmpdaaa.Dk
