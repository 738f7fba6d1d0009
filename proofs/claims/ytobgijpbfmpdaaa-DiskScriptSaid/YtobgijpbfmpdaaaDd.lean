/- A disk's methods: contracts of New, Off, Fuse, Waits, Read, Names. -/
import Derived.Test.YtobgijpbfmpdaaaDc
import Derived.Test.YtobgijpbfmpdaaaSk
set_option linter.unusedVariables false
set_option linter.unusedSimpArgs false
set_option maxRecDepth 100000
namespace Go.Proofs.Ytobgijpbfmpdaaa.Dk
open Go.RowKit Go.Proofs.YtobgijpbfmpdaaaW.PrintWords Go.Proofs.YtobgijpbfmpdaaaW.PrintLast Go.Proofs.YtobgijpbfmpdaaaW.PrintMore
open Go.Proofs.Ytobgijpbfmpdaaa.Fm Go.Proofs.Ytobgijpbfmpdaaa.Mp
set_option maxHeartbeats 4000000
theorem new_dsk (W : World) : Calls Try.prog 61 #[] W fun e W' => e = .returned (.pointer (some ⟨W.heap.size + 1, 0, none⟩)) ∧
    W' = (W.alloc (.map #[] 0)).alloc (.cells #[.map (some W.heap.size), .bool false, .int .i64 (-1)] 110) := by
  have hmm := @run_makeMap Try.prog
  go_enter Try.func61, Try.ntmps61
  go_wp2
  go_ret
  exact ⟨rfl, rfl⟩
theorem dsk_new (W : World) (S : Nat → Prop) (hS : ∀ k, S k → k ≠ W.heap.size + 1 ∧ k ≠ W.heap.size) : Dsk ((W.alloc (.map #[] 0)).alloc (.cells #[.map (some W.heap.size), .bool false, .int .i64 (-1)] 110)) (W.heap.size + 1) W.heap.size 0 false (-1) [] S := by
  refine ⟨?_, ⟨[], (Mp.own_made W).kb (Kb.of_below (fun _ => False) (below_alloc (Below.refl _ _) _)) id, .nil⟩, hS⟩
  have := blk_new (W.alloc (.map #[] 0)) (.cells #[.map (some W.heap.size), .bool false, .int .i64 (-1)] 110)
  simpa only [World.size_alloc] using this
theorem off_dsk (g b n : Nat) (off : Bool) (fuse : Int) (F : List (Ky × Cont)) (S : Nat → Prop) (W : World) (D : Dsk W g b n off fuse F S) : Calls Try.prog 70 #[.pointer (some ⟨g, 0, none⟩)] W fun e W' => e = .returned (.bool off) ∧ W' = W := by
  have c1 : W.cell? ⟨g, 1, none⟩ = some (.bool off) := by rw [blk_cell D.hg]; rfl
  clear D
  go_enter Try.func70, Try.ntmps70
  go_wp2
  go_ret
  exact ⟨rfl, rfl⟩
theorem off_none (W : World) : Calls Try.prog 70 #[.pointer none] W fun e W' => e = .returned (.bool false) ∧ W' = W := by
  go_enter Try.func70, Try.ntmps70
  go_wp2
  go_ret
  exact ⟨rfl, rfl⟩
theorem off_zero (g : Nat) (W : World) (c1 : W.cell? ⟨g, 1, none⟩ = some (.bool false)) : Calls Try.prog 70 #[.pointer (some ⟨g, 0, none⟩)] W fun e W' => e = .returned (.bool false) ∧ W' = W := by
  go_enter Try.func70, Try.ntmps70
  go_wp2
  go_ret
  exact ⟨rfl, rfl⟩
def fuseR (off : Bool) (fuse m : Int) : Int × Int := if off then (fuse, 250) else if m < 0 then (fuse, 1) else (m, 0)
theorem fuse_dsk (g b n : Nat) (off : Bool) (fuse : Int) (F : List (Ky × Cont)) (S : Nat → Prop) (m : Int) (W : World) (D : Dsk W g b n off fuse F S) : Calls Try.prog 68 #[.pointer (some ⟨g, 0, none⟩), .int .i64 m] W fun e W' => e = .returned (.int .i64 (fuseR off fuse m).2) ∧
    Dsk W' g b n off (fuseR off fuse m).1 F S ∧ Kb (fun k => k = g) W W' := by
  have c2 : W.cell? ⟨g, 2, none⟩ = some (.int .i64 fuse) := by rw [blk_cell D.hg]; rfl
  have f2 : W.frozen? ⟨g, 2, none⟩ = false := blk_frozen D.hg 2
  have HD := Aside0.mk D
  have HS := Aside0.mk (dsk_set D 2 (.int .i64 m) (off' := off) (fuse' := m) rfl)
  clear D
  cases off
  · by_cases hm : m < 0
    · have hr : fuseR false fuse m = (fuse, 1) := by unfold fuseR; simp [hm]
      have hmb : decide (m < 0) = true := decide_eq_true hm
      rw [hr]
      clear hr hm
      go_enter Try.func68, Try.ntmps68
      go_wp2_with (first
        | ((with_reducible refine gate_callee (f := 116) rfl ?_); refine goesL_ (some 7) rfl rfl Try.func116 (by kernel_rfl) rfl #[.pointer (some ⟨g, 0, none⟩)] rfl (by (try simp only [List.map_toArray, List.map_cons, List.map_nil]); first | done | rfl) ?_; refine (goes_dsk _ _ _ _ _ _ _ _ HD.out).mono ?_; rintro e _ ⟨rfl, rfl⟩; refine ⟨_, rfl, ?_⟩)
        | fail)
      go_ret
      exact ⟨rfl, HD.out, Kb.refl _ _⟩
    · have hr : fuseR false fuse m = (m, 0) := by unfold fuseR; simp [hm]
      have hmb : decide (m < 0) = false := decide_eq_false hm
      rw [hr]
      clear hr hm
      go_enter Try.func68, Try.ntmps68
      go_wp2_with (first
        | ((with_reducible refine gate_callee (f := 116) rfl ?_); refine goesL_ (some 7) rfl rfl Try.func116 (by kernel_rfl) rfl #[.pointer (some ⟨g, 0, none⟩)] rfl (by (try simp only [List.map_toArray, List.map_cons, List.map_nil]); first | done | rfl) ?_; refine (goes_dsk _ _ _ _ _ _ _ _ HD.out).mono ?_; rintro e _ ⟨rfl, rfl⟩; refine ⟨_, rfl, ?_⟩)
        | fail)
      go_ret
      exact ⟨rfl, HS.out.1, HS.out.2⟩
  · go_enter Try.func68, Try.ntmps68
    go_wp2_with (first
      | ((with_reducible refine gate_callee (f := 116) rfl ?_); refine goesL_ (some 7) rfl rfl Try.func116 (by kernel_rfl) rfl #[.pointer (some ⟨g, 0, none⟩)] rfl (by (try simp only [List.map_toArray, List.map_cons, List.map_nil]); first | done | rfl) ?_; refine (goes_dsk _ _ _ _ _ _ _ _ HD.out).mono ?_; rintro e _ ⟨rfl, rfl⟩; refine ⟨_, rfl, ?_⟩)
      | fail)
    go_ret
    exact ⟨rfl, HD.out, Kb.refl _ _⟩
theorem waits_dsk (g b n : Nat) (off : Bool) (fuse : Int) (F : List (Ky × Cont)) (S : Nat → Prop) (s : ByteArray) (hs : s.size ≤ maxLen) (W : World) (D : Dsk W g b n off fuse F S) (hl : (cur F s.data.toList).2 ≤ (cur F s.data.toList).1.length ∧ (cur F s.data.toList).1.length ≤ 1000000) :
    Calls Try.prog 67 #[.pointer (some ⟨g, 0, none⟩), .string s] W fun e W' => e = .returned (.int .i64 (((cur F s.data.toList).1.length - (cur F s.data.toList).2 : Nat) : Int)) ∧ Below W.heap.size W W' := by
  have c0 : W.cell? ⟨g, 0, none⟩ = some (.map (some b)) := by rw [blk_cell D.hg]; rfl
  have HD := Aside0.mk D
  obtain ⟨vs, hO, hF⟩ := D.hm
  obtain ⟨⟨Af, cf, hv, hcf, hFf⟩, _⟩ := hF.get s.data.toList
  have hcur : (Mp.get F s.data.toList).getD ([], 0) = cur F s.data.toList := rfl
  rw [hcur] at hv hcf hFf
  obtain ⟨cr, hcr⟩ : ∃ cr, cr = cur F s.data.toList := ⟨_, rfl⟩
  rw [← hcr] at hv hcf hFf hl ⊢
  obtain ⟨xs, last⟩ := cr
  dsimp only at hv hcf hFf hl ⊢
  have HO := Aside0.mk hO
  have Hv := Aside0.mk hv
  have HFf := Aside0.mk hFf
  have Hcf := Aside0.mk hcf
  have hwr : IntKind.i64.wrap ((xs.length : Int) - (last : Int)) = ((xs.length - last : Nat) : Int) := by rw [IntWalk.i64_in _ ⟨by omega, by omega⟩]; omega
  have HO1 := HO
  clear D hO hF hv hcf hFf hcr hcur hl
  go_enter Try.func67, Try.ntmps67
  go_wp2_with (first
    | ((with_reducible refine gate_callee (f := 122) rfl ?_); refine goesL_ (some 7) rfl rfl Try.func122 (by kernel_rfl) rfl #[.pointer (some ⟨g, 0, none⟩)] rfl (by (try simp only [List.map_toArray, List.map_cons, List.map_nil]); first | done | rfl) ?_; refine (made_dsk _ _ _ _ _ _ _ _ HD.out).mono ?_; rintro e _ ⟨rfl, rfl⟩; refine ⟨_, rfl, ?_⟩)
    | ((with_reducible refine gate_dst (N := 14) rfl ?_); refine at_get rfl (.tmp 12) (.tmp 13) 108 175 noFile rfl Try.underlying108 zfile rfl HO1.out s rfl hs ?_; have Z := Hv.out; rw [Z]; clear Z))
  go_ret
  exact ⟨rfl, below_alloc (Below.refl _ _) _⟩
/-- What is read, and what is wrong. -/
def readR (off : Bool) (F : Fls) (k : Ky) : List Int × Int := if off then ([], 250) else if (Mp.get F k).isSome then ((cur F k).1, 0) else ([], 5)
theorem read_dsk (g b n : Nat) (off : Bool) (fuse : Int) (F : List (Ky × Cont)) (S : Nat → Prop) (s : ByteArray) (hs : s.size ≤ maxLen) (W : World) (D : Dsk W g b n off fuse F S) (hl : (cur F s.data.toList).1.length ≤ 1000000) :
    Calls Try.prog 65 #[.pointer (some ⟨g, 0, none⟩), .string s] W fun e W' => ∃ v, e = .returned (.tuple #[v, .int .i64 (readR off F s.data.toList).2]) ∧
      Kd.R (Kd.int .u8) 5 W' W.heap.size (fun _ => True) v (readR off F s.data.toList).1 ∧ Below W.heap.size W W' := by
  have c0 : W.cell? ⟨g, 0, none⟩ = some (.map (some b)) := by rw [blk_cell D.hg]; rfl
  have HD := Aside0.mk D
  obtain ⟨vs, hO, hF⟩ := D.hm
  obtain ⟨⟨Af, cf, hv, hcf, hFf⟩, _⟩ := hF.get s.data.toList
  have hcur : (Mp.get F s.data.toList).getD ([], 0) = cur F s.data.toList := rfl
  rw [hcur] at hv hcf hFf
  obtain ⟨cr, hcr⟩ : ∃ cr, cr = cur F s.data.toList := ⟨_, rfl⟩
  rw [← hcr] at hv hcf hFf hl
  obtain ⟨xs, last⟩ := cr
  dsimp only at hv hcf hFf hl
  have HO := Aside0.mk hO
  have Hv := Aside0.mk hv
  have HFf := Aside0.mk hFf
  have Hcf := Aside0.mk hcf
  obtain ⟨is, his⟩ : ∃ is, is = (Mp.get F s.data.toList).isSome := ⟨_, rfl⟩
  have hr : readR off F s.data.toList = (if off then ([], 250) else if is then (xs, 0) else ([], 5)) := by unfold readR; rw [← his, ← hcr]
  rw [hr]
  have His := Aside0.mk his
  have hfd : ∀ (w : World) (A : Option Addr) (n c : Nat) (y : Int), (Instr.field 175 (.agg #[.slice A n c, .int .i64 y]) 0).run Try.prog w = .ok (.slice A n c) w := fun _ _ _ _ _ => by kernel_rfl
  clear D hO hF hv hcf hFf hcr hcur hr his
  cases off
  · cases is
    · go_enter Try.func65, Try.ntmps65
      go_wp2_with (first
        | ((with_reducible refine gate_callee (f := 120) rfl ?_); refine goesL_ (some 9) rfl rfl Try.func120 (by kernel_rfl) rfl #[.pointer (some ⟨g, 0, none⟩), .string s] rfl (by (try simp only [List.map_toArray, List.map_cons, List.map_nil]); first | done | rfl) ?_; refine (there_dsk _ _ _ _ _ _ _ s hs _ HD.out).mono ?_; rintro e w5 ⟨rfl, hb⟩; refine ⟨_, rfl, ?_⟩; have Z := His.out; rw [← Z]; clear Z; have Hb5 := Aside0.mk hb; have c05 : w5.cell? ⟨g, 0, none⟩ = some (.map (some b)) := pw_cell_below hb c0; have HO5 := Aside0.mk (HO.out.kb (Kb.of_below (fun _ => False) hb) id); clear hb)
        | fail)
      go_ret2
      exact ⟨_, rfl, Kd.R_nil _ _ _ _ _, Hb5.out⟩
    · go_enter Try.func65, Try.ntmps65
      go_wp2_with (first
        | ((with_reducible refine gate_callee (f := 120) rfl ?_); refine goesL_ (some 9) rfl rfl Try.func120 (by kernel_rfl) rfl #[.pointer (some ⟨g, 0, none⟩), .string s] rfl (by (try simp only [List.map_toArray, List.map_cons, List.map_nil]); first | done | rfl) ?_; refine (there_dsk _ _ _ _ _ _ _ s hs _ HD.out).mono ?_; rintro e w5 ⟨rfl, hb⟩; refine ⟨_, rfl, ?_⟩; have Z := His.out; rw [← Z]; clear Z; have Hb5 := Aside0.mk hb; have c05 : w5.cell? ⟨g, 0, none⟩ = some (.map (some b)) := pw_cell_below hb c0; have HO5 := Aside0.mk (HO.out.kb (Kb.of_below (fun _ => False) hb) id); clear hb)
        | ((with_reducible refine gate_dst (N := 13) rfl ?_); refine Kd.R_lit (Kd.int .u8) _ 5 ?hg (N := 13) ?hd (xs := ([] : List Int)) (inner := []) (ok := fun _ => True) (okp := fun _ => True) ?hr ?hp (fun _ hk => hk) trivial (Below.refl _ _) (Nat.le_refl _) (by simp) ?_; (case hd => rfl); (case hg => rfl); (case hr => first | (go_simp; done) | (go_simp; rfl)); (case hp => exact (Reps.none _ _)); intro v6 w6 ho hb hg_ hnew_; have HR6 := Aside0.mk ho; have Hb6 := Aside0.mk hb; have c06 : w6.cell? ⟨g, 0, none⟩ = some (.map (some b)) := pw_cell_below hb c05; have HO6 := Aside0.mk (HO5.out.kb (Kb.of_below (fun _ => False) hb) id); clear ho hb hg_ hnew_)
        | ((with_reducible refine gate_dst (N := 19) rfl ?_); refine at_get rfl (.tmp 17) (.tmp 18) 108 175 noFile rfl Try.underlying108 zfile rfl HO6.out s rfl hs ?_; have Z := Hv.out; rw [Z]; clear Z)
        | ((with_reducible refine gate_dst (N := 21) rfl ?_); refine Mine.app_u8 (w0 := w6) w5.heap.size rfl (.tmp 13) (.tmp 20) rfl v6 [] xs Af xs.length cf (fun _ => True) rfl rfl HR6.out (Kd.F_now (Kd.F_below HFf.out (below_step Hb5.out Hb6.out))) (fun _ _ => trivial) (Below.refl _ _) Hb6.out.size (by simp only [List.length_nil]; omega) ?_; intro v7 w7 ho hb hgr hat; rw [List.nil_append] at ho; have HR7 := Aside0.mk ho; have Hb7 := Aside0.mk (hgr); have Hb7' := Aside0.mk (Kd.R_base HR6.out); clear ho hb hgr hat))
      go_ret2
      exact ⟨_, rfl, Kd.R_lower HR7.out Hb5.out.size, (below_step Hb5.out Hb6.out).grown Hb7.out (below_step Hb5.out Hb6.out).size (fun k hk => Nat.le_trans Hb5.out.size (Hb7'.out k hk))⟩
  · go_enter Try.func65, Try.ntmps65
    go_wp2_with (first
      | ((with_reducible refine gate_callee (f := 120) rfl ?_); refine goesL_ (some 9) rfl rfl Try.func120 (by kernel_rfl) rfl #[.pointer (some ⟨g, 0, none⟩), .string s] rfl (by (try simp only [List.map_toArray, List.map_cons, List.map_nil]); first | done | rfl) ?_; refine (there_dsk _ _ _ _ _ _ _ s hs _ HD.out).mono ?_; rintro e w5 ⟨rfl, hb⟩; refine ⟨_, rfl, ?_⟩; have Hb5 := Aside0.mk hb; have c05 : w5.cell? ⟨g, 0, none⟩ = some (.map (some b)) := pw_cell_below hb c0; have HO5 := Aside0.mk (HO.out.kb (Kb.of_below (fun _ => False) hb) id); clear hb)
      | fail)
    go_ret2
    exact ⟨_, rfl, Kd.R_nil _ _ _ _ _, Hb5.out⟩
end Go.Proofs.Ytobgijpbfmpdaaa.Dk
