/- A disk that nobody made. -/
import Derived.Test.YtobgijpbfmpdaaaDe
import Derived.Test.YtobgijpbfmpdaaaWRepsOne
set_option linter.unusedVariables false
set_option linter.unusedSimpArgs false
set_option maxRecDepth 100000
namespace Go.Proofs.Ytobgijpbfmpdaaa.Dk
open Go.RowKit Go.Proofs.YtobgijpbfmpdaaaW.PrintWords Go.Proofs.YtobgijpbfmpdaaaW.PrintLast Go.Proofs.YtobgijpbfmpdaaaW.PrintMore
open Go.Proofs.Ytobgijpbfmpdaaa.Fm Go.Proofs.Ytobgijpbfmpdaaa.Mp
set_option maxHeartbeats 4000000
/-- A disk that nobody made: none, or a zero one. -/
def Nob (v : Value) (W : World) : Prop := v = .pointer none ∨ ∃ g, v = .pointer (some ⟨g, 0, none⟩) ∧ W.heap[g]? = some (.cells #[.map none, .bool false, .int .i64 0] 110 (0, 0))
theorem Nob.below {v : Value} {W W1 : World} (h : Nob v W) (hb : Below W.heap.size W W1) : Nob v W1 := by
  rcases h with h | ⟨g, h, hg⟩
  · exact .inl h
  · exact .inr ⟨g, h, blk_below hg hb⟩
theorem nob_read (s : Value) (v : Value) (W : World) (h : Nob v W) : Calls Try.prog 65 #[v, s] W fun e W' => e = .returned (.tuple #[.slice none 0 0, .int .i64 1]) ∧ Below W.heap.size W W' := by
  rcases h with rfl | ⟨g, rfl, hg⟩
  · go_enter Try.func65, Try.ntmps65
    go_wp2_with (first
      | ((with_reducible refine gate_callee (f := 120) rfl ?_); refine goesL_ (some 9) rfl rfl Try.func120 (by kernel_rfl) rfl #[.pointer none, s] rfl (by (try simp only [List.map_toArray, List.map_cons, List.map_nil]); first | done | rfl) ?_; refine (there_none _ _).mono ?_; rintro e _ ⟨rfl, rfl⟩; refine ⟨_, rfl, ?_⟩)
      | fail)
    go_ret2
    exact ⟨rfl, (Below.refl _ _)⟩
  · have c0 : W.cell? ⟨g, 0, none⟩ = some (.map none) := by rw [blk_cell hg]; rfl
    have c1 : W.cell? ⟨g, 1, none⟩ = some (.bool false) := by rw [blk_cell hg]; rfl
    have hcb : ∀ {W' : World}, Below W.heap.size W W' → W'.cell? ⟨g, 0, none⟩ = some (.map none) := fun hb => pw_cell_below hb c0
    have Hcb := Aside0.mk @hcb
    clear hcb hg
    go_enter Try.func65, Try.ntmps65
    go_wp2_with (first
      | ((with_reducible refine gate_callee (f := 120) rfl ?_); refine goesL_ (some 9) rfl rfl Try.func120 (by kernel_rfl) rfl #[.pointer (some ⟨g, 0, none⟩), s] rfl (by (try simp only [List.map_toArray, List.map_cons, List.map_nil]); first | done | rfl) ?_; refine (there_zero g _ _ (Hcb.out (Below.refl _ _))).mono ?_; rintro e _ ⟨rfl, rfl⟩; refine ⟨_, rfl, ?_⟩)
      | fail)
    go_ret2
    exact ⟨rfl, (Below.refl _ _)⟩
theorem nob_names  (v : Value) (W : World) (h : Nob v W) : Calls Try.prog 71 #[v] W fun e W' => e = .returned (.tuple #[.slice none 0 0, .int .i64 1]) ∧ Below W.heap.size W W' := by
  rcases h with rfl | ⟨g, rfl, hg⟩
  · go_enter Try.func71, Try.ntmps71
    go_wp2_with (first
      | ((with_reducible refine gate_callee (f := 116) rfl ?_); refine goesL_ (some 6) rfl rfl Try.func116 (by kernel_rfl) rfl #[.pointer none] rfl (by (try simp only [List.map_toArray, List.map_cons, List.map_nil]); first | done | rfl) ?_; refine (goes_none _).mono ?_; rintro e _ ⟨rfl, rfl⟩; refine ⟨_, rfl, ?_⟩)
      | fail)
    go_ret2
    exact ⟨rfl, (Below.refl _ _)⟩
  · have c0 : W.cell? ⟨g, 0, none⟩ = some (.map none) := by rw [blk_cell hg]; rfl
    have c1 : W.cell? ⟨g, 1, none⟩ = some (.bool false) := by rw [blk_cell hg]; rfl
    have hcb : ∀ {W' : World}, Below W.heap.size W W' → W'.cell? ⟨g, 0, none⟩ = some (.map none) := fun hb => pw_cell_below hb c0
    have Hcb := Aside0.mk @hcb
    clear hcb hg
    go_enter Try.func71, Try.ntmps71
    go_wp2_with (first
      | ((with_reducible refine gate_callee (f := 116) rfl ?_); refine goesL_ (some 6) rfl rfl Try.func116 (by kernel_rfl) rfl #[.pointer (some ⟨g, 0, none⟩)] rfl (by (try simp only [List.map_toArray, List.map_cons, List.map_nil]); first | done | rfl) ?_; refine (goes_zero g _ (Hcb.out (Below.refl _ _))).mono ?_; rintro e _ ⟨rfl, rfl⟩; refine ⟨_, rfl, ?_⟩)
      | fail)
    go_ret2
    exact ⟨rfl, (Below.refl _ _)⟩
theorem nob_append (s : ByteArray) (A : Option Addr) (n c : Nat) (v : Value) (W : World) (h : Nob v W) : Calls Try.prog 62 #[v, .string s, .slice A n c] W fun e W' => e = .returned (.int .i64 1) ∧ Below W.heap.size W W' := by
  rcases h with rfl | ⟨g, rfl, hg⟩
  · go_enter Try.func62, Try.ntmps62
    go_wp2_with (first
      | ((with_reducible refine gate_callee (f := 116) rfl ?_); refine goesL_ (some 9) rfl rfl Try.func116 (by kernel_rfl) rfl #[.pointer none] rfl (by (try simp only [List.map_toArray, List.map_cons, List.map_nil]); first | done | rfl) ?_; refine (goes_none _).mono ?_; rintro e _ ⟨rfl, rfl⟩; refine ⟨_, rfl, ?_⟩)
      | fail)
    go_ret
    exact ⟨rfl, (below_alloc (below_alloc (below_alloc (Below.refl _ _) _) _) _)⟩
  · have c0 : W.cell? ⟨g, 0, none⟩ = some (.map none) := by rw [blk_cell hg]; rfl
    have c1 : W.cell? ⟨g, 1, none⟩ = some (.bool false) := by rw [blk_cell hg]; rfl
    have hcb : ∀ {W' : World}, Below W.heap.size W W' → W'.cell? ⟨g, 0, none⟩ = some (.map none) := fun hb => pw_cell_below hb c0
    have Hcb := Aside0.mk @hcb
    clear hcb hg
    go_enter Try.func62, Try.ntmps62
    go_wp2_with (first
      | ((with_reducible refine gate_callee (f := 116) rfl ?_); refine goesL_ (some 9) rfl rfl Try.func116 (by kernel_rfl) rfl #[.pointer (some ⟨g, 0, none⟩)] rfl (by (try simp only [List.map_toArray, List.map_cons, List.map_nil]); first | done | rfl) ?_; refine (goes_zero g _ (Hcb.out (below_alloc (below_alloc (below_alloc (Below.refl _ _) _) _) _))).mono ?_; rintro e _ ⟨rfl, rfl⟩; refine ⟨_, rfl, ?_⟩)
      | fail)
    go_ret
    exact ⟨rfl, (below_alloc (below_alloc (below_alloc (Below.refl _ _) _) _) _)⟩
theorem nob_sync (s : ByteArray) (v : Value) (W : World) (h : Nob v W) : Calls Try.prog 63 #[v, .string s] W fun e W' => e = .returned (.int .i64 1) ∧ Below W.heap.size W W' := by
  rcases h with rfl | ⟨g, rfl, hg⟩
  · go_enter Try.func63, Try.ntmps63
    go_wp2_with (first
      | ((with_reducible refine gate_callee (f := 120) rfl ?_); refine goesL_ (some 8) rfl rfl Try.func120 (by kernel_rfl) rfl #[.pointer none, .string s] rfl (by (try simp only [List.map_toArray, List.map_cons, List.map_nil]); first | done | rfl) ?_; refine (there_none _ _).mono ?_; rintro e _ ⟨rfl, rfl⟩; refine ⟨_, rfl, ?_⟩)
      | fail)
    go_ret
    exact ⟨rfl, (below_alloc (below_alloc (Below.refl _ _) _) _)⟩
  · have c0 : W.cell? ⟨g, 0, none⟩ = some (.map none) := by rw [blk_cell hg]; rfl
    have c1 : W.cell? ⟨g, 1, none⟩ = some (.bool false) := by rw [blk_cell hg]; rfl
    have hcb : ∀ {W' : World}, Below W.heap.size W W' → W'.cell? ⟨g, 0, none⟩ = some (.map none) := fun hb => pw_cell_below hb c0
    have Hcb := Aside0.mk @hcb
    clear hcb hg
    go_enter Try.func63, Try.ntmps63
    go_wp2_with (first
      | ((with_reducible refine gate_callee (f := 120) rfl ?_); refine goesL_ (some 8) rfl rfl Try.func120 (by kernel_rfl) rfl #[.pointer (some ⟨g, 0, none⟩), .string s] rfl (by (try simp only [List.map_toArray, List.map_cons, List.map_nil]); first | done | rfl) ?_; refine (there_zero g _ _ (Hcb.out (below_alloc (below_alloc (Below.refl _ _) _) _))).mono ?_; rintro e _ ⟨rfl, rfl⟩; refine ⟨_, rfl, ?_⟩)
      | fail)
    go_ret
    exact ⟨rfl, (below_alloc (below_alloc (Below.refl _ _) _) _)⟩
theorem nob_rename (s t : ByteArray) (v : Value) (W : World) (h : Nob v W) : Calls Try.prog 77 #[v, .string s, .string t] W fun e W' => e = .returned (.int .i64 1) ∧ Below W.heap.size W W' := by
  rcases h with rfl | ⟨g, rfl, hg⟩
  · go_enter Try.func77, Try.ntmps77
    go_wp2_with (first
      | ((with_reducible refine gate_callee (f := 120) rfl ?_); refine goesL_ (some 10) rfl rfl Try.func120 (by kernel_rfl) rfl #[.pointer none, .string s] rfl (by (try simp only [List.map_toArray, List.map_cons, List.map_nil]); first | done | rfl) ?_; refine (there_none _ _).mono ?_; rintro e _ ⟨rfl, rfl⟩; refine ⟨_, rfl, ?_⟩)
      | fail)
    go_ret
    exact ⟨rfl, (below_alloc (below_alloc (below_alloc (Below.refl _ _) _) _) _)⟩
  · have c0 : W.cell? ⟨g, 0, none⟩ = some (.map none) := by rw [blk_cell hg]; rfl
    have c1 : W.cell? ⟨g, 1, none⟩ = some (.bool false) := by rw [blk_cell hg]; rfl
    have hcb : ∀ {W' : World}, Below W.heap.size W W' → W'.cell? ⟨g, 0, none⟩ = some (.map none) := fun hb => pw_cell_below hb c0
    have Hcb := Aside0.mk @hcb
    clear hcb hg
    go_enter Try.func77, Try.ntmps77
    go_wp2_with (first
      | ((with_reducible refine gate_callee (f := 120) rfl ?_); refine goesL_ (some 10) rfl rfl Try.func120 (by kernel_rfl) rfl #[.pointer (some ⟨g, 0, none⟩), .string s] rfl (by (try simp only [List.map_toArray, List.map_cons, List.map_nil]); first | done | rfl) ?_; refine (there_zero g _ _ (Hcb.out (below_alloc (below_alloc (below_alloc (Below.refl _ _) _) _) _))).mono ?_; rintro e _ ⟨rfl, rfl⟩; refine ⟨_, rfl, ?_⟩)
      | fail)
    go_ret
    exact ⟨rfl, (below_alloc (below_alloc (below_alloc (Below.refl _ _) _) _) _)⟩
theorem nob_remove (s : ByteArray) (v : Value) (W : World) (h : Nob v W) : Calls Try.prog 74 #[v, .string s] W fun e W' => e = .returned (.int .i64 1) ∧ Below W.heap.size W W' := by
  rcases h with rfl | ⟨g, rfl, hg⟩
  · go_enter Try.func74, Try.ntmps74
    go_wp2_with (first
      | ((with_reducible refine gate_callee (f := 120) rfl ?_); refine goesL_ (some 8) rfl rfl Try.func120 (by kernel_rfl) rfl #[.pointer none, .string s] rfl (by (try simp only [List.map_toArray, List.map_cons, List.map_nil]); first | done | rfl) ?_; refine (there_none _ _).mono ?_; rintro e _ ⟨rfl, rfl⟩; refine ⟨_, rfl, ?_⟩)
      | fail)
    go_ret
    exact ⟨rfl, (below_alloc (below_alloc (Below.refl _ _) _) _)⟩
  · have c0 : W.cell? ⟨g, 0, none⟩ = some (.map none) := by rw [blk_cell hg]; rfl
    have c1 : W.cell? ⟨g, 1, none⟩ = some (.bool false) := by rw [blk_cell hg]; rfl
    have hcb : ∀ {W' : World}, Below W.heap.size W W' → W'.cell? ⟨g, 0, none⟩ = some (.map none) := fun hb => pw_cell_below hb c0
    have Hcb := Aside0.mk @hcb
    clear hcb hg
    go_enter Try.func74, Try.ntmps74
    go_wp2_with (first
      | ((with_reducible refine gate_callee (f := 120) rfl ?_); refine goesL_ (some 8) rfl rfl Try.func120 (by kernel_rfl) rfl #[.pointer (some ⟨g, 0, none⟩), .string s] rfl (by (try simp only [List.map_toArray, List.map_cons, List.map_nil]); first | done | rfl) ?_; refine (there_zero g _ _ (Hcb.out (below_alloc (below_alloc (Below.refl _ _) _) _))).mono ?_; rintro e _ ⟨rfl, rfl⟩; refine ⟨_, rfl, ?_⟩)
      | fail)
    go_ret
    exact ⟨rfl, (below_alloc (below_alloc (Below.refl _ _) _) _)⟩
theorem nob_fuse (n : Int) (v : Value) (W : World) (h : Nob v W) : Calls Try.prog 68 #[v, .int .i64 n] W fun e W' => e = .returned (.int .i64 1) ∧ Below W.heap.size W W' := by
  rcases h with rfl | ⟨g, rfl, hg⟩
  · go_enter Try.func68, Try.ntmps68
    go_wp2_with (first
      | ((with_reducible refine gate_callee (f := 116) rfl ?_); refine goesL_ (some 7) rfl rfl Try.func116 (by kernel_rfl) rfl #[.pointer none] rfl (by (try simp only [List.map_toArray, List.map_cons, List.map_nil]); first | done | rfl) ?_; refine (goes_none _).mono ?_; rintro e _ ⟨rfl, rfl⟩; refine ⟨_, rfl, ?_⟩)
      | fail)
    go_ret
    exact ⟨rfl, (Below.refl _ _)⟩
  · have c0 : W.cell? ⟨g, 0, none⟩ = some (.map none) := by rw [blk_cell hg]; rfl
    have c1 : W.cell? ⟨g, 1, none⟩ = some (.bool false) := by rw [blk_cell hg]; rfl
    have hcb : ∀ {W' : World}, Below W.heap.size W W' → W'.cell? ⟨g, 0, none⟩ = some (.map none) := fun hb => pw_cell_below hb c0
    have Hcb := Aside0.mk @hcb
    clear hcb hg
    go_enter Try.func68, Try.ntmps68
    go_wp2_with (first
      | ((with_reducible refine gate_callee (f := 116) rfl ?_); refine goesL_ (some 7) rfl rfl Try.func116 (by kernel_rfl) rfl #[.pointer (some ⟨g, 0, none⟩)] rfl (by (try simp only [List.map_toArray, List.map_cons, List.map_nil]); first | done | rfl) ?_; refine (goes_zero g _ (Hcb.out (Below.refl _ _))).mono ?_; rintro e _ ⟨rfl, rfl⟩; refine ⟨_, rfl, ?_⟩)
      | fail)
    go_ret
    exact ⟨rfl, (Below.refl _ _)⟩
theorem nob_crash (A : Option Addr) (n c : Nat) (v : Value) (W : World) (h : Nob v W) : Calls Try.prog 64 #[v, .slice A n c] W fun e W' => e = .returned (.int .i64 1) ∧ Below W.heap.size W W' := by
  rcases h with rfl | ⟨g, rfl, hg⟩
  · go_enter Try.func64, Try.ntmps64
    go_wp2_with (first
      | ((with_reducible refine gate_callee (f := 122) rfl ?_); refine goesL_ (some 11) rfl rfl Try.func122 (by kernel_rfl) rfl #[.pointer none] rfl (by (try simp only [List.map_toArray, List.map_cons, List.map_nil]); first | done | rfl) ?_; refine (made_none _).mono ?_; rintro e _ ⟨rfl, rfl⟩; refine ⟨_, rfl, ?_⟩)
      | fail)
    go_ret
    exact ⟨rfl, (Below.refl _ _)⟩
  · have c0 : W.cell? ⟨g, 0, none⟩ = some (.map none) := by rw [blk_cell hg]; rfl
    have c1 : W.cell? ⟨g, 1, none⟩ = some (.bool false) := by rw [blk_cell hg]; rfl
    have hcb : ∀ {W' : World}, Below W.heap.size W W' → W'.cell? ⟨g, 0, none⟩ = some (.map none) := fun hb => pw_cell_below hb c0
    have Hcb := Aside0.mk @hcb
    clear hcb hg
    go_enter Try.func64, Try.ntmps64
    go_wp2_with (first
      | ((with_reducible refine gate_callee (f := 122) rfl ?_); refine goesL_ (some 11) rfl rfl Try.func122 (by kernel_rfl) rfl #[.pointer (some ⟨g, 0, none⟩)] rfl (by (try simp only [List.map_toArray, List.map_cons, List.map_nil]); first | done | rfl) ?_; refine (made_zero g _ (Hcb.out (Below.refl _ _))).mono ?_; rintro e _ ⟨rfl, rfl⟩; refine ⟨_, rfl, ?_⟩)
      | fail)
    go_ret
    exact ⟨rfl, (Below.refl _ _)⟩
theorem nob_waits (s : Value) (v : Value) (W : World) (h : Nob v W) : Calls Try.prog 67 #[v, s] W fun e W' => e = .returned (.int .i64 0) ∧ Below W.heap.size W W' := by
  rcases h with rfl | ⟨g, rfl, hg⟩
  · go_enter Try.func67, Try.ntmps67
    go_wp2_with (first
      | ((with_reducible refine gate_callee (f := 122) rfl ?_); refine goesL_ (some 7) rfl rfl Try.func122 (by kernel_rfl) rfl #[.pointer none] rfl (by (try simp only [List.map_toArray, List.map_cons, List.map_nil]); first | done | rfl) ?_; refine (made_none _).mono ?_; rintro e _ ⟨rfl, rfl⟩; refine ⟨_, rfl, ?_⟩)
      | fail)
    go_ret
    exact ⟨rfl, (Below.refl _ _)⟩
  · have c0 : W.cell? ⟨g, 0, none⟩ = some (.map none) := by rw [blk_cell hg]; rfl
    have c1 : W.cell? ⟨g, 1, none⟩ = some (.bool false) := by rw [blk_cell hg]; rfl
    have hcb : ∀ {W' : World}, Below W.heap.size W W' → W'.cell? ⟨g, 0, none⟩ = some (.map none) := fun hb => pw_cell_below hb c0
    have Hcb := Aside0.mk @hcb
    clear hcb hg
    go_enter Try.func67, Try.ntmps67
    go_wp2_with (first
      | ((with_reducible refine gate_callee (f := 122) rfl ?_); refine goesL_ (some 7) rfl rfl Try.func122 (by kernel_rfl) rfl #[.pointer (some ⟨g, 0, none⟩)] rfl (by (try simp only [List.map_toArray, List.map_cons, List.map_nil]); first | done | rfl) ?_; refine (made_zero g _ (Hcb.out (Below.refl _ _))).mono ?_; rintro e _ ⟨rfl, rfl⟩; refine ⟨_, rfl, ?_⟩)
      | fail)
    go_ret
    exact ⟨rfl, (Below.refl _ _)⟩
theorem nob_off  (v : Value) (W : World) (h : Nob v W) : Calls Try.prog 70 #[v] W fun e W' => e = .returned (.bool false) ∧ Below W.heap.size W W' := by
  rcases h with rfl | ⟨g, rfl, hg⟩
  · go_enter Try.func70, Try.ntmps70
    go_wp2_with (first
      | fail
      | fail)
    go_ret
    exact ⟨rfl, (Below.refl _ _)⟩
  · have c0 : W.cell? ⟨g, 0, none⟩ = some (.map none) := by rw [blk_cell hg]; rfl
    have c1 : W.cell? ⟨g, 1, none⟩ = some (.bool false) := by rw [blk_cell hg]; rfl
    have hcb : ∀ {W' : World}, Below W.heap.size W W' → W'.cell? ⟨g, 0, none⟩ = some (.map none) := fun hb => pw_cell_below hb c0
    have Hcb := Aside0.mk @hcb
    clear hcb hg
    go_enter Try.func70, Try.ntmps70
    go_wp2_with (first
      | fail
      | fail)
    go_ret
    exact ⟨rfl, (Below.refl _ _)⟩
theorem nob_twin  (v : Value) (W : World) (h : Nob v W) : Calls Try.prog 73 #[v] W fun e W' => e = .returned (.pointer none) ∧ Below W.heap.size W W' := by
  rcases h with rfl | ⟨g, rfl, hg⟩
  · go_enter Try.func73, Try.ntmps73
    go_wp2_with (first
      | ((with_reducible refine gate_callee (f := 122) rfl ?_); refine goesL_ (some 7) rfl rfl Try.func122 (by kernel_rfl) rfl #[.pointer none] rfl (by (try simp only [List.map_toArray, List.map_cons, List.map_nil]); first | done | rfl) ?_; refine (made_none _).mono ?_; rintro e _ ⟨rfl, rfl⟩; refine ⟨_, rfl, ?_⟩)
      | fail)
    go_ret
    exact ⟨rfl, (Below.refl _ _)⟩
  · have c0 : W.cell? ⟨g, 0, none⟩ = some (.map none) := by rw [blk_cell hg]; rfl
    have c1 : W.cell? ⟨g, 1, none⟩ = some (.bool false) := by rw [blk_cell hg]; rfl
    have hcb : ∀ {W' : World}, Below W.heap.size W W' → W'.cell? ⟨g, 0, none⟩ = some (.map none) := fun hb => pw_cell_below hb c0
    have Hcb := Aside0.mk @hcb
    clear hcb hg
    go_enter Try.func73, Try.ntmps73
    go_wp2_with (first
      | ((with_reducible refine gate_callee (f := 122) rfl ?_); refine goesL_ (some 7) rfl rfl Try.func122 (by kernel_rfl) rfl #[.pointer (some ⟨g, 0, none⟩)] rfl (by (try simp only [List.map_toArray, List.map_cons, List.map_nil]); first | done | rfl) ?_; refine (made_zero g _ (Hcb.out (Below.refl _ _))).mono ?_; rintro e _ ⟨rfl, rfl⟩; refine ⟨_, rfl, ?_⟩)
      | fail)
    go_ret
    exact ⟨rfl, (Below.refl _ _)⟩
theorem str12 : strOfNums [1, 2] = { data := #[1, 2] } := by decide +kernel
theorem awake25 (W : World) : Calls Try.prog 59 #[] W fun e W' => e = .returned (.bool true) ∧ Below W.heap.size W W' := by
  go_enter Try.func59, Try.ntmps59
  go_wp2_with (first
    | ((with_reducible refine gate_callee (f := 61) rfl ?_); refine goesL_ (some 8) rfl rfl Try.func61 (by kernel_rfl) rfl #[] rfl (by (try simp only [List.map_toArray, List.map_cons, List.map_nil]); first | done | rfl) ?_; refine (new_dsk _).mono ?_; rintro e w1 ⟨rfl, hw1⟩; refine ⟨_, rfl, ?_⟩; have HD1 := Aside0.mk (show Dsk w1 (W.heap.size + 1) W.heap.size 0 false (-1) [] (fun k => W.heap.size + 2 ≤ k) by rw [hw1]; exact dsk_new W _ (fun k hk => by omega)); have HB1 := Aside0.mk (show Below W.heap.size W w1 by rw [hw1]; exact below_alloc (below_alloc (Below.refl _ _) _) _); clear hw1)
    | ((with_reducible refine gate_dst (N := 10) rfl ?_); refine Kd.R_lit (Kd.int .u8) _ 5 ?hg (N := 10) ?hd (xs := ([1, 2] : List Int)) (inner := [.int .u8 1, .int .u8 2]) (ok := fun _ => True) (okp := fun _ => True) ?hr ?hp (fun _ hk => hk) trivial (Below.refl _ _) (Nat.le_refl _) (by simp) ?_; (case hd => rfl); (case hg => rfl); (case hr => first | (go_simp; done) | (go_simp; rfl)); (case hp => exact (Reps.one (show Kd.M (Kd.int .u8) _ _ _ 1 [.int .u8 1] from rfl) (Reps.one (show Kd.M (Kd.int .u8) _ _ _ 2 [.int .u8 2] from rfl) (Reps.none _ _)))); intro v2 w2 ho hb hg_ hnew_; obtain ⟨A2, c2, e2⟩ := Kd.R_slice ho; subst e2; have HR2 := Aside0.mk ho; have HD2 := Aside0.mk (HD1.out.below hb); have HB2 := Aside0.mk (below_step HB1.out hb); clear ho hb hg_ hnew_)
    | ((with_reducible refine gate_callee (f := 62) rfl ?_); refine goesL_ (some 11) rfl rfl Try.func62 (by kernel_rfl) rfl #[.pointer (some ⟨W.heap.size + 1, 0, none⟩), .string { data := #[97] }, .slice A2 ([1, 2] : List Int).length c2] rfl (by (try simp only [List.map_toArray, List.map_cons, List.map_nil]); first | done | rfl) ?_; refine (append_dsk _ _ _ _ _ _ _ { data := #[97] } A2 c2 [1, 2] _ HD2.out (by decide) (Kd.R_reads' HR2.out).2.2 (by decide) (fun k hk => by have := HD2.out.glt; omega) (by decide) (by decide)).mono ?_; rintro e w3 ⟨he, hD, hK⟩; have he : e = .returned (.int .i64 0) := he; subst he; refine ⟨_, rfl, ?_⟩; have HD3 := Aside0.mk (show Dsk w3 (W.heap.size + 1) W.heap.size 1 false (-1) [([97], ([1, 2], 0))] (fun k => W.heap.size + 2 ≤ k) from hD); have HB3 := Aside0.mk (HB2.out.trans (hK.to_below HB2.out.size (fun k e => by omega))); clear hD hK)
    | ((with_reducible refine gate_callee (f := 63) rfl ?_); refine goesL_ (some 13) rfl rfl Try.func63 (by kernel_rfl) rfl #[.pointer (some ⟨W.heap.size + 1, 0, none⟩), .string { data := #[97] }] rfl (by (try simp only [List.map_toArray, List.map_cons, List.map_nil]); first | done | rfl) ?_; refine (sync_dsk _ _ _ _ _ _ _ { data := #[97] } _ HD3.out (by decide) (by decide) (by decide)).mono ?_; rintro e w4 ⟨he, hD, hK⟩; have he : e = .returned (.int .i64 0) := he; subst he; refine ⟨_, rfl, ?_⟩; have HD4 := Aside0.mk (show Dsk w4 (W.heap.size + 1) W.heap.size 2 false (-1) [([97], ([1, 2], 2))] (fun k => W.heap.size + 2 ≤ k) from hD); have HB4 := Aside0.mk (HB3.out.trans (hK.to_below HB3.out.size (fun k e => by omega))); clear hD hK)
    | ((with_reducible refine gate_dst (N := 15) rfl ?_); refine Kd.R_lit (Kd.int .u8) _ 5 ?hg (N := 15) ?hd (xs := ([3] : List Int)) (inner := [.int .u8 3]) (ok := fun _ => True) (okp := fun _ => True) ?hr ?hp (fun _ hk => hk) trivial (Below.refl _ _) (Nat.le_refl _) (by simp) ?_; (case hd => rfl); (case hg => rfl); (case hr => first | (go_simp; done) | (go_simp; rfl)); (case hp => exact (Reps.one (show Kd.M (Kd.int .u8) _ _ _ 3 [.int .u8 3] from rfl) (Reps.none _ _))); intro v5 w5 ho hb hg_ hnew_; obtain ⟨A5, c5, e5⟩ := Kd.R_slice ho; subst e5; have HR5 := Aside0.mk ho; have HD5 := Aside0.mk (HD4.out.below hb); have HB5 := Aside0.mk (below_step HB4.out hb); clear ho hb hg_ hnew_)
    | ((with_reducible refine gate_callee (f := 62) rfl ?_); refine goesL_ (some 16) rfl rfl Try.func62 (by kernel_rfl) rfl #[.pointer (some ⟨W.heap.size + 1, 0, none⟩), .string { data := #[97] }, .slice A5 ([3] : List Int).length c5] rfl (by (try simp only [List.map_toArray, List.map_cons, List.map_nil]); first | done | rfl) ?_; refine (append_dsk _ _ _ _ _ _ _ { data := #[97] } A5 c5 [3] _ HD5.out (by decide) (Kd.R_reads' HR5.out).2.2 (by decide) (fun k hk => by have := HD5.out.glt; omega) (by decide) (by decide)).mono ?_; rintro e w6 ⟨he, hD, hK⟩; have he : e = .returned (.int .i64 0) := he; subst he; refine ⟨_, rfl, ?_⟩; have HD6 := Aside0.mk (show Dsk w6 (W.heap.size + 1) W.heap.size 3 false (-1) [([97], ([1, 2, 3], 2))] (fun k => W.heap.size + 2 ≤ k) from hD); have HB6 := Aside0.mk (HB5.out.trans (hK.to_below HB5.out.size (fun k e => by omega))); clear hD hK)
    | ((with_reducible refine gate_callee (f := 64) rfl ?_); refine goesL_ (some 18) rfl rfl Try.func64 (by kernel_rfl) rfl #[.pointer (some ⟨W.heap.size + 1, 0, none⟩), .slice none ([] : List Int).length 0] rfl (by (try simp only [List.map_toArray, List.map_cons, List.map_nil]); first | done | rfl) ?_; refine (crash_dsk _ _ _ _ _ _ _ none 0 [] _ HD6.out (by simp [Ris]) (by decide) (by decide) (fun k hk => by have := HD6.out.glt; omega) (Kd.F_nil _ _ _)).mono ?_; rintro e w7 ⟨he, hD, hK⟩; have he : e = .returned (.int .i64 0) := he; subst he; refine ⟨_, rfl, ?_⟩; have HD7 := Aside0.mk (show Dsk w7 (W.heap.size + 1) W.heap.size 1 false (-1) [([97], ([1, 2], 2))] (fun k => W.heap.size + 2 ≤ k) from hD); have HB7 := Aside0.mk (HB6.out.trans (hK.to_below HB6.out.size (fun k e => by omega))); clear hD hK)
    | ((with_reducible refine gate_callee (f := 65) rfl ?_); refine goesL_ (some 21) rfl rfl Try.func65 (by kernel_rfl) rfl #[.pointer (some ⟨W.heap.size + 1, 0, none⟩), .string { data := #[97] }] rfl (by (try simp only [List.map_toArray, List.map_cons, List.map_nil]); first | done | rfl) ?_; refine (read_dsk _ _ _ _ _ _ _ { data := #[97] } (by decide) _ HD7.out (by decide)).mono ?_; rintro e w8 ⟨v8, he, hR, hb⟩; have he : e = .returned (.tuple #[v8, .int .i64 0]) := he; subst he; refine ⟨_, rfl, ?_⟩; have hR : Kd.R (Kd.int .u8) 5 w8 w7.heap.size (fun _ => True) v8 [1, 2] := hR; obtain ⟨A8, c8, e8⟩ := Kd.R_slice hR; subst e8; have hcv : (convert 22 9 (.slice A8 2 c8)).run Try.prog w8 = .ok (.string { data := #[1, 2] }) w8 := (by rw [← str12]; exact Kd.C_string (P := Try.prog) Try.underlying22 Try.underlying5 Try.underlying9 (c := c8) (Kd.R_reads' hR).2.2); have HB8 := Aside0.mk (below_step HB7.out hb); clear hR hb))
  go_ret
  exact ⟨rfl, HB8.out⟩
theorem nobody (s t : ByteArray) (n : Int) (W : World) : Calls Try.prog 19 #[.string s, .string t, .int .i64 n] W fun e W' => e = .returned (.bool true) ∧ Below W.heap.size W W' := by
  go_enter Try.func19, Try.ntmps19
  go_wp2
  obtain ⟨w0, hw0⟩ : ∃ w0, w0 = (W.alloc (.cells #[.map none, .bool false, .int .i64 0] 110)).alloc (.cells #[.pointer none, .pointer (some ⟨W.heap.size, 0, none⟩)] 111) := ⟨_, rfl⟩
  rw [← hw0]
  have HB0 : Aside0 (Below W.heap.size W w0) := ⟨by rw [hw0]; exact below_alloc (below_alloc (Below.refl _ _) _) _⟩
  have HZ : Aside0 (w0.heap[W.heap.size]? = some (.cells #[.map none, .bool false, .int .i64 0] 110 (0, 0))) := ⟨by rw [hw0]; exact blk_below (blk_new W _) (below_alloc (Below.refl _ _) _)⟩
  have HA : Aside0 (w0.heap[W.heap.size + 1]? = some (.cells #[.pointer none, .pointer (some ⟨W.heap.size, 0, none⟩)] 111 (0, 0))) := ⟨by
    rw [hw0]
    have := blk_new (W.alloc (.cells #[.map none, .bool false, .int .i64 0] 110)) (.cells #[.pointer none, .pointer (some ⟨W.heap.size, 0, none⟩)] 111)
    simpa only [World.size_alloc] using this⟩
  clear hw0
  go_loopg [10] 2 (fun kk v10 wr => ∃ i : Nat, v10 = .int .i64 i ∧ Aside0 (i ≤ 2 ∧ kk = 2 - i) ∧ Aside0 (Below w0.heap.size w0 wr))
  case atStart => exact ⟨0, rfl, ⟨by decide, rfl⟩, ⟨Below.refl _ _⟩⟩
  case round =>
    obtain ⟨i, rfl, hi, HB⟩ := hrel
    by_cases hlt : i < 2
    · have hltb : decide ((i : Int) < 2) = true := decide_eq_true (by omega)
      have hlt1 : (i : Int) < 2 := by omega
      obtain ⟨v, hcell, hN⟩ : ∃ v, wr.cell? ⟨W.heap.size + 1, i, none⟩ = some v ∧ Nob v wr := by
        have hA := blk_below HA.out HB.out
        have hZ := blk_below HZ.out HB.out
        rcases (by omega : i = 0 ∨ i = 1) with rfl | rfl
        · exact ⟨_, by rw [blk_cell hA]; rfl, .inl rfl⟩
        · exact ⟨_, by rw [blk_cell hA]; rfl, .inr ⟨_, rfl, hZ⟩⟩
      have HN := Aside0.mk hN
      clear hN
      go_wp2_with (first
        | ((with_reducible refine gate_callee (f := 65) rfl ?_); refine goesL_ (some 31) rfl rfl Try.func65 (by kernel_rfl) rfl #[v, .string s] rfl (by (try simp only [List.map_toArray, List.map_cons, List.map_nil]); first | done | rfl) ?_; refine (nob_read _ v _ HN.out).mono ?_; rintro e wn_ ⟨rfl, hb⟩; refine ⟨_, rfl, ?_⟩; have n0_ := Aside0.mk (HN.out.below hb); have n1_ := Aside0.mk (below_step HB.out hb); clear HN HB; have HN := n0_; have HB := n1_; clear n0_ n1_ hb)
        | ((with_reducible refine gate_callee (f := 71) rfl ?_); refine goesL_ (some 36) rfl rfl Try.func71 (by kernel_rfl) rfl #[v] rfl (by (try simp only [List.map_toArray, List.map_cons, List.map_nil]); first | done | rfl) ?_; refine (nob_names v _ HN.out).mono ?_; rintro e wn_ ⟨rfl, hb⟩; refine ⟨_, rfl, ?_⟩; have n0_ := Aside0.mk (HN.out.below hb); have n1_ := Aside0.mk (below_step HB.out hb); clear HN HB; have HN := n0_; have HB := n1_; clear n0_ n1_ hb)
        | ((with_reducible refine gate_callee (f := 62) rfl ?_); (try (refine gate_guard (by rfl) ?_; dsimp only)); refine goesL_ (some 48) rfl rfl Try.func62 (by kernel_rfl) rfl #[v, .string s, .slice none 0 0] rfl (by (try simp only [List.map_toArray, List.map_cons, List.map_nil]); first | done | rfl) ?_; refine (nob_append s none 0 0 v _ HN.out).mono ?_; rintro e wn_ ⟨rfl, hb⟩; refine ⟨_, rfl, ?_⟩; have n0_ := Aside0.mk (HN.out.below hb); have n1_ := Aside0.mk (below_step HB.out hb); clear HN HB; have HN := n0_; have HB := n1_; clear n0_ n1_ hb)
        | ((with_reducible refine gate_callee (f := 63) rfl ?_); (try (refine gate_guard (by rfl) ?_; dsimp only)); refine goesL_ (some 54) rfl rfl Try.func63 (by kernel_rfl) rfl #[v, .string s] rfl (by (try simp only [List.map_toArray, List.map_cons, List.map_nil]); first | done | rfl) ?_; refine (nob_sync s v _ HN.out).mono ?_; rintro e wn_ ⟨rfl, hb⟩; refine ⟨_, rfl, ?_⟩; have n0_ := Aside0.mk (HN.out.below hb); have n1_ := Aside0.mk (below_step HB.out hb); clear HN HB; have HN := n0_; have HB := n1_; clear n0_ n1_ hb)
        | ((with_reducible refine gate_callee (f := 77) rfl ?_); (try (refine gate_guard (by rfl) ?_; dsimp only)); refine goesL_ (some 61) rfl rfl Try.func77 (by kernel_rfl) rfl #[v, .string s, .string t] rfl (by (try simp only [List.map_toArray, List.map_cons, List.map_nil]); first | done | rfl) ?_; refine (nob_rename s t v _ HN.out).mono ?_; rintro e wn_ ⟨rfl, hb⟩; refine ⟨_, rfl, ?_⟩; have n0_ := Aside0.mk (HN.out.below hb); have n1_ := Aside0.mk (below_step HB.out hb); clear HN HB; have HN := n0_; have HB := n1_; clear n0_ n1_ hb)
        | ((with_reducible refine gate_callee (f := 74) rfl ?_); (try (refine gate_guard (by rfl) ?_; dsimp only)); refine goesL_ (some 67) rfl rfl Try.func74 (by kernel_rfl) rfl #[v, .string s] rfl (by (try simp only [List.map_toArray, List.map_cons, List.map_nil]); first | done | rfl) ?_; refine (nob_remove s v _ HN.out).mono ?_; rintro e wn_ ⟨rfl, hb⟩; refine ⟨_, rfl, ?_⟩; have n0_ := Aside0.mk (HN.out.below hb); have n1_ := Aside0.mk (below_step HB.out hb); clear HN HB; have HN := n0_; have HB := n1_; clear n0_ n1_ hb)
        | ((with_reducible refine gate_callee (f := 68) rfl ?_); refine goesL_ (some 72) rfl rfl Try.func68 (by kernel_rfl) rfl #[v, .int .i64 n] rfl (by (try simp only [List.map_toArray, List.map_cons, List.map_nil]); first | done | rfl) ?_; refine (nob_fuse n v _ HN.out).mono ?_; rintro e wn_ ⟨rfl, hb⟩; refine ⟨_, rfl, ?_⟩; have n0_ := Aside0.mk (HN.out.below hb); have n1_ := Aside0.mk (below_step HB.out hb); clear HN HB; have HN := n0_; have HB := n1_; clear n0_ n1_ hb)
        | ((with_reducible refine gate_callee (f := 64) rfl ?_); (try (refine gate_guard (by rfl) ?_; dsimp only)); refine goesL_ (some 76) rfl rfl Try.func64 (by kernel_rfl) rfl #[v, .slice none 0 0] rfl (by (try simp only [List.map_toArray, List.map_cons, List.map_nil]); first | done | rfl) ?_; refine (nob_crash none 0 0 v _ HN.out).mono ?_; rintro e wn_ ⟨rfl, hb⟩; refine ⟨_, rfl, ?_⟩; have n0_ := Aside0.mk (HN.out.below hb); have n1_ := Aside0.mk (below_step HB.out hb); clear HN HB; have HN := n0_; have HB := n1_; clear n0_ n1_ hb)
        | ((with_reducible refine gate_callee (f := 67) rfl ?_); (try (refine gate_guard (by rfl) ?_; dsimp only)); refine goesL_ (some 82) rfl rfl Try.func67 (by kernel_rfl) rfl #[v, .string s] rfl (by (try simp only [List.map_toArray, List.map_cons, List.map_nil]); first | done | rfl) ?_; refine (nob_waits _ v _ HN.out).mono ?_; rintro e wn_ ⟨rfl, hb⟩; refine ⟨_, rfl, ?_⟩; have n0_ := Aside0.mk (HN.out.below hb); have n1_ := Aside0.mk (below_step HB.out hb); clear HN HB; have HN := n0_; have HB := n1_; clear n0_ n1_ hb)
        | ((with_reducible refine gate_callee (f := 70) rfl ?_); (try (refine gate_guard (by rfl) ?_; dsimp only)); refine goesL_ (some 87) rfl rfl Try.func70 (by kernel_rfl) rfl #[v] rfl (by (try simp only [List.map_toArray, List.map_cons, List.map_nil]); first | done | rfl) ?_; refine (nob_off v _ HN.out).mono ?_; rintro e wn_ ⟨rfl, hb⟩; refine ⟨_, rfl, ?_⟩; have n0_ := Aside0.mk (HN.out.below hb); have n1_ := Aside0.mk (below_step HB.out hb); clear HN HB; have HN := n0_; have HB := n1_; clear n0_ n1_ hb)
        | ((with_reducible refine gate_callee (f := 73) rfl ?_); (try (refine gate_guard (by rfl) ?_; dsimp only)); refine goesL_ (some 91) rfl rfl Try.func73 (by kernel_rfl) rfl #[v] rfl (by (try simp only [List.map_toArray, List.map_cons, List.map_nil]); first | done | rfl) ?_; refine (nob_twin v _ HN.out).mono ?_; rintro e wn_ ⟨rfl, hb⟩; refine ⟨_, rfl, ?_⟩; have n0_ := Aside0.mk (HN.out.below hb); have n1_ := Aside0.mk (below_step HB.out hb); clear HN HB; have HN := n0_; have HB := n1_; clear n0_ n1_ hb))
      go_roundg (2 - (i + 1))
      case measure => have := hi.out; omega
      case rel => exact ⟨i + 1, by simp, ⟨by omega, rfl⟩, HB⟩
    · obtain rfl : i = 2 := by have := hi.out; omega
      go_wp2_with (first
        | ((with_reducible refine gate_callee (f := 59) rfl ?_); refine goesL_ (some 94) rfl rfl Try.func59 (by kernel_rfl) rfl #[] rfl (by (try simp only [List.map_toArray, List.map_cons, List.map_nil]); first | done | rfl) ?_; refine (awake25 _).mono ?_; rintro e w9 ⟨rfl, hb⟩; refine ⟨_, rfl, ?_⟩; have HBw := Aside0.mk (below_step HB.out hb); clear hb)
        | fail)
      go_ret
      exact ⟨rfl, below_step HB0.out HBw.out⟩
end Go.Proofs.Ytobgijpbfmpdaaa.Dk
