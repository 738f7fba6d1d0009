/- tree.Check: what a form's functions answer. -/
import Derived.Test.YtobgijpbfmpdaaaWk
set_option linter.unusedVariables false
set_option linter.unusedSimpArgs false
set_option maxRecDepth 100000
namespace Go.Proofs.Ytobgijpbfmpdaaa.Tb
open Go.RowKit Go.Proofs.YtobgijpbfmpdaaaW.PrintWords Go.Proofs.YtobgijpbfmpdaaaW.PrintLast Go.Proofs.YtobgijpbfmpdaaaW.PrintMore
open Go.Proofs.Ytobgijpbfmpdaaa.Fm Go.Proofs.Ytobgijpbfmpdaaa.Mp Go.Proofs.Ytobgijpbfmpdaaa.PCk
set_option maxHeartbeats 8000000
def FormOk (F : Form) : Bool := (F.1 == 180 || F.1 == 183 || F.1 == 186) && (F.2.2.2 == 181 || F.2.2.2 == 182 || F.2.2.2 == 184 || F.2.2.2 == 185 || F.2.2.2 == 187 || F.2.2.2 == 188) && decide (0 ≤ F.2.1) && decide (F.2.2.1 ≤ 2048)
theorem form_ok {op : Int} (h0 : 0 ≤ op) (h1 : op < 256) {F : Form} (h : formOf op = some F) : FormOk F = true := by
  have := all256 (p := fun k => (formOf k).all FormOk) (by decide +kernel) op h0 h1
  rw [h] at this
  exact this
theorem text_c (tx : Nat) (ht : tx = 180 ∨ tx = 183 ∨ tx = 186) (s : ByteArray) (W : World) : Calls Try.prog tx #[.string s] W fun e W' => e = .returned (.bool (textP tx s)) ∧ Drawn0 W W' := by
  rcases ht with rfl | rfl | rfl
  · exact tree_own.calls 60 s (ownB s) W (own_f s)
  · exact tree_empty.calls s _ W rfl
  · exact tree_short.calls s _ W rfl
theorem part_c (pt : Nat) (hp : pt = 181 ∨ pt = 182 ∨ pt = 184 ∨ pt = 185 ∨ pt = 187 ∨ pt = 188) (i n op : Int) (hn : 0 ≤ n ∧ n ≤ 100000) (W : World) :
    Calls Try.prog pt #[.int .i64 i, .int .i64 n, .int .u8 op] W fun e W' => e = .returned (.bool (partP pt i n op)) ∧ Drawn0 W W' := by
  have hw : wrap64 (n - 1) = n - 1 := Mine.wrap64_in (by omega) (by omega)
  rcases hp with rfl | rfl | rfl | rfl | rfl | rfl
  · refine tree_params.calls i n op _ W ?_
    unfold tree_params.f partP
    rw [hw, if_pos rfl]
    by_cases h1 : i < n - 1 <;> by_cases h2 : op = 2 <;> by_cases h3 : i = n - 1 <;> simp_all
    rw [if_neg (by omega)]
    simp
    omega
  · exact tree_nothing.calls i n op _ W rfl
  · refine tree_stmt.calls i n op _ W ?_
    unfold tree_stmt.f tree_Statement.f partP
    by_cases h1 : op ≥ 4 <;> simp [h1] <;> omega
  · refine tree_headed.calls 5 i n op _ W ?_
    unfold tree_headed.f partP
    rw [expr_f]
    by_cases h1 : i = 0
    · cases he : exprB op <;> simp_all
    · by_cases h2 : i > 0 <;> simp_all
      rw [if_neg (by omega)]
      simp [h1]
      omega
  · refine tree_expr.calls 5 i n op _ W ?_
    unfold tree_expr.f partP
    rw [expr_f]
    rfl
  · exact tree_block.calls i n op _ W rfl
/-- A function that tells what may stand somewhere. -/
def MayC (W : World) (g : Nat) (caps : Array Value) (p : Int → Bool) : Prop :=
  (∃ fn, Try.prog.funcs[g]? = some fn ∧ (fn.name == "runtime.NumGoroutine") = false ∧ fn.body.isSome = true) ∧
  ∀ (W' : World) (op : Int), Below W.heap.size W W' → 0 ≤ op → op < 256 → Calls Try.prog g (#[.int .u8 op] ++ caps) W' fun e W'' => e = .returned (.bool (p op)) ∧ Drawn0 W' W''
theorem MayC.below {W W1 : World} {g : Nat} {caps : Array Value} {p : Int → Bool} (h : MayC W g caps p) (hb : Below W.heap.size W W1) : MayC W1 g caps p :=
  ⟨h.1, fun W' op hb' h0 h1 => h.2 W' op (below_step hb hb') h0 h1⟩
theorem may_all (W : World) : MayC W 142 #[] (fun _ => true) := by
  refine ⟨⟨Try.f142, Try.func142, by kernel_rfl, by kernel_rfl⟩, fun W' op _ _ _ => ?_⟩
  show Calls Try.prog 142 #[.int .u8 op] W' _
  go_enter Try.func142, Try.ntmps142
  go_wp2
  go_ret
  exact ⟨rfl, Drawn0.refl _⟩
theorem may_part (W : World) (fb ib xb : Nat) (F : Form) (i : Int) (x : S61) (hF : FormOk F = true) (hn : 0 ≤ x.f1 ∧ x.f1 ≤ 100000)
    (h1 : W.heap[fb]? = some (.cells #[.func (.func F.1) #[] #[], .int .i64 F.2.1, .int .i64 F.2.2.1, .func (.func F.2.2.2) #[] #[]] 195 (0, 0)))
    (h2 : W.heap[ib]? = some (.cells #[.int .i64 i] 3 (0, 0))) (h3 : W.heap[xb]? = some (.cells #[.int .u8 x.f0, .int .i64 x.f1, .int .i64 x.f2, .string x.f3] 61 (0, 0))) :
    MayC W 141 #[.pointer (some ⟨fb, 0, none⟩), .pointer (some ⟨ib, 0, none⟩), .pointer (some ⟨xb, 0, none⟩)] (partP F.2.2.2 i x.f1) := by
  refine ⟨⟨Try.f141, Try.func141, by kernel_rfl, by kernel_rfl⟩, fun W' op hb h0 h256 => ?_⟩
  show Calls Try.prog 141 #[.int .u8 op, .pointer (some ⟨fb, 0, none⟩), .pointer (some ⟨ib, 0, none⟩), .pointer (some ⟨xb, 0, none⟩)] W' _
  have c1 : W'.cell? ⟨fb, 3, none⟩ = some (.func (.func F.2.2.2) #[] #[]) := by rw [blk_cell (blk_below h1 hb)]; rfl
  have c2 : W'.cell? ⟨ib, 0, none⟩ = some (.int .i64 i) := by rw [blk_cell (blk_below h2 hb)]; rfl
  have c3 : W'.cell? ⟨xb, 1, none⟩ = some (.int .i64 x.f1) := by rw [blk_cell (blk_below h3 hb)]; rfl
  obtain ⟨pt, hpt⟩ : ∃ pt, pt = F.2.2.2 := ⟨_, rfl⟩
  have hp : pt = 181 ∨ pt = 182 ∨ pt = 184 ∨ pt = 185 ∨ pt = 187 ∨ pt = 188 := by
    unfold FormOk at hF
    simp only [Bool.and_eq_true, Bool.or_eq_true, beq_iff_eq] at hF
    rw [hpt]
    have := hF.1.1.2
    omega
  rw [← hpt] at c1 ⊢
  clear hpt h1 h2 h3 hF hb
  rcases hp with rfl | rfl | rfl | rfl | rfl | rfl
  · go_enter Try.func141, Try.ntmps141
    go_wp2_with (first
      | ((with_reducible refine gate_dst (N := 12) rfl ?_); refine goesF_ (some 12) rfl rfl (.tmp 7) #[] rfl Try.func181 (by kernel_rfl) rfl #[.int .i64 i, .int .i64 x.f1, .int .u8 op] rfl (by (try simp only [List.map_toArray, List.map_cons, List.map_nil]); first | done | rfl) ?_; refine (part_c 181 (by simp) i x.f1 op hn _).mono ?_; rintro e w2 ⟨rfl, hd⟩; refine ⟨_, rfl, ?_⟩; have HD := Aside0.mk hd; clear hd)
      | fail)
    go_ret
    exact ⟨rfl, HD.out⟩
  · go_enter Try.func141, Try.ntmps141
    go_wp2_with (first
      | ((with_reducible refine gate_dst (N := 12) rfl ?_); refine goesF_ (some 12) rfl rfl (.tmp 7) #[] rfl Try.func182 (by kernel_rfl) rfl #[.int .i64 i, .int .i64 x.f1, .int .u8 op] rfl (by (try simp only [List.map_toArray, List.map_cons, List.map_nil]); first | done | rfl) ?_; refine (part_c 182 (by simp) i x.f1 op hn _).mono ?_; rintro e w2 ⟨rfl, hd⟩; refine ⟨_, rfl, ?_⟩; have HD := Aside0.mk hd; clear hd)
      | fail)
    go_ret
    exact ⟨rfl, HD.out⟩
  · go_enter Try.func141, Try.ntmps141
    go_wp2_with (first
      | ((with_reducible refine gate_dst (N := 12) rfl ?_); refine goesF_ (some 12) rfl rfl (.tmp 7) #[] rfl Try.func184 (by kernel_rfl) rfl #[.int .i64 i, .int .i64 x.f1, .int .u8 op] rfl (by (try simp only [List.map_toArray, List.map_cons, List.map_nil]); first | done | rfl) ?_; refine (part_c 184 (by simp) i x.f1 op hn _).mono ?_; rintro e w2 ⟨rfl, hd⟩; refine ⟨_, rfl, ?_⟩; have HD := Aside0.mk hd; clear hd)
      | fail)
    go_ret
    exact ⟨rfl, HD.out⟩
  · go_enter Try.func141, Try.ntmps141
    go_wp2_with (first
      | ((with_reducible refine gate_dst (N := 12) rfl ?_); refine goesF_ (some 12) rfl rfl (.tmp 7) #[] rfl Try.func185 (by kernel_rfl) rfl #[.int .i64 i, .int .i64 x.f1, .int .u8 op] rfl (by (try simp only [List.map_toArray, List.map_cons, List.map_nil]); first | done | rfl) ?_; refine (part_c 185 (by simp) i x.f1 op hn _).mono ?_; rintro e w2 ⟨rfl, hd⟩; refine ⟨_, rfl, ?_⟩; have HD := Aside0.mk hd; clear hd)
      | fail)
    go_ret
    exact ⟨rfl, HD.out⟩
  · go_enter Try.func141, Try.ntmps141
    go_wp2_with (first
      | ((with_reducible refine gate_dst (N := 12) rfl ?_); refine goesF_ (some 12) rfl rfl (.tmp 7) #[] rfl Try.func187 (by kernel_rfl) rfl #[.int .i64 i, .int .i64 x.f1, .int .u8 op] rfl (by (try simp only [List.map_toArray, List.map_cons, List.map_nil]); first | done | rfl) ?_; refine (part_c 187 (by simp) i x.f1 op hn _).mono ?_; rintro e w2 ⟨rfl, hd⟩; refine ⟨_, rfl, ?_⟩; have HD := Aside0.mk hd; clear hd)
      | fail)
    go_ret
    exact ⟨rfl, HD.out⟩
  · go_enter Try.func141, Try.ntmps141
    go_wp2_with (first
      | ((with_reducible refine gate_dst (N := 12) rfl ?_); refine goesF_ (some 12) rfl rfl (.tmp 7) #[] rfl Try.func188 (by kernel_rfl) rfl #[.int .i64 i, .int .i64 x.f1, .int .u8 op] rfl (by (try simp only [List.map_toArray, List.map_cons, List.map_nil]); first | done | rfl) ?_; refine (part_c 188 (by simp) i x.f1 op hn _).mono ?_; rintro e w2 ⟨rfl, hd⟩; refine ⟨_, rfl, ?_⟩; have HD := Aside0.mk hd; clear hd)
      | fail)
    go_ret
    exact ⟨rfl, HD.out⟩
end Go.Proofs.Ytobgijpbfmpdaaa.Tb
