/- DiskScript: the disk's twin, the document's Rename and Crash, a step done with both, and what both tell. -/
import Derived.Test.YtobgijpbfmpdaaaRkA
import Derived.Maps.RangeWalk
import Derived.WalkSpells
import Derived.Lib.LazyBuf
import Derived.Test.YtobgijpbfmpdaaaLt
import Derived.Test.YtobgijpbfmpdaaaFu
/- A disk's twin. -/
set_option linter.unusedVariables false
set_option linter.unusedSimpArgs false
set_option maxRecDepth 100000
namespace Go.Proofs.Ytobgijpbfmpdaaa.Dk
open Go.RowKit Go.Proofs.YtobgijpbfmpdaaaW.PrintWords Go.Proofs.YtobgijpbfmpdaaaW.PrintLast Go.Proofs.YtobgijpbfmpdaaaW.PrintMore
open Go.Proofs.Ytobgijpbfmpdaaa.Fm Go.Proofs.Ytobgijpbfmpdaaa.Mp
set_option maxHeartbeats 8000000
theorem app_list {P : Program} {ops : Array Oper} {rest : List Oper} {o : Oper} {a : Act} {Q : Exit → Act → World → Prop} {W W1 : World} (hg : o.guard = none) (s x : Operand) (ts : Array TypeId) (ho : o.op = .call { callee := .builtin .append, args := #[s, x], argTypes := ts }) {v1 v2 v : Value} (hs : a.eval s = v1) (hx : a.eval x = v2)
    (hrun : (Builtin.append_ ts o.type #[v1, v2]).run P W = .ok v W1) (h : wpList P ops Q rest (a.put o.dst v) W1) : wpList P ops Q (o :: rest) a W := by
  refine wpList_plain hg fun K hK => ?_
  unfold Oper.wp
  simp [execOp, ho, resolve, invoke, builtin, hs, hx, hrun, Result.andThen]
  exact hK _ _ h
theorem clone_c (A : Option Addr) (c : Nat) (xs : List Int) (W : World) (hC : Kd.C (Kd.int .u8) W A xs.length xs) (hl : xs.length ≤ 1000000) :
    Calls Try.prog 125 #[.slice A xs.length c] W fun e W' => ∃ A' c', e = .returned (.slice A' xs.length c') ∧ xs.length ≤ c' ∧ Kd.F (Kd.int .u8) W' (fun k => W.heap.size ≤ k) A' xs.length xs ∧ Below W.heap.size W W' := by
  have hs := fun (w : World) (p : Option Addr) (n c : Nat) => Lib.run_eql_slice_nil (P := Try.prog) w 22 5 p n c 0 0 Try.underlying22
  cases A with
  | none =>
    have h0 : xs = [] := by
      rcases Nat.eq_zero_or_pos xs.length with h1 | h1
      · exact List.eq_nil_of_length_eq_zero h1
      · obtain ⟨ad, e, _⟩ := hC.2.2 h1
        cases e
    subst h0
    clear hC
    go_enter Try.func125, Try.ntmps125
    go_wp2_with (fail)
    go_ret
    exact ⟨none, 0, rfl, Nat.le_refl _, Kd.F_nil _ _ _, Below.refl _ _⟩
  | some ad =>
    have HC := Aside0.mk hC
    clear hC
    go_enter Try.func125, Try.ntmps125
    have hnil : Kd.F (Kd.int .u8) (W.alloc (.cells #[] 5)) (fun k => W.heap.size ≤ k) (some ⟨W.heap.size, 0, none⟩) ([] : List Int).length [] := fun W' _ => ⟨rfl, by simp, fun h => absurd h (by simp)⟩
    obtain ⟨A', c', w1, hrun, hb, hc, hF⟩ := app_run 22 (some ⟨W.heap.size, 0, none⟩) [] hnil (some ad) c xs (Kd.C_below HC.out (below_alloc (Below.refl _ _) _)) (fun k hk => by have : (W.alloc (.cells #[] 5)).heap.size = W.heap.size + 1 := Array.size_push _; omega) (by simpa using hl)
    simp only [List.nil_append, List.length_nil] at hrun hc hF
    have HRUN := Aside0.mk hrun
    have HE := Aside0.mk (And.intro hc (And.intro hF (below_step (below_alloc (Below.refl _ _) _) hb)))
    clear hrun hb hc hF hnil
    go_wp2_with (first
      | ((with_reducible refine gate_builtin (b := .append) (xs := #[.tmp 5, .tmp 6]) rfl ?_); at_builtin; refine app_list rfl (.tmp 5) (.tmp 6) _ rfl rfl rfl HRUN.out ?_)
      | fail)
    go_ret
    exact ⟨A', c', rfl, HE.out.1, HE.out.2.1, HE.out.2.2⟩
theorem put_same {α : Type} {m : List (Ky × α)} (hr : Ris m) {k : Ky} {c : α} (hm : (k, c) ∈ m) : put m k c = m := by
  obtain ⟨a, r, rfl⟩ := List.append_of_mem hm
  exact put_mid a k c c r hr
/-- The files that have been gone by. -/
def doneF (F : Fls) (left : Lit → Bool) : Fls := F.filter fun p => !left (.string p.1)
theorem done_all {F : Fls} {left : Lit → Bool} (h : ∀ kl, left kl = false) : doneF F left = F := List.filter_eq_self.2 (fun p _ => by rw [h]; rfl)
theorem done_none {F : Fls} {left : Lit → Bool} (h : ∀ p ∈ F, left (.string p.1) = true) : doneF F left = [] := List.filter_eq_nil_iff.2 (fun p hp => by rw [h p hp]; simp)
theorem done_ris {F : Fls} {left : Lit → Bool} (h : Ris F) : Ris (doneF F left) := List.Pairwise.filter _ h
theorem done_step {F : Fls} (hr : Ris F) {k : Ky} {c : Cont} (hm : (k, c) ∈ F) (left : Lit → Bool) : put (doneF F left) k c = doneF F (fun z => left z && !z.sameKey (.string k)) := by
  have hs := Rk.ins_split k c hr
  rw [put_same hr hm] at hs
  have hd : ∀ l : Fls, (∀ p ∈ l, p.1 ≠ k) → l.filter (fun p => !(left (.string p.1) && !(Lit.string p.1).sameKey (.string k))) = l.filter (fun p => !left (.string p.1)) := fun l hl => List.filter_congr (fun p hp => by
    have e : (Lit.string p.1).sameKey (.string k) = (p.1 == k) := rfl
    have : (p.1 == k) = false := by simpa using hl p hp
    rw [e, this]; simp)
  have h1 : ∀ p ∈ F.filter (fun p => bytesBefore p.1 k), p.1 ≠ k := fun p hp => bb_ne (List.mem_filter.1 hp).2
  have h2 : ∀ p ∈ F.filter (fun p => !(bytesBefore p.1 k || p.1 == k)), p.1 ≠ k := fun p hp => by
    have := (List.mem_filter.1 hp).2
    simp at this
    exact this.2
  rw [Rk.ins_split k c (done_ris hr)]
  conv => rhs; unfold doneF; rw [hs]
  rw [List.filter_append, List.filter_append, hd _ h1, hd _ h2]
  unfold doneF
  rw [List.filter_filter, List.filter_filter, List.filter_filter, List.filter_filter]
  have e3 : (Lit.string k).sameKey (.string k) = true := by show (k == k) = true; simp
  simp only [List.filter_cons, List.filter_nil, e3, Bool.not_true, Bool.and_false, Bool.not_false, if_true]
  congr 1
  · congr 1
    exact List.filter_congr (fun p _ => Bool.and_comm _ _)
  · exact List.filter_congr (fun p _ => Bool.and_comm _ _)
end Go.Proofs.Ytobgijpbfmpdaaa.Dk
/- A disk's twin. -/
set_option linter.unusedVariables false
set_option linter.unusedSimpArgs false
set_option maxRecDepth 100000
namespace Go.Proofs.Ytobgijpbfmpdaaa.Dk
open Go.RowKit Go.Proofs.YtobgijpbfmpdaaaW.PrintWords Go.Proofs.YtobgijpbfmpdaaaW.PrintLast Go.Proofs.YtobgijpbfmpdaaaW.PrintMore
open Go.Proofs.Ytobgijpbfmpdaaa.Fm Go.Proofs.Ytobgijpbfmpdaaa.Mp
set_option maxHeartbeats 8000000
theorem twin_new (W : World) (off : Bool) (fuse : Int) (S : Nat → Prop) (hS : ∀ k, S k → k ≠ W.heap.size + 1 ∧ k ≠ W.heap.size) : Dsk ((W.alloc (.map #[] 0)).alloc (.cells #[.map (some W.heap.size), .bool off, .int .i64 fuse] 110)).drew (W.heap.size + 1) W.heap.size 0 off fuse [] S := by
  refine ⟨?_, ⟨[], (Mp.own_made W).kb (Kb.of_below (fun _ => False) (below_drew (below_alloc (Below.refl _ _) _))) id, .nil⟩, hS⟩
  have := blk_new (W.alloc (.map #[] 0)) (.cells #[.map (some W.heap.size), .bool off, .int .i64 fuse] 110)
  rw [World.size_alloc] at this
  exact this
theorem Kb.grownBy {W W1 : World} {q : Nat} (h : Kb (fun k => k = q) W W1) : W.grownBy W1 (some q) := ⟨h.os, h.tape, h.output, h.size, fun k hk hn => h.block k hk (fun e => hn (by rw [e]))⟩
theorem get_of_at {m : List (Ky × Value)} {k : Ky} {c : Value} (h : ∀ zd, (toD m).atKey (.string k) zd = .held c) : Mp.get m k = some c := by
  have h1 := h (.held (.bool true))
  have h2 := h (.held (.bool false))
  rw [toD_get] at h1 h2
  cases hg : Mp.get m k with
  | none =>
    rw [hg] at h1 h2
    injection h1 with h1
    injection h2 with h2
    exact absurd (h1.trans h2.symm) (by intro e; cases e)
  | some v =>
    rw [hg] at h1
    injection h1 with h1
    exact congrArg some h1
theorem Dsk.putf {W W1 : World} {g b n n' : Nat} {off : Bool} {fuse : Int} {F : Fls} {S : Nat → Prop} (h : Dsk W g b n off fuse F S) {vs : List (Ky × Value)} (hF : Fs W S vs F) (k : Ky) {v : Value} {c : Cont} (hv : FileV W S v c) (hO1 : Own W1 b n' (put vs k v)) (hk : Kb (fun q => q = b) W W1) : Dsk W1 g b n' off fuse (put F k c) S :=
  ⟨hk.blk h.hg (fun e => h.gb e), ⟨_, hO1, (hF.imp (fun v c hv => hv.step fun q hS hlt => hk.block q hlt (fun e => (h.hS q hS).2 e))).put k (hv.step fun q hS hlt => hk.block q hlt (fun e => (h.hS q hS).2 e))⟩, h.hS⟩
theorem twin_dsk (g b n : Nat) (off : Bool) (fuse : Int) (F : List (Ky × Cont)) (S : Nat → Prop) (W : World) (D : Dsk W g b n off fuse F S) (hr : Ris F) (hl : F.length ≤ 1000) (hc : ∀ p ∈ F, p.2.1.length ≤ 1000000 ∧ p.1.length ≤ 1000000) :
    Calls Try.prog 73 #[.pointer (some ⟨g, 0, none⟩)] W fun e W' => ∃ g' b' n', e = .returned (.pointer (some ⟨g', 0, none⟩)) ∧ W.heap.size ≤ g' ∧ W.heap.size ≤ b' ∧ Dsk W' g' b' n' off fuse F (fun k => W.heap.size ≤ k ∧ k ≠ g' ∧ k ≠ b') ∧ Below W.heap.size W W' := by
  have c0 : W.cell? ⟨g, 0, none⟩ = some (.map (some b)) := by rw [blk_cell D.hg]; rfl
  have c1 : W.cell? ⟨g, 1, none⟩ = some (.bool off) := by rw [blk_cell D.hg]; rfl
  have c2 : W.cell? ⟨g, 2, none⟩ = some (.int .i64 fuse) := by rw [blk_cell D.hg]; rfl
  have gl : g < W.heap.size := D.glt
  have hmm := @run_makeMap Try.prog
  have HD := Aside0.mk D
  clear D
  go_enter Try.func73, Try.ntmps73
  go_wp2_with (first
    | ((with_reducible refine gate_callee (f := 122) rfl ?_); refine goesL_ (some 7) rfl rfl Try.func122 (by kernel_rfl) rfl #[.pointer (some ⟨g, 0, none⟩)] rfl (by (try simp only [List.map_toArray, List.map_cons, List.map_nil]); first | done | rfl) ?_; refine (made_dsk _ _ _ _ _ _ _ _ HD.out).mono ?_; rintro e w' ⟨rfl, hw⟩; have hw := hw.symm; subst hw; refine ⟨_, rfl, ?_⟩)
    | fail)
  obtain ⟨vs, hO, hF⟩ := HD.out.hm
  have HO := Aside0.mk (own_len hO)
  have HF := Aside0.mk hF
  clear hO hF
  go_region
  go_wp2_with (first
    | (at_range; refine wpList_range_own _ rfl _ 108 rfl 9 175 kl Try.underlying108 rawV b vs.length (toD vs) rfl ?hw ?_; (case hw => exact Own.kb HO.out (Kb.of_below (fun _ => False) (by repeat (first | exact Below.refl _ _ | apply below_alloc | apply below_drew))) id); intro w0 hrg0 hg0 hs0)
    | fail)
  go_frame
  obtain ⟨w1, hw1⟩ : ∃ w1, w1 = ((W.alloc (.map #[] 0)).alloc (.cells #[.map (some W.heap.size), .bool off, .int .i64 fuse] 110)).drew := ⟨_, rfl⟩
  rw [← hw1] at hrg0 hg0 hs0 ⊢
  have hb1 : Below W.heap.size W w1 := by rw [hw1]; exact below_drew (below_alloc (below_alloc (Below.refl _ _) _) _)
  have s1 : w1.heap.size = W.heap.size + 2 := by rw [hw1]; simp only [World.size_drew, World.size_alloc]
  have D1 := twin_new W off fuse (fun k => W.heap.size ≤ k ∧ k ≠ W.heap.size + 1 ∧ k ≠ W.heap.size ∧ k ≠ w1.heap.size) (fun k hk => ⟨hk.2.1, hk.2.2.1⟩)
  rw [← hw1] at D1
  obtain ⟨it, hit⟩ : ∃ it, it = w1.heap.size := ⟨_, rfl⟩
  obtain ⟨b', hb'⟩ : ∃ b', b' = W.heap.size := ⟨_, rfl⟩
  obtain ⟨g', hg'⟩ : ∃ g', g' = b' + 1 := ⟨_, rfl⟩
  rw [← hit] at hrg0 D1 ⊢
  rw [← hb', ← hg'] at D1 ⊢
  have D0 : Dsk w0 g' b' 0 off fuse [] (fun k => b' ≤ k ∧ k ≠ g' ∧ k ≠ b' ∧ k ≠ it) := D1.kb (Kb.grown hg0) (by simp) (by simp) (by simp)
  have hB0 : Below W.heap.size W w0 := below_step hb1 (Kb.to_below (S := fun k => False) ((Kb.grown hg0).mono (fun k _ e => by cases e)) (Nat.le_refl _) (fun k e => e.elim))
  have hgs : ∀ p ∈ F, Maps.has (toD vs) (.string p.1) = true := fun p hp => by
    rw [toD_has, (HF.out.get p.1).2, get_mem hr hp]; rfl
  have HN : Aside0 (b' = W.heap.size ∧ g' = b' + 1 ∧ it = b' + 2) := ⟨hb', hg', by rw [hit, s1, hb']⟩
  have HRG := Aside0.mk hrg0
  have HD0 := Aside0.mk D0
  have HB0 := Aside0.mk hB0
  have HGS := Aside0.mk hgs
  have HBL : Aside0 (b < W.heap.size) := ⟨HD.out.blt⟩
  clear hrg0 hg0 hs0 hb1 s1 D1 hit hb' hg' D0 hB0 hgs hw1
  go_loopg [4] (Maps.size (toD vs)) (fun kk v4 wr => ∃ (left : Lit → Bool) (cnt : Nat), Aside0 (wr.ranges Try.prog 9 rawV b it vs.length (toD vs) left cnt ∧ kk = cnt) ∧ Aside0 (Dsk wr g' b' (doneF F left).length off fuse (doneF F left) (fun k => b' ≤ k ∧ k ≠ g' ∧ k ≠ b' ∧ k ≠ it)) ∧ Aside0 (Below W.heap.size W wr))
  case atStart => exact ⟨_, _, ⟨HRG.out, rfl⟩, ⟨by rw [done_none HGS.out]; exact HD0.out⟩, HB0⟩
  case round =>
    obtain ⟨left, cnt, hrg, hD, hB⟩ := hrel
    go_wp2_with (first
      | (at_next; (refine wpList_next_ranges _ rfl _ rfl 9 kl rawV Value.string (fun v => v) (fun key kl_ h_ => by obtain ⟨s, h1, _⟩ := Go.WideMaps.string_of_keyOf Try.underlying9 h_; exact ⟨s, h1⟩) (fun v y h_ => ⟨v, rfl⟩) b it vs.length _ _ _ rfl hrg.out.1 ?_ ?_))
      | fail)
    · intro _ hl0
      have hD1 := hD.out
      rw [done_all hl0] at hD1
      have HD1 := Aside0.mk hD1
      clear hD1 hD hrg hl0
      go_wp2_with (fail)
      go_ret
      exact ⟨g', b', _, rfl, by have := HN.out; omega, by have := HN.out; omega, HD1.out.mono (fun k hk _ => by have := HN.out; exact ⟨by omega, hk.2.1, hk.2.2.1⟩) (fun k hk => ⟨hk.2.1, hk.2.2⟩), hB.out⟩
    · intro x c kl_ y y2 w2 cnt1 hkey hlk hR hat hrg1 hlt hg1 hs1 hen
      obtain ⟨x_, ex, rfl, hxs⟩ := Go.WideMaps.string_of_keyOf Try.underlying9 hkey
      injection ex with ex
      subst ex
      have hy : y = .held c := by
        have h_ : some (DataW.held c, ([] : List MemPlace)) = some (y, y2) := hR
        injection h_ with h_
        injection h_ with h_ _
        exact h_.symm
      subst hy
      have hgv := get_of_at hat
      obtain ⟨hfv, hsm⟩ := HF.out.get x.data.toList
      rw [hgv] at hfv hsm
      obtain ⟨cont, hcont⟩ : ∃ cont, Mp.get F x.data.toList = some cont := Option.isSome_iff_exists.1 hsm.symm
      rw [hcont] at hfv
      obtain ⟨Af, cf, hcv, hcf, hFf⟩ := hfv
      have hcm := mem_of_get hcont
      have hcc := hc _ hcm
      obtain ⟨xs, last⟩ := cont
      dsimp only [Option.getD_some] at hcv hcf hFf hcc
      subst hcv
      have hn := HN.out
      have hB2 : Below W.heap.size W w2 := hB.out.trans (Kb.to_below (Kb.grown hg1) (hB.out.size) (fun k e => by injection e with e; omega))
      have D2 := hD.out.kb (Kb.grown hg1) (fun e => by injection e with e; omega) (fun e => by injection e with e; omega) (fun k hk e => by injection e with e; exact hk.2.2.2 e)
      have hC2 : Kd.C (Kd.int .u8) w2 Af xs.length xs := Kd.F_now (Kd.F_step hFf (fun k _ hlt => hB2.block k hlt))
      have cx : w2.cell? ⟨g', 0, none⟩ = some (.map (some b')) := by rw [blk_cell D2.hg]; rfl
      have gl2 : g' < w2.heap.size := D2.glt
      have hst := done_step hr hcm left
      have hll : (doneF F left).length ≤ 1000 := Nat.le_trans (List.length_filter_le _ _) hl
      have HKK := Aside0.mk hrg.out.2
      have HR1 := Aside0.mk hrg1
      have HLT := Aside0.mk hlt
      have HB2 := Aside0.mk hB2
      have HD2 := Aside0.mk D2
      have HC2 := Aside0.mk hC2
      have HST := Aside0.mk hst
      have HCC := Aside0.mk hcc
      have HLL := Aside0.mk hll
      have HXS := Aside0.mk hxs
      have HIT : Aside0 (it < w2.heap.size) := ⟨by have := hrg1.lt; exact this⟩
      clear hrg1 hlt hB2 D2 hC2 hst hcc hll hxs hrg hD hB hkey hlk hR hat hg1 hs1 hgv hsm hcont hcf hFf hcm hn c0 c1 c2 gl hmm
      go_wp2_with (fail)
      clear hen
      have hq3 : (w2.alloc (.cells #[.slice Af xs.length cf, .int .i64 last] 175)).heap[w2.heap.size]? = some (.cells #[.slice Af xs.length cf, .int .i64 last] 175 (0, 0)) := blk_new _ _
      have hb3 : Below w2.heap.size w2 (w2.alloc (.cells #[.slice Af xs.length cf, .int .i64 last] 175)) := below_alloc (Below.refl _ _) _
      obtain ⟨w3, hw3⟩ : ∃ w3, w3 = w2.alloc (.cells #[.slice Af xs.length cf, .int .i64 last] 175) := ⟨_, rfl⟩
      rw [← hw3] at hq3 hb3 ⊢
      obtain ⟨q, hq⟩ : ∃ q, q = w2.heap.size := ⟨_, rfl⟩
      rw [← hq] at hq3 ⊢
      have HB3 := Aside0.mk hb3
      have cx3 : w3.cell? ⟨g', 0, none⟩ = some (.map (some b')) := pw_cell_below hb3 cx
      have cq0 : w3.cell? ⟨q, 0, none⟩ = some (.slice Af xs.length cf) := by rw [blk_cell hq3]; rfl
      have cq1 : w3.cell? ⟨q, 1, none⟩ = some (.int .i64 last) := by rw [blk_cell hq3]; rfl
      clear hq3 hb3 hw3 cx gl2 hq
      refine start_ (n := 12) (S := fun w' => w'.cell? ⟨g', 0, none⟩ = some (.map (some b')) ∧ w'.cell? ⟨q, 0, none⟩ = some (.slice Af xs.length cf) ∧ w'.cell? ⟨q, 1, none⟩ = some (.int .i64 last)) (ds := [11]) #[false, false, false, false, false, false, false, false, false, false, false, false] (by kernel_rfl) rfl rfl ⟨cx3, cq0, cq1⟩ (fun hHeld => ?_)
      refine pure_ (i := 0) (N := some 30) (v := ?_) (a' := ?_) #[true, false, false, false, false, false, false, false, false, false, false, false] rfl rfl (by kernel_rfl) (fun _ _ _ h => h) (Or.inl ⟨by rfl, ?_⟩) ?_ ?_
      rotate_left
      · intro w'
        go_simp
        with_reducible rfl
      rotate_left
      · simp only [Act.put, List.setIfInBounds_toArray, List.set_cons_zero, List.set_cons_succ, i64_w, i32_w]
        rfl
      refine pure_ (i := 1) (N := some 31) (v := ?_) (a' := ?_) #[true, true, false, false, false, false, false, false, false, false, false, false] rfl rfl (by kernel_rfl) (fun _ _ _ h => h) (Or.inl ⟨by rfl, ?_⟩) ?_ ?_
      rotate_left
      · intro w'
        go_simp
        with_reducible rfl
      rotate_left
      · simp only [Act.put, List.setIfInBounds_toArray, List.set_cons_zero, List.set_cons_succ, i64_w, i32_w]
        rfl
      refine pure_ (i := 2) (N := some 32) (v := ?_) (a' := ?_) #[true, true, true, false, false, false, false, false, false, false, false, false] rfl rfl (by kernel_rfl) (fun _ _ _ h => h) (Or.inl ⟨by rfl, ?_⟩) ?_ ?_
      rotate_left
      · intro w'
        go_simp
        with_reducible rfl
      rotate_left
      · simp only [Act.put, List.setIfInBounds_toArray, List.set_cons_zero, List.set_cons_succ, i64_w, i32_w]
        rfl
      refine take_ (i := 3) (N := some 33) (v := ?_) (a' := ?_) #[true, true, true, true, false, false, false, false, false, false, false, false] rfl rfl (by kernel_rfl) (fun _ _ _ h => h) (Or.inl ⟨by rfl, ?_⟩) hHeld ?_ ?_
      rotate_left
      · intro w' hS_
        obtain ⟨s0_, s1_, s2_⟩ := hS_
        go_simp
        with_reducible rfl
      rotate_left
      · simp only [Act.put, List.setIfInBounds_toArray, List.set_cons_zero, List.set_cons_succ, i64_w, i32_w]
        rfl
      refine pure_ (i := 4) (N := some 34) (v := ?_) (a' := ?_) #[true, true, true, true, true, false, false, false, false, false, false, false] rfl rfl (by kernel_rfl) (fun _ _ _ h => h) (Or.inl ⟨by rfl, ?_⟩) ?_ ?_
      rotate_left
      · intro w'
        go_simp
        with_reducible rfl
      rotate_left
      · simp only [Act.put, List.setIfInBounds_toArray, List.set_cons_zero, List.set_cons_succ, i64_w, i32_w]
        rfl
      refine pure_ (i := 5) (N := some 35) (v := ?_) (a' := ?_) #[true, true, true, true, true, true, false, false, false, false, false, false] rfl rfl (by kernel_rfl) (fun _ _ _ h => h) (Or.inl ⟨by rfl, ?_⟩) ?_ ?_
      rotate_left
      · intro w'
        go_simp
        with_reducible rfl
      rotate_left
      · simp only [Act.put, List.setIfInBounds_toArray, List.set_cons_zero, List.set_cons_succ, i64_w, i32_w]
        rfl
      refine take_ (i := 6) (N := some 36) (v := ?_) (a' := ?_) #[true, true, true, true, true, true, true, false, false, false, false, false] rfl rfl (by kernel_rfl) (fun _ _ _ h => h) (Or.inl ⟨by rfl, ?_⟩) hHeld ?_ ?_
      rotate_left
      · intro w' hS_
        obtain ⟨s0_, s1_, s2_⟩ := hS_
        go_simp
        with_reducible rfl
      rotate_left
      · simp only [Act.put, List.setIfInBounds_toArray, List.set_cons_zero, List.set_cons_succ, i64_w, i32_w]
        rfl
      refine pure_ (i := 8) (N := some 38) (v := ?_) (a' := ?_) #[true, true, true, true, true, true, true, false, true, false, false, false] rfl rfl (by kernel_rfl) (fun _ _ _ h => h) (Or.inl ⟨by rfl, ?_⟩) ?_ ?_
      rotate_left
      · intro w'
        go_simp
        with_reducible rfl
      rotate_left
      · simp only [Act.put, List.setIfInBounds_toArray, List.set_cons_zero, List.set_cons_succ, i64_w, i32_w]
        rfl
      refine take_ (i := 9) (N := some 39) (v := ?_) (a' := ?_) #[true, true, true, true, true, true, true, false, true, true, false, false] rfl rfl (by kernel_rfl) (fun _ _ _ h => h) (Or.inl ⟨by rfl, ?_⟩) hHeld ?_ ?_
      rotate_left
      · intro w' hS_
        obtain ⟨s0_, s1_, s2_⟩ := hS_
        go_simp
        with_reducible rfl
      rotate_left
      · simp only [Act.put, List.setIfInBounds_toArray, List.set_cons_zero, List.set_cons_succ, i64_w, i32_w]
        rfl
      refine one_ (i := 7) (N := some 37) #[true, true, true, true, true, true, true, true, true, true, false, false] rfl rfl (by kernel_rfl) (by decide) (fun K hK => ?_)
      refine goes_ Try.func125 (by kernel_rfl) rfl #[.slice Af xs.length cf] (by rfl) rfl rfl (by (try simp only [List.map_toArray, List.map_cons, List.map_nil]); first | done | rfl) ?_
      refine (clone_c Af cf xs _ (Kd.C_below HC2.out (below_drew HB3.out)) HCC.out.1).mono ?_
      rintro e w4 ⟨A', c', rfl, hc', hF', hb4⟩
      refine ⟨_, rfl, ?_⟩
      refine hK.out _ _ ⟨pw_cell_below hb4 hHeld.1, pw_cell_below hb4 hHeld.2.1, pw_cell_below hb4 hHeld.2.2⟩ (fun hHeld => ?_)
      clear hK K
      refine norm_ (a' := ?_) ?_ ?_
      rotate_left
      · show Act.put _ (some 37) _ = _
        simp only [Act.put, List.setIfInBounds_toArray, List.set_cons_zero, List.set_cons_succ, i64_w, i32_w]
        rfl
      refine pure_ (i := 10) (N := some 40) (v := ?_) (a' := ?_) #[true, true, true, true, true, true, true, true, true, true, true, false] rfl rfl (by kernel_rfl) (fun _ _ _ h => h) (Or.inl ⟨by rfl, ?_⟩) ?_ ?_
      rotate_left
      · intro w'
        go_simp
        with_reducible rfl
      rotate_left
      · simp only [Act.put, List.setIfInBounds_toArray, List.set_cons_zero, List.set_cons_succ, i64_w, i32_w]
        rfl
      refine last_ (i := 11) (N := none) #[true, true, true, true, true, true, true, true, true, true, true, true] rfl rfl (by kernel_rfl) (by decide) (fun K hK => ?_)
      have hB24 : Below w2.heap.size w2 w4 := below_step (below_drew HB3.out) hb4
      obtain ⟨vsn, hOn, hFn⟩ := (HD2.out.below hB24).hm
      obtain ⟨w5, hrun, hO5, hK5⟩ := put_run 108 175 Try.underlying108 hOn (Nat.lt_of_le_of_lt HLL.out (by decide)) x HXS.out (.agg #[.slice A' xs.length c', .int .i64 last])
      refine put_step (by rfl) rfl (.tmp 33) (.tmp 34) (.tmp 40) 108 rfl rfl rfl rfl hrun ?_
      refine hK.out _ _ ?_
      clear hK K hrun
      refine done_ (by kernel_rfl) ?_
      have hs3 := (below_drew HB3.out).size
      have D5 := (HD2.out.below hB24).putf hFn x.data.toList (c := (xs, last)) ⟨A', c', rfl, hc', Kd.F_mono hF' (fun k hk => by have := HN.out; have := HIT.out; have := HD2.out.glt; have := HD2.out.blt; exact ⟨by omega, by omega, by omega, by omega⟩)⟩ hO5 hK5
      rw [HST.out] at D5
      have hK25 := (Kb.of_below (fun k => k = b') hB24).trans hK5
      have R5 := HR1.out.kept (Kb.grownBy hK25) (by intro e; injection e with e; have := HN.out; have := HBL.out; omega) (by intro e; injection e with e; have := HN.out; omega)
      have D6 := D5.tight
      have HB6 := HB2.out.trans (hK25.to_below HB2.out.size (fun k e => by have := HN.out; omega))
      go_wp2_with (fail)
      go_roundg cnt1
      case measure => have h1 := HKK.out; have h2 := HLT.out; omega
      case rel => exact ⟨_, cnt1, ⟨R5, rfl⟩, ⟨D6⟩, ⟨HB6⟩⟩
end Go.Proofs.Ytobgijpbfmpdaaa.Dk
/- prompterref25.Disk: Rename. -/
set_option linter.unusedVariables false
set_option linter.unusedSimpArgs false
set_option maxRecDepth 100000
namespace Go.Proofs.Ytobgijpbfmpdaaa.Rk
open Go.RowKit Go.Proofs.YtobgijpbfmpdaaaW.PrintWords Go.Proofs.YtobgijpbfmpdaaaW.PrintLast Go.Proofs.YtobgijpbfmpdaaaW.PrintMore
open Go.Proofs.Ytobgijpbfmpdaaa.Fm Go.Proofs.Ytobgijpbfmpdaaa.Mp Go.Proofs.Ytobgijpbfmpdaaa.PDq
set_option maxHeartbeats 8000000
theorem rename_c (r base : Nat) (ok : Nat → Prop) (L : List S187) (off : Bool) (left : Int) (s nm : ByteArray) (W : World) (h : Rsk W r base ok L off left) (hl : -1 ≤ left ∧ left ≤ 9223372036854775807) (hL : L.length ≤ 1000000) (hbase : base ≤ W.heap.size) (hf : ∀ k, W.heap.size ≤ k → ok k) :
    Calls Try.prog 129 #[.pointer (some ⟨r, 0, none⟩), .string s, .string nm] W fun e W' => e = .returned (.int .i64 (askR off left L s).1) ∧ Rsk W' r base ok (renL off left L s nm) (askR off left L s).2.1 (askR off left L s).2.2 ∧ Kb (fun k => k = r) W W' := by
  have HR := Aside0.mk h
  have HF := Aside0.mk hf
  clear h hf
  have hz0 := askR_e off left L s
  have hz1 : (askR off left L s).1 = 0 → 0 ≤ findL L s := askR_0
  unfold renL
  obtain ⟨z, hz⟩ : ∃ z, z = askR off left L s := ⟨_, rfl⟩
  rw [← hz] at hz0 hz1 ⊢
  obtain ⟨a, o2, l2⟩ := z
  have HZ := Aside0.mk hz
  clear hz
  dsimp only at hz0 hz1 ⊢
  rcases hz0 with rfl | rfl | rfl
  · rw [if_pos rfl]
    have t0 := hz1 rfl
    have t1 := (findL_lt L s).2
    unfold renF
    obtain ⟨t, ht⟩ : ∃ t, t = findL L s := ⟨_, rfl⟩
    rw [← ht] at t0 t1 ⊢
    have HT := Aside0.mk ht
    obtain ⟨y, hy⟩ : ∃ y, y = rd_T187 L t := ⟨_, rfl⟩
    rw [← hy]
    have HY := Aside0.mk hy
    clear hy ht hz1
    go_enter Try.func129, Try.ntmps129
    go_wp2_with (first
      | ((with_reducible refine gate_callee (f := 176) rfl ?_); refine goesL_ (some 11) rfl rfl Try.func176 (by kernel_rfl) rfl #[.pointer (some ⟨r, 0, none⟩), .string s] rfl (by (try simp only [List.map_toArray, List.map_cons, List.map_nil]); first | done | rfl) ?_; refine (asked_c _ _ _ _ _ _ s _ HR.out hl hL).mono ?_; rintro e w2 ⟨he, h2, k2⟩; rw [← HZ.out] at he h2; subst he; refine ⟨_, rfl, ?_⟩; have HR2 := Aside0.mk h2; have HK2 := Aside0.mk k2; clear h2 k2)
      | fail)
    obtain ⟨AL, cL, g1_, g2_⟩ := HR2.out.ex
    obtain ⟨ad, eA, q0, q1, q2⟩ := at_T187 (Kd.R_reads' g2_).2.2 t t0 t1
    have d0 : w2.cell? ⟨r, 0, none⟩ = some (.slice AL L.length cL) := by rw [blk_cell g1_]; rfl
    rw [← HY.out] at q0 q1 q2
    subst eA
    clear g1_ g2_
    refine start_ (n := 11) (S := fun w' => w'.cell? ⟨r, 0, none⟩ = some (.slice (some ad) L.length cL) ∧ w'.cell? (ad.add (t.toNat * 3)) = some (.string y.f0) ∧ w'.cell? ⟨(ad.add (t.toNat * 3)).block, (ad.add (t.toNat * 3)).off + 1, none⟩ = some (.string y.f1) ∧ w'.cell? ⟨(ad.add (t.toNat * 3)).block, (ad.add (t.toNat * 3)).off + 2, none⟩ = some (.string y.f2)) (ds := [10]) #[false, false, false, false, false, false, false, false, false, false, false] (by kernel_rfl) rfl rfl ⟨d0, q0, q1, q2⟩ (fun hHeld => ?_)
    refine pure_ (i := 0) (N := some 14) (v := ?_) (a' := ?_) #[true, false, false, false, false, false, false, false, false, false, false] rfl rfl (by kernel_rfl) (fun _ _ _ h => h) (Or.inl ⟨by rfl, ?_⟩) ?_ ?_
    rotate_left
    · intro w'
      go_simp
      with_reducible rfl
    rotate_left
    · simp only [Act.put, List.setIfInBounds_toArray, List.set_cons_zero, List.set_cons_succ, i64_w, i32_w]
      rfl
    refine pure_ (i := 1) (N := some 15) (v := ?_) (a' := ?_) #[true, true, false, false, false, false, false, false, false, false, false] rfl rfl (by kernel_rfl) (fun _ _ _ h => h) (Or.inl ⟨by rfl, ?_⟩) ?_ ?_
    rotate_left
    · intro w'
      go_simp
      with_reducible rfl
    rotate_left
    · simp only [Act.put, List.setIfInBounds_toArray, List.set_cons_zero, List.set_cons_succ, i64_w, i32_w]
      rfl
    refine pure_ (i := 2) (N := some 16) (v := ?_) (a' := ?_) #[true, true, true, false, false, false, false, false, false, false, false] rfl rfl (by kernel_rfl) (fun _ _ _ h => h) (Or.inl ⟨by rfl, ?_⟩) ?_ ?_
    rotate_left
    · intro w'
      go_simp
      with_reducible rfl
    rotate_left
    · simp only [Act.put, List.setIfInBounds_toArray, List.set_cons_zero, List.set_cons_succ, i64_w, i32_w]
      rfl
    refine take_ (i := 3) (N := some 17) (v := ?_) (a' := ?_) #[true, true, true, true, false, false, false, false, false, false, false] rfl rfl (by kernel_rfl) (fun _ _ _ h => h) (Or.inl ⟨by rfl, ?_⟩) hHeld ?_ ?_
    rotate_left
    · intro w' hS_
      obtain ⟨s0_, s1_, s2_, s3_⟩ := hS_
      go_simp
      with_reducible rfl
    rotate_left
    · simp only [Act.put, List.setIfInBounds_toArray, List.set_cons_zero, List.set_cons_succ, i64_w, i32_w]
      rfl
    refine pure_ (i := 4) (N := some 18) (v := ?_) (a' := ?_) #[true, true, true, true, true, false, false, false, false, false, false] rfl rfl (by kernel_rfl) (fun _ _ _ h => h) (Or.inl ⟨by rfl, ?_⟩) ?_ ?_
    rotate_left
    · intro w'
      go_simp
      with_reducible rfl
    rotate_left
    · simp only [Act.put, List.setIfInBounds_toArray, List.set_cons_zero, List.set_cons_succ, i64_w, i32_w]
      rfl
    refine pure_ (i := 5) (N := some 19) (v := ?_) (a' := ?_) #[true, true, true, true, true, true, false, false, false, false, false] rfl rfl (by kernel_rfl) (fun _ _ _ h => h) (Or.inl ⟨by rfl, ?_⟩) ?_ ?_
    rotate_left
    · intro w'
      go_simp
      with_reducible rfl
    rotate_left
    · simp only [Act.put, List.setIfInBounds_toArray, List.set_cons_zero, List.set_cons_succ, i64_w, i32_w]
      rfl
    refine two_ (i := 6) (j := 9) (N := some 20) (M := some 8) #[true, true, true, true, true, true, true, false, false, false, false] #[true, true, true, true, true, true, false, false, false, true, false] rfl rfl rfl rfl (by kernel_rfl) (by decide) (by decide) (fun K hK => ?_) (fun K hK => ?_)
    · refine goes_ Try.func174 (by kernel_rfl) rfl #[.pointer (some ⟨r, 0, none⟩), .string s] (by rfl) rfl rfl (by (try simp only [List.map_toArray, List.map_cons, List.map_nil]); first | done | rfl) ?_
      refine (find_c _ _ _ _ _ _ s _ (HR2.out.below (below_drew (Below.refl _ _))) hL).mono ?_
      rintro e w' ⟨he, hw⟩
      have hw := hw.symm
      subst hw
      rw [← HT.out] at he
      subst he
      refine ⟨_, rfl, ?_⟩
      refine hK.out _ _ hHeld (fun hHeld => ?_)
      clear hK K
      refine norm_ (a' := ?_) ?_ ?_
      rotate_left
      · show Act.put _ (some 20) _ = _
        simp only [Act.put, List.setIfInBounds_toArray, List.set_cons_zero, List.set_cons_succ, i64_w, i32_w]
        rfl
      refine pure_ (i := 7) (N := some 21) (v := ?_) (a' := ?_) #[true, true, true, true, true, true, true, true, false, false, false] rfl rfl (by kernel_rfl) (fun _ _ _ h => h) (Or.inl ⟨by rfl, ?_⟩) ?_ ?_
      rotate_left
      · intro w'
        go_simp
        with_reducible rfl
      rotate_left
      · simp only [Act.put, List.setIfInBounds_toArray, List.set_cons_zero, List.set_cons_succ, i64_w, i32_w]
        rfl
      refine take_ (i := 8) (N := some 22) (v := ?_) (a' := ?_) #[true, true, true, true, true, true, true, true, true, false, false] rfl rfl (by kernel_rfl) (fun _ _ _ h => h) (Or.inl ⟨by rfl, ?_⟩) hHeld ?_ ?_
      rotate_left
      · intro w' hS_
        obtain ⟨s0_, s1_, s2_, s3_⟩ := hS_
        go_simp
        with_reducible rfl
      rotate_left
      · simp only [Act.put, List.setIfInBounds_toArray, List.set_cons_zero, List.set_cons_succ, i64_w, i32_w]
        rfl
      refine one_ (i := 9) (N := some 8) #[true, true, true, true, true, true, true, true, true, true, false] rfl rfl (by kernel_rfl) (by decide) (fun K hK => ?_)
      refine value_ (by rfl) rfl (by go_simp; exact ⟨rfl, rfl⟩) ?_
      refine hK.out _ _ ⟨pw_cell_below (below_alloc (Below.refl _ _) _) hHeld.1, pw_cell_below (below_alloc (Below.refl _ _) _) hHeld.2.1, pw_cell_below (below_alloc (Below.refl _ _) _) hHeld.2.2.1, pw_cell_below (below_alloc (Below.refl _ _) _) hHeld.2.2.2⟩ (fun hHeld => ?_)
      clear hK K
      refine norm_ (a' := ?_) ?_ ?_
      rotate_left
      · show Act.put _ (some 8) _ = _
        simp only [Act.put, List.setIfInBounds_toArray, List.set_cons_zero, List.set_cons_succ, i64_w, i32_w]
        rfl
      refine last_ (i := 10) (N := none) #[true, true, true, true, true, true, true, true, true, true, true] rfl rfl (by kernel_rfl) (by decide) (fun K hK => ?_)
      refine skip_ (by rfl) rfl (by go_simp; rfl) ?_
      refine hK.out _ _ ?_
      clear hK K
      refine done_ (by kernel_rfl) ?_
      have hb3 : Below w2.heap.size w2 (w2.alloc (.cells #[.string y.f0, .string y.f1, .string y.f2] 187)).drew := below_drew (below_alloc (Below.refl _ w2) _)
      have hq : (w2.alloc (.cells #[.string y.f0, .string y.f1, .string y.f2] 187)).drew.heap[w2.heap.size]? = some (.cells #[.string y.f0, .string y.f1, .string y.f2] 187 (0, 0)) := blk_new w2 _
      have hs3 : (w2.alloc (.cells #[.string y.f0, .string y.f1, .string y.f2] 187)).drew.heap.size = w2.heap.size + 1 := Array.size_push _
      obtain ⟨w3, hw3⟩ : ∃ w3, w3 = (w2.alloc (.cells #[.string y.f0, .string y.f1, .string y.f2] 187)).drew := ⟨_, rfl⟩
      rw [← hw3] at hb3 hq hs3 ⊢
      have HRq : Aside0 (Rsk w3 r base (fun k => ok k ∧ k ≠ w2.heap.size) L o2 l2) := ⟨(HR2.out.mono (fun k hk _ hlt => ⟨hk, by omega⟩) (fun k hk => HR2.out.ne k hk.1)).below hb3⟩
      have hrq : r < w2.heap.size := HR2.out.lt
      have Hb3 := Aside0.mk hb3
      have Hs3 := Aside0.mk hs3
      have Hq := Aside0.mk hq
      obtain ⟨q, hqq⟩ : ∃ q, q = w2.heap.size := ⟨_, rfl⟩
      have HQ := Aside0.mk hqq
      rw [← hqq] at hrq HRq Hs3 Hq ⊢
      clear hb3 hs3 hq hw3 hqq d0 q0 q1 q2 hHeld
      go_wp2_with (first
        | ((with_reducible refine gate_callee (f := 177) rfl ?_); refine goesL_ (some 25) rfl rfl Try.func177 (by kernel_rfl) rfl #[.pointer (some ⟨r, 0, none⟩), .string s] rfl (by (try simp only [List.map_toArray, List.map_cons, List.map_nil]); first | done | rfl) ?_; refine (out_c _ _ _ _ _ _ s _ HRq.out hL (by have h1 := HK2.out.size; have h2 := HQ.out; have h3 := Hs3.out; omega) (fun k hk => ⟨HF.out k (by have h1 := HK2.out.size; have h2 := HQ.out; have h3 := Hs3.out; omega), by have h3 := Hs3.out; omega⟩)).mono ?_; rintro e w4 ⟨rfl, h4, k4⟩; refine ⟨_, rfl, ?_⟩; have hq4 := k4.blk Hq.out (by have h5 := hrq; omega); have u0 : w4.cell? ⟨q, 0, none⟩ = some (.string y.f0) := (by rw [blk_cell hq4]; rfl); have u1 : w4.cell? ⟨q, 1, none⟩ = some (.string y.f1) := (by rw [blk_cell hq4]; rfl); have u2 : w4.cell? ⟨q, 2, none⟩ = some (.string y.f2) := (by rw [blk_cell hq4]; rfl); have uf := blk_frozen hq4 0; have HR4 := Aside0.mk h4; have HK4 := Aside0.mk k4; clear h4 k4 hq4)
        | ((with_reducible refine gate_callee (f := 175) rfl ?_); refine goesL_ (some 30) rfl rfl Try.func175 (by kernel_rfl) rfl #[.pointer (some ⟨r, 0, none⟩), .agg #[.string nm, .string y.f1, .string y.f2]] rfl (by (try simp only [List.map_toArray, List.map_cons, List.map_nil]); first | done | rfl) ?_; have hset := Kb.set (fun k => k = q) w4 ⟨q, 0, none⟩ (.string nm) rfl; refine (put_c _ _ _ _ _ _ ⟨nm, y.f1, y.f2⟩ _ (HR4.out.kb hset (by have h5 := hrq; omega) (fun k hk => hk.2)) (Nat.le_trans (List.length_filter_le _ _) hL) (by have h1 := HK2.out.size; have h2 := HQ.out; have h3 := Hs3.out; have h4 := HK4.out.size; have h6 := hset.size; omega) (fun k hk => ⟨HF.out k (by have h1 := HK2.out.size; have h2 := HQ.out; have h3 := Hs3.out; have h4 := HK4.out.size; have h6 := hset.size; omega), by have h3 := Hs3.out; have h4 := HK4.out.size; have h6 := hset.size; omega⟩)).mono ?_; rintro e w6 ⟨rfl, h6, k6⟩; refine ⟨_, rfl, ?_⟩; have HR6 := Aside0.mk h6; have HK6 := Aside0.mk k6; clear h6 k6 hset)
        | fail)
      go_ret
      refine ⟨rfl, HR6.out.mono (fun k hk _ _ => hk.1) HR.out.ne, ?_⟩
      have e1 : Kb (fun k => k = r ∨ k = q) W w6 := (HK2.out.mono (fun k _ e => .inl e)).trans ((Kb.of_below _ Hb3.out).trans ((HK4.out.mono (fun k _ e => .inl e)).trans ((Kb.set _ w4 ⟨q, 0, none⟩ _ (.inr rfl)).trans (HK6.out.mono (fun k _ e => .inl e)))))
      exact e1.mono (fun k hk e => by have h1 := HK2.out.size; have h2 := HQ.out; omega)
    · refine value_ (by rfl) rfl (by go_simp; exact ⟨rfl, rfl⟩) ?_
      refine hK.out _ _ ⟨pw_cell_below (below_alloc (Below.refl _ _) _) hHeld.1, pw_cell_below (below_alloc (Below.refl _ _) _) hHeld.2.1, pw_cell_below (below_alloc (Below.refl _ _) _) hHeld.2.2.1, pw_cell_below (below_alloc (Below.refl _ _) _) hHeld.2.2.2⟩ (fun hHeld => ?_)
      clear hK K
      refine norm_ (a' := ?_) ?_ ?_
      rotate_left
      · show Act.put _ (some 8) _ = _
        simp only [Act.put, List.setIfInBounds_toArray, List.set_cons_zero, List.set_cons_succ, i64_w, i32_w]
        rfl
      refine one_ (i := 6) (N := some 20) #[true, true, true, true, true, true, true, false, false, true, false] rfl rfl (by kernel_rfl) (by decide) (fun K hK => ?_)
      refine goes_ Try.func174 (by kernel_rfl) rfl #[.pointer (some ⟨r, 0, none⟩), .string s] (by rfl) rfl rfl (by (try simp only [List.map_toArray, List.map_cons, List.map_nil]); first | done | rfl) ?_
      refine (find_c _ _ _ _ _ _ s _ (HR2.out.below (below_drew (below_alloc (Below.refl _ _) _))) hL).mono ?_
      rintro e w' ⟨he, hw⟩
      have hw := hw.symm
      subst hw
      rw [← HT.out] at he
      subst he
      refine ⟨_, rfl, ?_⟩
      refine hK.out _ _ hHeld (fun hHeld => ?_)
      clear hK K
      refine norm_ (a' := ?_) ?_ ?_
      rotate_left
      · show Act.put _ (some 20) _ = _
        simp only [Act.put, List.setIfInBounds_toArray, List.set_cons_zero, List.set_cons_succ, i64_w, i32_w]
        rfl
      refine pure_ (i := 7) (N := some 21) (v := ?_) (a' := ?_) #[true, true, true, true, true, true, true, true, false, true, false] rfl rfl (by kernel_rfl) (fun _ _ _ h => h) (Or.inl ⟨by rfl, ?_⟩) ?_ ?_
      rotate_left
      · intro w'
        go_simp
        with_reducible rfl
      rotate_left
      · simp only [Act.put, List.setIfInBounds_toArray, List.set_cons_zero, List.set_cons_succ, i64_w, i32_w]
        rfl
      refine take_ (i := 8) (N := some 22) (v := ?_) (a' := ?_) #[true, true, true, true, true, true, true, true, true, true, false] rfl rfl (by kernel_rfl) (fun _ _ _ h => h) (Or.inl ⟨by rfl, ?_⟩) hHeld ?_ ?_
      rotate_left
      · intro w' hS_
        obtain ⟨s0_, s1_, s2_, s3_⟩ := hS_
        go_simp
        with_reducible rfl
      rotate_left
      · simp only [Act.put, List.setIfInBounds_toArray, List.set_cons_zero, List.set_cons_succ, i64_w, i32_w]
        rfl
      refine last_ (i := 10) (N := none) #[true, true, true, true, true, true, true, true, true, true, true] rfl rfl (by kernel_rfl) (by decide) (fun K hK => ?_)
      refine skip_ (by rfl) rfl (by go_simp; rfl) ?_
      refine hK.out _ _ ?_
      clear hK K
      refine done_ (by kernel_rfl) ?_
      have hb3 : Below w2.heap.size w2 (w2.alloc (.cells #[.string y.f0, .string y.f1, .string y.f2] 187)).drew := below_drew (below_alloc (Below.refl _ w2) _)
      have hq : (w2.alloc (.cells #[.string y.f0, .string y.f1, .string y.f2] 187)).drew.heap[w2.heap.size]? = some (.cells #[.string y.f0, .string y.f1, .string y.f2] 187 (0, 0)) := blk_new w2 _
      have hs3 : (w2.alloc (.cells #[.string y.f0, .string y.f1, .string y.f2] 187)).drew.heap.size = w2.heap.size + 1 := Array.size_push _
      obtain ⟨w3, hw3⟩ : ∃ w3, w3 = (w2.alloc (.cells #[.string y.f0, .string y.f1, .string y.f2] 187)).drew := ⟨_, rfl⟩
      rw [← hw3] at hb3 hq hs3 ⊢
      have HRq : Aside0 (Rsk w3 r base (fun k => ok k ∧ k ≠ w2.heap.size) L o2 l2) := ⟨(HR2.out.mono (fun k hk _ hlt => ⟨hk, by omega⟩) (fun k hk => HR2.out.ne k hk.1)).below hb3⟩
      have hrq : r < w2.heap.size := HR2.out.lt
      have Hb3 := Aside0.mk hb3
      have Hs3 := Aside0.mk hs3
      have Hq := Aside0.mk hq
      obtain ⟨q, hqq⟩ : ∃ q, q = w2.heap.size := ⟨_, rfl⟩
      have HQ := Aside0.mk hqq
      rw [← hqq] at hrq HRq Hs3 Hq ⊢
      clear hb3 hs3 hq hw3 hqq d0 q0 q1 q2 hHeld
      go_wp2_with (first
        | ((with_reducible refine gate_callee (f := 177) rfl ?_); refine goesL_ (some 25) rfl rfl Try.func177 (by kernel_rfl) rfl #[.pointer (some ⟨r, 0, none⟩), .string s] rfl (by (try simp only [List.map_toArray, List.map_cons, List.map_nil]); first | done | rfl) ?_; refine (out_c _ _ _ _ _ _ s _ HRq.out hL (by have h1 := HK2.out.size; have h2 := HQ.out; have h3 := Hs3.out; omega) (fun k hk => ⟨HF.out k (by have h1 := HK2.out.size; have h2 := HQ.out; have h3 := Hs3.out; omega), by have h3 := Hs3.out; omega⟩)).mono ?_; rintro e w4 ⟨rfl, h4, k4⟩; refine ⟨_, rfl, ?_⟩; have hq4 := k4.blk Hq.out (by have h5 := hrq; omega); have u0 : w4.cell? ⟨q, 0, none⟩ = some (.string y.f0) := (by rw [blk_cell hq4]; rfl); have u1 : w4.cell? ⟨q, 1, none⟩ = some (.string y.f1) := (by rw [blk_cell hq4]; rfl); have u2 : w4.cell? ⟨q, 2, none⟩ = some (.string y.f2) := (by rw [blk_cell hq4]; rfl); have uf := blk_frozen hq4 0; have HR4 := Aside0.mk h4; have HK4 := Aside0.mk k4; clear h4 k4 hq4)
        | ((with_reducible refine gate_callee (f := 175) rfl ?_); refine goesL_ (some 30) rfl rfl Try.func175 (by kernel_rfl) rfl #[.pointer (some ⟨r, 0, none⟩), .agg #[.string nm, .string y.f1, .string y.f2]] rfl (by (try simp only [List.map_toArray, List.map_cons, List.map_nil]); first | done | rfl) ?_; have hset := Kb.set (fun k => k = q) w4 ⟨q, 0, none⟩ (.string nm) rfl; refine (put_c _ _ _ _ _ _ ⟨nm, y.f1, y.f2⟩ _ (HR4.out.kb hset (by have h5 := hrq; omega) (fun k hk => hk.2)) (Nat.le_trans (List.length_filter_le _ _) hL) (by have h1 := HK2.out.size; have h2 := HQ.out; have h3 := Hs3.out; have h4 := HK4.out.size; have h6 := hset.size; omega) (fun k hk => ⟨HF.out k (by have h1 := HK2.out.size; have h2 := HQ.out; have h3 := Hs3.out; have h4 := HK4.out.size; have h6 := hset.size; omega), by have h3 := Hs3.out; have h4 := HK4.out.size; have h6 := hset.size; omega⟩)).mono ?_; rintro e w6 ⟨rfl, h6, k6⟩; refine ⟨_, rfl, ?_⟩; have HR6 := Aside0.mk h6; have HK6 := Aside0.mk k6; clear h6 k6 hset)
        | fail)
      go_ret
      refine ⟨rfl, HR6.out.mono (fun k hk _ _ => hk.1) HR.out.ne, ?_⟩
      have e1 : Kb (fun k => k = r ∨ k = q) W w6 := (HK2.out.mono (fun k _ e => .inl e)).trans ((Kb.of_below _ Hb3.out).trans ((HK4.out.mono (fun k _ e => .inl e)).trans ((Kb.set _ w4 ⟨q, 0, none⟩ _ (.inr rfl)).trans (HK6.out.mono (fun k _ e => .inl e)))))
      exact e1.mono (fun k hk e => by have h1 := HK2.out.size; have h2 := HQ.out; omega)
  · rw [if_neg (by decide)]
    go_enter Try.func129, Try.ntmps129
    go_wp2_with (first
      | ((with_reducible refine gate_callee (f := 176) rfl ?_); refine goesL_ (some 11) rfl rfl Try.func176 (by kernel_rfl) rfl #[.pointer (some ⟨r, 0, none⟩), .string s] rfl (by (try simp only [List.map_toArray, List.map_cons, List.map_nil]); first | done | rfl) ?_; refine (asked_c _ _ _ _ _ _ s _ HR.out hl hL).mono ?_; rintro e w2 ⟨he, h2, k2⟩; rw [← HZ.out] at he h2; subst he; refine ⟨_, rfl, ?_⟩; have HR2 := Aside0.mk h2; have HK2 := Aside0.mk k2; clear h2 k2)
      | fail)
    go_ret
    exact ⟨rfl, HR2.out, HK2.out⟩
  · rw [if_neg (by decide)]
    go_enter Try.func129, Try.ntmps129
    go_wp2_with (first
      | ((with_reducible refine gate_callee (f := 176) rfl ?_); refine goesL_ (some 11) rfl rfl Try.func176 (by kernel_rfl) rfl #[.pointer (some ⟨r, 0, none⟩), .string s] rfl (by (try simp only [List.map_toArray, List.map_cons, List.map_nil]); first | done | rfl) ?_; refine (asked_c _ _ _ _ _ _ s _ HR.out hl hL).mono ?_; rintro e w2 ⟨he, h2, k2⟩; rw [← HZ.out] at he h2; subst he; refine ⟨_, rfl, ?_⟩; have HR2 := Aside0.mk h2; have HK2 := Aside0.mk k2; clear h2 k2)
      | fail)
    go_ret
    exact ⟨rfl, HR2.out, HK2.out⟩
end Go.Proofs.Ytobgijpbfmpdaaa.Rk
/- prompterref25.Disk: Crash. -/
set_option linter.unusedVariables false
set_option linter.unusedSimpArgs false
set_option maxRecDepth 100000
namespace Go.Proofs.Ytobgijpbfmpdaaa.Rk
open Go.RowKit Go.Proofs.YtobgijpbfmpdaaaW.PrintWords Go.Proofs.YtobgijpbfmpdaaaW.PrintLast Go.Proofs.YtobgijpbfmpdaaaW.PrintMore
open Go.Proofs.Ytobgijpbfmpdaaa.Fm Go.Proofs.Ytobgijpbfmpdaaa.Mp Go.Proofs.Ytobgijpbfmpdaaa.PDq
set_option maxHeartbeats 8000000
theorem row_crash {W : World} {base g n cap : Nat} {ok : Nat → Prop} {L : List S187} (h : Kd.R k187 187 W base ok (.slice (some ⟨g, 0, none⟩) n cap) L) (i : Nat) (hi : i < L.length) (y : S187) (hy : y = rd_T187 L (i : Int)) (u v : ByteArray) :
    Kd.R k187 187 ((W.setCell ⟨g, i * 3 + 1, none⟩ (.string u)).setCell ⟨g, i * 3 + 2, none⟩ (.string v)) base ok (.slice (some ⟨g, 0, none⟩) n cap) (L.set i ⟨y.f0, u, v⟩) ∧ Kb (fun k => k = g) W ((W.setCell ⟨g, i * 3 + 1, none⟩ (.string u)).setCell ⟨g, i * 3 + 2, none⟩ (.string v)) := by
  have hn : n = L.length := (Kd.R_reads' h).1
  have step : ∀ (W : World) (L : List S187) (h : Kd.R k187 187 W base ok (.slice (some ⟨g, 0, none⟩) n cap) L) (hi : i < L.length) (hn : n = L.length) (x : S187) (hx : x = rd_T187 L (i : Int)) (j : Nat) (hj : j < 3) (u : ByteArray) (x' : S187)
      (hc : [Value.string x.f0, .string x.f1, .string x.f2].take j ++ [Value.string u] ++ [Value.string x.f0, .string x.f1, .string x.f2].drop (j + 1) = [.string x'.f0, .string x'.f1, .string x'.f2]),
      Kd.R k187 187 (W.setCell ⟨g, i * 3 + j, none⟩ (.string u)) base ok (.slice (some ⟨g, 0, none⟩) n cap) (L.set i x') := by
    intro W L h hi hn x hx j hj u x' hc
    obtain ⟨ad, eA, q0, q1, q2⟩ := at_T187 (Kd.R_reads' h).2.2 (i : Int) (by omega) (by omega)
    injection eA with eA
    subst eA
    rw [Int.toNat_natCast, ← hx] at q0 q1 q2
    have hz : (⟨g, 0, none⟩ : Addr).add (i * 3) = ⟨g, i * 3, none⟩ := add_plain _ _
    rw [hz] at q0 q1 q2
    have := (Kd.R_seg h (i : Int) (by omega) (by omega) (c := [.string x.f0, .string x.f1, .string x.f2]) (seg := [.string u]) (j := j) rfl (fun j' u' hu => by
      rw [Int.toNat_natCast]
      match j', hu with
      | 0, hu => injection hu with hu; subst hu; exact q0
      | 1, hu => injection hu with hu; subst hu; exact q1
      | 2, hu => injection hu with hu; subst hu; exact q2
      | k + 3, hu => simp at hu) (by show j + 1 ≤ 3; omega) (x' := x') (okp := fun _ => False) (by rw [show j + [Value.string u].length = j + 1 from rfl, hc]; exact k187_mkM _ _ _ _) (fun k hk => hk.elim)).1
    rw [Int.toNat_natCast] at this
    exact this
  refine ⟨?_, (Kb.set (fun k => k = g) _ _ _ rfl).trans (Kb.set (fun k => k = g) _ _ _ rfl)⟩
  have h1 := step W L h hi hn y hy 1 (by omega) u ⟨y.f0, u, y.f2⟩ rfl
  have h2 := step _ _ h1 (by rw [List.length_set]; exact hi) (by rw [List.length_set]; exact hn) ⟨y.f0, u, y.f2⟩ (by rw [rd_at (by rw [List.length_set]; exact hi)]; simp) 2 (by omega) v ⟨y.f0, u, v⟩ rfl
  rw [List.set_set] at h2
  exact h2
theorem str_ext_size (s : ByteArray) (n : Nat) : (s.extract 0 n).size ≤ s.size := by
  rw [ByteArray.size_extract]; omega
theorem run_slice_to (w : World) (s : ByteArray) (n : Nat) (h : n ≤ s.size) : (Instr.slice 9 (.string s) none (some (.int .i64 (n : Int))) none).run Try.prog w = .ok (.string (s.extract 0 n)) w := by
  rw [run_slice_string_to_if _ _ _ _ _ Try.underlying9]
  rw [if_pos (by omega)]
  simp
theorem rsk_crash {W5 : World} {r base gr n c i : Nat} {ok : Nat → Prop} {l : List S187} {off : Bool} {left : Int} {y : S187} (u v : ByteArray) (H1 : W5.heap[r]? = some (.cells #[.slice (some ⟨gr, 0, none⟩) n c, .bool off, .int .i64 left] 182 (0, 0))) (H2 : Kd.R k187 187 W5 base ok (.slice (some ⟨gr, 0, none⟩) n c) l) (hne : ∀ k, ok k → k ≠ r)
    (hi : i < l.length) (hy : y = rd_T187 l (i : Int)) : Rsk ((W5.setCell ⟨gr, i * 3 + 1, none⟩ (.string u)).setCell ⟨gr, i * 3 + 2, none⟩ (.string v)) r base ok (l.set i ⟨y.f0, u, v⟩) off left ∧ Kb (fun k => k = r ∨ ok k) W5 ((W5.setCell ⟨gr, i * 3 + 1, none⟩ (.string u)).setCell ⟨gr, i * 3 + 2, none⟩ (.string v)) := by
  obtain ⟨h1, h2⟩ := row_crash H2 i hi y hy u v
  have hok : ok gr := H2.1 gr rfl
  have hn : n = l.length := (Kd.R_reads' H2).1
  refine ⟨⟨⟨some ⟨gr, 0, none⟩, c, ?_, ?_⟩, hne⟩, h2.mono (fun k _ e => .inr (e ▸ hok))⟩
  · rw [List.length_set, ← hn]
    exact h2.blk H1 (fun e => hne gr hok e.symm)
  · rw [List.length_set, ← hn]
    exact h1
theorem cell_next {W5 : World} {gr j t : Nat} {cells : Array Value} (h : W5.heap[gr]? = some (.cells cells t (0, 0))) (v : Value) : (W5.setCell ⟨gr, j, none⟩ v).cell? ⟨gr, j + 1, none⟩ = W5.cell? ⟨gr, j + 1, none⟩ := by
  rw [blk_cell (blk_put h j v rfl), blk_cell h]
  exact Array.getElem?_setIfInBounds_ne (by omega)
theorem cell_far {W5 : World} {gr j r t : Nat} {cells : Array Value} (h : W5.heap[r]? = some (.cells cells t (0, 0))) (hne : r ≠ gr) (v : Value) (o : Nat) : (W5.setCell ⟨gr, j, none⟩ v).cell? ⟨r, o, none⟩ = W5.cell? ⟨r, o, none⟩ := by
  have h2 : (W5.setCell ⟨gr, j, none⟩ v).heap[r]? = some (.cells cells t (0, 0)) := (Below.heap_setCell W5 ⟨gr, j, none⟩ v r hne).trans h
  rw [blk_cell h2, blk_cell h]
theorem sz_nil {s : ByteArray} (h : s.size = 0) : s.toList.isEmpty = true := by
  rw [ByteArray.toList_eq]; exact List.isEmpty_iff.2 (List.eq_nil_of_length_eq_zero (by rw [Array.length_toList]; exact h))
theorem sz_pos {s : ByteArray} (h : ¬ s.size = 0) : s.toList.isEmpty = false := by
  rw [ByteArray.toList_eq]
  cases h2 : s.data.toList with
  | nil => exact absurd (by have h3 := congrArg List.length h2; rw [Array.length_toList] at h3; exact h3) h
  | cons a b => rfl
theorem crsL_len (keep : List Int) (L : List S187) : (crsL keep L).1.length = L.length := by
  have h : ∀ (L : List S187) (a : List S187 × Nat), (L.foldl (crsStep keep) a).1.length = a.1.length + L.length := by
    intro L
    induction L with
    | nil => intro a; rfl
    | cons x r ih =>
      intro a
      rw [List.foldl_cons, ih]
      unfold crsStep
      split <;> simp <;> omega
  have := h L ([], 0)
  unfold crsL
  simpa using this
theorem crs_next (keep : List Int) {L l : List S187} {i : Nat} (hl : l = (crsL keep (L.take i)).1 ++ L.drop i) (hi : i < L.length) {y : S187} (hy : y = rd_T187 l (i : Int)) :
    if y.f2.size = 0 then (crsL keep (L.take (i + 1))).1 ++ L.drop (i + 1) = l ∧ (crsL keep (L.take i)).2 = (crsL keep (L.take (i + 1))).2
    else (crsL keep (L.take (i + 1))).1 ++ L.drop (i + 1) = l.set i ⟨y.f0, y.f1 ++ y.f2.extract 0 (keepN keep (crsL keep (L.take i)).2 y.f2.size), ByteArray.empty⟩ ∧ (crsL keep (L.take i)).2 + 1 = (crsL keep (L.take (i + 1))).2 := by
  have h5 := crsL_len keep (L.take i)
  rw [List.length_take_of_le (by omega)] at h5
  have hd : L.drop i = L[i] :: L.drop (i + 1) := List.drop_eq_getElem_cons hi
  have h3 : y = L[i] := by
    rw [hy, rd_at (by rw [hl, List.length_append, h5, List.length_drop]; omega)]
    have h6 : l[i]? = L[i]? := by rw [hl, List.getElem?_append_right (by omega), h5, Nat.sub_self, List.getElem?_drop, Nat.add_zero]
    rw [List.getElem?_eq_getElem (by rw [hl, List.length_append, h5, List.length_drop]; omega), List.getElem?_eq_getElem hi] at h6
    injection h6
  have ht : crsL keep (L.take (i + 1)) = crsStep keep (crsL keep (L.take i)) y := by rw [List.take_succ_eq_append_getElem hi, crsL_snoc, h3]
  rw [ht, hl, hd, ← h3]
  unfold crsStep
  split
  · exact ⟨by simp, rfl⟩
  · refine ⟨?_, rfl⟩
    rw [List.set_append_right _ _ (by omega), h5, Nat.sub_self, List.set_cons_zero]
    simp
theorem crash_c (r base : Nat) (ok : Nat → Prop) (L : List S187) (off : Bool) (left : Int) (A0 : Option Addr) (c0_ : Nat) (keep : List Int) (W : World) (h : Rsk W r base ok L off left) (hL : L.length ≤ 1000000) (hsz : ∀ y ∈ L, y.f1.size + y.f2.size ≤ 1000000) (hK : Kd.F (Kd.int .i64) W (fun k => k ≠ r ∧ ¬ ok k) A0 keep.length keep) :
    Calls Try.prog 132 #[.pointer (some ⟨r, 0, none⟩), .slice A0 keep.length c0_] W fun e W' => e = .returned (.tuple #[]) ∧ Rsk W' r base ok (crsL keep L).1 false (-1) ∧ Kb (fun k => k = r ∨ ok k) W W' := by
  have HR := Aside0.mk h
  have HK := Aside0.mk hK
  have HS := Aside0.mk hsz
  have hkl : keep.length ≤ 9223372036854775807 := Kd.F_max hK
  clear h hK hsz
  go_enter Try.func132, Try.ntmps132
  go_wp2
  go_loopg [4, 5] L.length (fun kk v4 v5 wr => ∃ (i k : Nat) (l : List S187), v4 = .int .i64 k ∧ v5 = .int .i64 i ∧ Aside0 (i ≤ L.length ∧ kk = L.length - i ∧ k = (crsL keep (L.take i)).2 ∧ k ≤ i) ∧ Aside0 (l = (crsL keep (L.take i)).1 ++ L.drop i ∧ l.length = L.length) ∧
    Aside0 (Rsk wr r base ok l off left) ∧ Aside0 (Kb (fun k => k = r ∨ ok k) W wr))
  case atStart => exact ⟨0, 0, L, rfl, rfl, ⟨Nat.zero_le _, rfl, rfl, Nat.le_refl _⟩, ⟨rfl, rfl⟩, HR, ⟨Kb.refl _ _⟩⟩
  case round =>
    obtain ⟨i, k, l, rfl, rfl, hi, Hl, HI, HB⟩ := hrel
    obtain ⟨A, c, h1, h2⟩ := HI.out.ex
    rw [Hl.out.2] at h1 h2
    have d0 : wr.cell? ⟨r, 0, none⟩ = some (.slice A L.length c) := by rw [blk_cell h1]; rfl
    by_cases hlt : i < L.length
    · have e1 : decide ((i : Int) < (L.length : Int)) = true := decide_eq_true (by omega)
      have e2 : decide (i < L.length) = true := decide_eq_true hlt
      have e3 : (i : Int) < (L.length : Int) := by omega
      have e4 : (0 : Int) ≤ (i : Int) := by omega
      obtain ⟨y, hy⟩ : ∃ y, y = rd_T187 l (i : Int) := ⟨_, rfl⟩
      have hil : i < l.length := by rw [Hl.out.2]; exact hlt
      obtain ⟨ad, eA, q0, q1, q2⟩ := at_T187 (show Kd.C k187 wr A l.length l by rw [← Hl.out.2] at h2; exact (Kd.R_reads' h2).2.2) (i : Int) e4 (by omega)
      subst eA
      obtain ⟨gr, hgr⟩ := Kd.R_head h2
      subst hgr
      have hz : (⟨gr, 0, none⟩ : Addr).add (i * 3) = ⟨gr, i * 3, none⟩ := add_plain _ _
      rw [Int.toNat_natCast, ← hy, hz] at q0 q1 q2
      dsimp only at q1 q2
      have hsy : y.f1.size + y.f2.size ≤ 1000000 := by
        have h3 : y = L[i] := by
          rw [hy, rd_at hil]
          have h4 := Hl.out.1
          have h5 := crsL_len keep (L.take i)
          rw [List.length_take_of_le (by omega)] at h5
          have h6 : l[i]? = L[i]? := by
            rw [h4, List.getElem?_append_right (by omega), h5, Nat.sub_self, List.getElem?_drop, Nat.add_zero]
          rw [List.getElem?_eq_getElem hil, List.getElem?_eq_getElem hlt] at h6
          injection h6
        rw [h3]
        exact HS.out _ (List.getElem_mem hlt)
      have grl : gr < wr.heap.size := World.block_lt_of_cell? _ _ q0
      have hk6 : (k : Int) ≤ 1000000 := by have := hi.out; omega
      have H1 := Aside0.mk h1
      have H2 := Aside0.mk h2
      have HY := Aside0.mk hy
      have hst := crs_next keep Hl.out.1 hlt hy
      rw [← hi.out.2.2.1] at hst
      have HST := Aside0.mk hst
      clear h1 h2 hy hz hst
      by_cases hw0 : y.f2.size = 0
      · have he : y.f2.toList.isEmpty = true := sz_nil hw0
        have HW0 := Aside0.mk hw0
        clear hw0
        go_wp2_with (fail)
        go_roundg (L.length - (i + 1))
        case measure => have := hi.out; omega
        case rel =>
          have h3 := HST.out
          rw [if_pos HW0.out] at h3
          exact ⟨i + 1, k, l, rfl, by simp, ⟨by omega, rfl, h3.2, by have := hi.out; omega⟩, ⟨h3.1.symm, Hl.out.2⟩, ⟨HI.out.below (below_alloc (Below.refl _ _) _)⟩, ⟨HB.out.trans (Kb.of_below _ (below_alloc (Below.refl _ _) _))⟩⟩
      · have he : y.f2.toList.isEmpty = false := sz_pos hw0
        obtain ⟨nn, hnn⟩ : ∃ nn, nn = keepN keep k y.f2.size := ⟨_, rfl⟩
        have hnl : nn ≤ y.f2.size := by rw [hnn]; unfold keepN; split <;> omega
        have HW0 := Aside0.mk hw0
        have Hnn := Aside0.mk hnn
        clear hw0 hnn
        by_cases hik : k < keep.length
        · have hik1 : decide ((k : Int) < (keep.length : Int)) = true := decide_eq_true (by omega)
          have hik2 : decide (k < keep.length) = true := decide_eq_true hik
          have hik3 : (k : Int) < (keep.length : Int) := by omega
          have hmm : max 0 (min (rd keep (k : Int)) (y.f2.size : Int)) = (nn : Int) := by
            rw [Hnn.out]; unfold keepN; rw [if_pos hik3]; omega
          obtain ⟨ak, hAk, hck⟩ := Kd.at_int (Kd.F_now (Kd.F_step HK.out (fun q hq hlt => HB.out.block q hlt (fun e => by rcases e with e | e; exact hq.1 e; exact hq.2 e)))) (k : Int) (by omega) hik3
          subst hAk
          rw [Int.toNat_natCast] at hck
          have hckl := World.block_lt_of_cell? _ _ hck
          go_wp2_with (first
            | go_quiet (fail))
          obtain ⟨q, hq⟩ : ∃ q, q = wr.heap.size := ⟨_, rfl⟩
          rw [← hq]
          have hq5 : ((wr.alloc (.cells #[.string y.f0, .string y.f1, .string y.f2] 187)).drewN nq).heap[q]? = some (.cells #[.string y.f0, .string y.f1, .string y.f2] 187 (0, 0)) := by rw [hq]; exact blk_new wr _
          have hB5 : Below wr.heap.size wr ((wr.alloc (.cells #[.string y.f0, .string y.f1, .string y.f2] 187)).drewN nq) := pw_below_drewN (below_alloc (Below.refl _ _) _) _
          obtain ⟨w5, hw5⟩ : ∃ w5, w5 = (wr.alloc (.cells #[.string y.f0, .string y.f1, .string y.f2] 187)).drewN nq := ⟨_, rfl⟩
          rw [← hw5] at hq5 hB5 ⊢
          have d5 : w5.cell? ⟨r, 0, none⟩ = some (.slice (some ⟨gr, 0, none⟩) L.length c) := pw_cell_below hB5 d0
          have p1 : w5.cell? ⟨q, 1, none⟩ = some (.string y.f1) := by rw [blk_cell hq5]; rfl
          have p2 : w5.cell? ⟨q, 2, none⟩ = some (.string y.f2) := by rw [blk_cell hq5]; rfl
          have g1 : w5.cell? ⟨gr, i * 3 + 1, none⟩ = some (.string y.f1) := pw_cell_below hB5 q1
          have g2 : w5.cell? ⟨gr, i * 3 + 2, none⟩ = some (.string y.f2) := pw_cell_below hB5 q2
          obtain ⟨g0_, c0x, hv_, _, _, cells_, hcells_⟩ := Kd.R_form H2.out (by have := Hl.out.2; omega)
          injection hv_ with hA_ h7_ h8_
          clear h7_ h8_
          injection hA_ with hA_
          injection hA_ with hA_
          subst hA_
          have hcells5 := blk_below hcells_ hB5
          have fgr : ∀ j, w5.frozen? ⟨gr, j, none⟩ = false := fun j => blk_frozen (blk_below hcells_ hB5) j
          have fg1 := fgr (i * 3 + 1)
          have fg2 := fgr (i * 3 + 2)
          have hrg : r ≠ gr := fun e => HI.out.ne gr (H2.out.1 gr rfl) e.symm
          have hqg : ¬ q = gr := by omega
          have hql : q < w5.heap.size := by rw [hq]; exact blk_lt (hq ▸ hq5)
          have hrl : r < w5.heap.size := World.block_lt_of_cell? _ _ d5
          have grl5 : gr < w5.heap.size := World.block_lt_of_cell? _ _ g1
          obtain ⟨u, hu⟩ : ∃ u, u = y.f2.extract 0 nn := ⟨_, rfl⟩
          have hus : y.f1.size + u.size ≤ 1000000 := by have h3 := str_ext_size y.f2 nn; rw [← hu] at h3; omega
          have HB5 := Aside0.mk hB5
          have HU := Aside0.mk hu
          have hsl : ∀ w, (Instr.slice 9 (.string y.f2) none (some (.int .i64 nn)) none).run Try.prog w = .ok (.string u) w := fun w => by rw [hu]; exact run_slice_to w _ _ (by omega)
          clear hq hq5 fgr hcells_ q0 q1 q2 d0 hu grl hw5 hmm hck hckl
          have HH5 := Aside0.mk (blk_below H1.out hB5)
          have HHG := Aside0.mk hcells5
          clear hB5 hcells5
          go_region
          have hn6 := cell_next HHG.out (j := i * 3 + 1) (.string (y.f1 ++ u))
          have hf6 := cell_far HH5.out hrg (gr := gr) (j := i * 3 + 1) (.string (y.f1 ++ u)) 0
          rw [d5] at hf6
          rw [g2] at hn6
          have hz6 := blk_frozen (blk_put HHG.out (i * 3 + 1) (.string (y.f1 ++ u)) rfl) (i * 3 + 2)
          have hs6 : w5.heap.size ≤ (w5.setCell ⟨gr, i * 3 + 1, none⟩ (.string (y.f1 ++ u))).heap.size := (Kb.set (fun k => k = gr) w5 ⟨gr, i * 3 + 1, none⟩ (.string (y.f1 ++ u)) rfl).size
          have HE := rsk_crash (y.f1 ++ u) ByteArray.empty HH5.out (Kd.R_below H2.out HB5.out) HI.out.ne hil HY.out
          obtain ⟨w6, hw6⟩ : ∃ w6, w6 = w5.setCell ⟨gr, i * 3 + 1, none⟩ (.string (y.f1 ++ u)) := ⟨_, rfl⟩
          rw [← hw6] at hn6 hf6 hz6 hs6 HE ⊢
          have HE := Aside0.mk HE
          clear hw6 d5 p1 p2 g1 g2 fg1 fg2 hsl
          go_wp2_with (fail)
          go_roundg (L.length - (i + 1))
          case measure => have := hi.out; omega
          case rel =>
            have h3 := HST.out
            rw [if_neg HW0.out, ← Hnn.out, ← HU.out] at h3
            refine ⟨i + 1, k + 1, _, by simp, by simp, ⟨by omega, rfl, h3.2, by have := hi.out; omega⟩, ⟨h3.1.symm, by rw [List.length_set]; exact Hl.out.2⟩, ⟨HE.out.1.below (below_drew (Below.refl _ _))⟩, ⟨(HB.out.trans (Kb.of_below _ HB5.out)).trans (HE.out.2.trans (Kb.of_below _ (below_drew (Below.refl _ _))))⟩⟩
        · have hik1 : decide ((k : Int) < (keep.length : Int)) = false := decide_eq_false (by omega)
          have hik2 : decide (k < keep.length) = false := decide_eq_false hik
          have hn0 : nn = 0 := by rw [Hnn.out]; unfold keepN; rw [if_neg (by omega)]
          subst hn0
          go_wp2_with (fail)
          obtain ⟨q, hq⟩ : ∃ q, q = wr.heap.size := ⟨_, rfl⟩
          rw [← hq]
          have hq5 : (wr.alloc (.cells #[.string y.f0, .string y.f1, .string y.f2] 187)).heap[q]? = some (.cells #[.string y.f0, .string y.f1, .string y.f2] 187 (0, 0)) := by rw [hq]; exact blk_new wr _
          have hB5 : Below wr.heap.size wr (wr.alloc (.cells #[.string y.f0, .string y.f1, .string y.f2] 187)) := below_alloc (Below.refl _ _) _
          obtain ⟨w5, hw5⟩ : ∃ w5, w5 = wr.alloc (.cells #[.string y.f0, .string y.f1, .string y.f2] 187) := ⟨_, rfl⟩
          rw [← hw5] at hq5 hB5 ⊢
          have d5 : w5.cell? ⟨r, 0, none⟩ = some (.slice (some ⟨gr, 0, none⟩) L.length c) := pw_cell_below hB5 d0
          have p1 : w5.cell? ⟨q, 1, none⟩ = some (.string y.f1) := by rw [blk_cell hq5]; rfl
          have p2 : w5.cell? ⟨q, 2, none⟩ = some (.string y.f2) := by rw [blk_cell hq5]; rfl
          have g1 : w5.cell? ⟨gr, i * 3 + 1, none⟩ = some (.string y.f1) := pw_cell_below hB5 q1
          have g2 : w5.cell? ⟨gr, i * 3 + 2, none⟩ = some (.string y.f2) := pw_cell_below hB5 q2
          obtain ⟨g0_, c0x, hv_, _, _, cells_, hcells_⟩ := Kd.R_form H2.out (by have := Hl.out.2; omega)
          injection hv_ with hA_ h7_ h8_
          clear h7_ h8_
          injection hA_ with hA_
          injection hA_ with hA_
          subst hA_
          have hcells5 := blk_below hcells_ hB5
          have fgr : ∀ j, w5.frozen? ⟨gr, j, none⟩ = false := fun j => blk_frozen (blk_below hcells_ hB5) j
          have fg1 := fgr (i * 3 + 1)
          have fg2 := fgr (i * 3 + 2)
          have hrg : r ≠ gr := fun e => HI.out.ne gr (H2.out.1 gr rfl) e.symm
          have hqg : ¬ q = gr := by omega
          have hql : q < w5.heap.size := by rw [hq]; exact blk_lt (hq ▸ hq5)
          have hrl : r < w5.heap.size := World.block_lt_of_cell? _ _ d5
          have grl5 : gr < w5.heap.size := World.block_lt_of_cell? _ _ g1
          obtain ⟨u, hu⟩ : ∃ u, u = y.f2.extract 0 0 := ⟨_, rfl⟩
          have hus : y.f1.size + u.size ≤ 1000000 := by have h3 := str_ext_size y.f2 0; rw [← hu] at h3; omega
          have HB5 := Aside0.mk hB5
          have HU := Aside0.mk hu
          have hsl : ∀ w, (Instr.slice 9 (.string y.f2) none (some (.int .i64 0)) none).run Try.prog w = .ok (.string u) w := fun w => by rw [hu]; exact run_slice_to w _ _ (by omega)
          clear hq hq5 fgr hcells_ q0 q1 q2 d0 hu grl hw5 
          have HH5 := Aside0.mk (blk_below H1.out hB5)
          have HHG := Aside0.mk hcells5
          clear hB5 hcells5
          go_region
          have hn6 := cell_next HHG.out (j := i * 3 + 1) (.string (y.f1 ++ u))
          have hf6 := cell_far HH5.out hrg (gr := gr) (j := i * 3 + 1) (.string (y.f1 ++ u)) 0
          rw [d5] at hf6
          rw [g2] at hn6
          have hz6 := blk_frozen (blk_put HHG.out (i * 3 + 1) (.string (y.f1 ++ u)) rfl) (i * 3 + 2)
          have hs6 : w5.heap.size ≤ (w5.setCell ⟨gr, i * 3 + 1, none⟩ (.string (y.f1 ++ u))).heap.size := (Kb.set (fun k => k = gr) w5 ⟨gr, i * 3 + 1, none⟩ (.string (y.f1 ++ u)) rfl).size
          have HE := rsk_crash (y.f1 ++ u) ByteArray.empty HH5.out (Kd.R_below H2.out HB5.out) HI.out.ne hil HY.out
          obtain ⟨w6, hw6⟩ : ∃ w6, w6 = w5.setCell ⟨gr, i * 3 + 1, none⟩ (.string (y.f1 ++ u)) := ⟨_, rfl⟩
          rw [← hw6] at hn6 hf6 hz6 hs6 HE ⊢
          have HE := Aside0.mk HE
          clear hw6 d5 p1 p2 g1 g2 fg1 fg2 hsl
          go_wp2_with (fail)
          go_roundg (L.length - (i + 1))
          case measure => have := hi.out; omega
          case rel =>
            have h3 := HST.out
            rw [if_neg HW0.out, ← Hnn.out, ← HU.out] at h3
            refine ⟨i + 1, k + 1, _, by simp, by simp, ⟨by omega, rfl, h3.2, by have := hi.out; omega⟩, ⟨h3.1.symm, by rw [List.length_set]; exact Hl.out.2⟩, ⟨HE.out.1.below (below_drew (Below.refl _ _))⟩, ⟨(HB.out.trans (Kb.of_below _ HB5.out)).trans (HE.out.2.trans (Kb.of_below _ (below_drew (Below.refl _ _))))⟩⟩
    · have hie : i = L.length := by have := hi.out.1; omega
      subst hie
      have e1 : decide ((L.length : Int) < (L.length : Int)) = false := decide_eq_false (by omega)
      have e2 : decide (L.length < L.length) = false := decide_eq_false (by omega)
      have c1 := HI.out.c1
      have f1 := HI.out.fr 1
      have c2 := (set1 HI.out false).c2
      have f2 := (set1 HI.out false).fr 2
      have hl : l = (crsL keep L).1 := by
        have h3 := Hl.out.1
        rw [List.take_length, List.drop_length, List.append_nil] at h3
        exact h3
      subst hl
      clear h1 h2
      go_wp2_with (fail)
      go_end0
      exact ⟨rfl, set2 (set1 HI.out _) _, HB.out.trans (((kset _ _ _ _).trans (kset _ _ _ _)).mono (fun k _ e => .inl e))⟩
end Go.Proofs.Ytobgijpbfmpdaaa.Rk
/- DiskScript: what a step comes to on both sides. -/
set_option linter.unusedVariables false
set_option linter.unusedSimpArgs false
set_option maxRecDepth 100000
namespace Go.Proofs.Ytobgijpbfmpdaaa.Rk
open Go.RowKit Go.Proofs.YtobgijpbfmpdaaaW.PrintWords Go.Proofs.YtobgijpbfmpdaaaW.PrintLast Go.Proofs.YtobgijpbfmpdaaaW.PrintMore
open Go.Proofs.Ytobgijpbfmpdaaa.Fm Go.Proofs.Ytobgijpbfmpdaaa.Mp Go.Proofs.Ytobgijpbfmpdaaa.PDq
open Go.Proofs.Ytobgijpbfmpdaaa.Dk (Cont Fls cur Dsk)

def Zok (z : Int) : Prop := -1 ≤ z ∧ z ≤ 9223372036854775807
section
variable {F : Fls} {i m : Nat} {off : Bool} {z : Int}
theorem ask_zok (hz : Zok z) (L : List S187) (s : ByteArray) : Zok (askR off z L s).2.2 := by
  unfold askR failR Zok at *
  split
  · exact hz
  split
  · exact hz
  split <;> (dsimp only; split <;> (try split) <;> (dsimp only; omega))
theorem ask_pack (hz : Zok z) (s : ByteArray) {F' : Fls} (hG : Ls.Good F i m) {m' : Nat} (hG' : Ls.Good F' (i + 1) m') (hm : m ≤ m') (hF : Mp.get F s.data.toList ≠ none → True) :
    ∃ ev o' z' F2, Dk.askR off z F F' s.data.toList = (o', z', F2, ev) ∧ askR off z (LF F) s = (ev, o', z') ∧ F2 = (if (askR off z (LF F) s).1 = 0 then F' else F) ∧ Ls.Good F2 (i + 1) m' ∧ Zok z' := by
  refine ⟨_, _, _, _, ask_rel F', rfl, rfl, ?_, ask_zok hz _ _⟩
  split
  · exact hG'
  · exact hG.more (Nat.le_succ _) hm
theorem sync_pack (hz : Zok z) (s : ByteArray) (hG : Ls.Good F i m) (hs : s.size ≤ 100) :
    ∃ ev o' z' F2, Dk.askR off z F (put F s.data.toList ((cur F s.data.toList).1, (cur F s.data.toList).1.length)) s.data.toList = (o', z', F2, ev) ∧ askR off z (LF F) s = (ev, o', z') ∧ synL off z (LF F) s = LF F2 ∧ Ls.Good F2 (i + 1) m ∧ Zok z' := by
  obtain ⟨ev, o', z', F2, h1, h2, h3, h4, h5⟩ := ask_pack (off := off) hz s hG (hG.put s.data.toList ((cur F s.data.toList).1, (cur F s.data.toList).1.length) hs ⟨Nat.le_refl _, (hG.cur _).2⟩ (Nat.le_refl _)) (Nat.le_refl _) (fun _ => trivial)
  exact ⟨ev, o', z', F2, h1, h2, by rw [syn_rel hG.1, h3], h4, h5⟩
theorem rem_pack (hz : Zok z) (s : ByteArray) (hG : Ls.Good F i m) :
    ∃ ev o' z' F2, Dk.askR off z F (Mp.del F s.data.toList) s.data.toList = (o', z', F2, ev) ∧ askR off z (LF F) s = (ev, o', z') ∧ remL off z (LF F) s = LF F2 ∧ Ls.Good F2 (i + 1) m ∧ Zok z' := by
  obtain ⟨ev, o', z', F2, h1, h2, h3, h4, h5⟩ := ask_pack (off := off) hz s hG ((hG.del s.data.toList).more (Nat.le_succ _) (Nat.le_refl _)) (Nat.le_refl _) (fun _ => trivial)
  exact ⟨ev, o', z', F2, h1, h2, by rw [rem_rel, h3], h4, h5⟩
theorem ren_pack (hz : Zok z) (s t : ByteArray) (hG : Ls.Good F i m) (ht : t.size ≤ 100) :
    ∃ ev o' z' F2, Dk.askR off z F (put (Mp.del F s.data.toList) t.data.toList (cur F s.data.toList)) s.data.toList = (o', z', F2, ev) ∧ askR off z (LF F) s = (ev, o', z') ∧ renL off z (LF F) s t = LF F2 ∧ Ls.Good F2 (i + 1) m ∧ Zok z' := by
  obtain ⟨ev, o', z', F2, h1, h2, h3, h4, h5⟩ := ask_pack (off := off) hz s hG ((hG.del s.data.toList).put t.data.toList (cur F s.data.toList) ht (hG.cur _) (Nat.le_refl _)) (Nat.le_refl _) (fun _ => trivial)
  exact ⟨ev, o', z', F2, h1, h2, by rw [ren_rel hG.1, h3], h4, h5⟩
theorem app_pack (hz : Zok z) (s : ByteArray) (x : List Int) (hG : Ls.Good F i m) (hs : s.size ≤ 100) :
    ∃ ev o' z' F2, Dk.appR off z F s.data.toList x = (o', z', F2, ev) ∧ rappR off z (LF F) s x = (ev, o', z', LF F2) ∧ Ls.Good F2 (i + 1) (m + x.length) ∧ Zok z' := by
  have hc := hG.cur s.data.toList
  have g1 : Ls.Good (Dk.appR off z F s.data.toList x).2.2.1 (i + 1) (m + x.length) := by
    have h1 : Ls.Good (put F s.data.toList ((cur F s.data.toList).1 ++ x, (cur F s.data.toList).2)) (i + 1) (m + x.length) := hG.put _ _ hs ⟨by rw [List.length_append]; dsimp only; omega, by rw [List.length_append]; omega⟩ (by omega)
    have h2 := hG.more (i' := i + 1) (m' := m + x.length) (by omega) (by omega)
    unfold Dk.appR Dk.chgR
    split
    · exact h2
    split
    · exact h1
    · exact h1
  have g2 : Zok (Dk.appR off z F s.data.toList x).2.1 := by
    unfold Dk.appR Dk.chgR
    unfold Zok at hz ⊢
    split
    · exact hz
    split
    · dsimp only; omega
    · dsimp only; split <;> omega
  exact ⟨(Dk.appR off z F s.data.toList x).2.2.2, (Dk.appR off z F s.data.toList x).1, (Dk.appR off z F s.data.toList x).2.1, (Dk.appR off z F s.data.toList x).2.2.1, rfl, app_rel hG.1 hc.1, g1, g2⟩
theorem crash_good (hG : Ls.Good F i m) (keep : List Int) : Ls.Good (Dk.crashF keep F) (i + 1) m := by
  have hk := (Dk.crS_keys keep F).1
  refine ⟨Dk.ris_keys hG.1 hk, ?_, ?_⟩
  · have := congrArg List.length hk
    rw [List.length_map, List.length_map] at this
    show (Dk.crS keep F).1.length ≤ i + 1
    have h2 := hG.2.1
    omega
  · have h : ∀ (F : Fls) (a : Fls × Nat), (∀ p ∈ a.1, p.2.2 ≤ p.2.1.length ∧ p.2.1.length ≤ m ∧ p.1.length ≤ 100) → (∀ p ∈ F, p.2.2 ≤ p.2.1.length ∧ p.2.1.length ≤ m ∧ p.1.length ≤ 100) → ∀ p ∈ (F.foldl (Dk.crStep keep) a).1, p.2.2 ≤ p.2.1.length ∧ p.2.1.length ≤ m ∧ p.1.length ≤ 100 := by
      intro F
      induction F with
      | nil => intro a h _; exact h
      | cons q t ih =>
        intro a ha hq
        rw [List.foldl_cons]
        refine ih _ ?_ (fun p hp => hq p (List.mem_cons_of_mem _ hp))
        have h1 := hq q (List.mem_cons_self ..)
        have h2 := Ls.keptN_le keep a.2 q.2
        unfold Dk.crStep
        split
        · intro p hp
          rcases List.mem_append.1 hp with hp | hp
          · exact ha p hp
          · obtain rfl := List.mem_singleton.1 hp; exact h1
        · intro p hp
          rcases List.mem_append.1 hp with hp | hp
          · exact ha p hp
          · obtain rfl := List.mem_singleton.1 hp
            dsimp only
            rw [List.length_take]
            omega
    exact h F ([], 0) (fun p hp => by cases hp) hG.2.2
theorem sizes (hG : Ls.Good F i m) : ∀ y ∈ LF F, y.f1.size + y.f2.size ≤ m := by
  intro y hy
  obtain ⟨p, hp, rfl⟩ := List.mem_map.1 hy
  have := hG.2.2 p hp
  unfold fileS
  dsimp only
  rw [strOfNums_size, strOfNums_size, List.length_drop, List.length_take]
  omega
end
end Go.Proofs.Ytobgijpbfmpdaaa.Rk
/- prompterlaw25.one: a step that is done with both. -/
set_option linter.unusedVariables false
set_option linter.unusedSimpArgs false
set_option maxRecDepth 100000
namespace Go.Proofs.Ytobgijpbfmpdaaa.Rk
open Go.RowKit Go.Proofs.YtobgijpbfmpdaaaW.PrintWords Go.Proofs.YtobgijpbfmpdaaaW.PrintLast Go.Proofs.YtobgijpbfmpdaaaW.PrintMore
open Go.Proofs.Ytobgijpbfmpdaaa.Fm Go.Proofs.Ytobgijpbfmpdaaa.Mp Go.Proofs.Ytobgijpbfmpdaaa.PDq
open Go.Proofs.Ytobgijpbfmpdaaa.Dk (Cont Fls cur Dsk append_dsk sync_dsk rename_dsk remove_dsk fuse_dsk crash_dsk read_dsk)
open Go.Proofs.Ytobgijpbfmpdaaa.PDp (S93)
set_option maxHeartbeats 8000000
def OneP (W0 : World) (g b r : Nat) (i m : Nat) (W' : World) : Prop := ∃ off' z' F', Pair (fun _ => False) W0 W' W0.heap.size g b r off' z' F' off' z' (LF F') ∧ Ls.Good F' i m ∧ Zok z'
theorem len_lt {F : Fls} {i m : Nat} (hG : Ls.Good F i m) (hi : i ≤ 200) : F.length < maxLen := Nat.lt_of_le_of_lt hG.2.1 (Nat.lt_of_le_of_lt hi (by decide))
theorem nm_max {s : ByteArray} (h : s.size ≤ 100) : s.size ≤ maxLen := Nat.le_trans h (by decide)
theorem LF_big {F : Fls} {i m : Nat} (hG : Ls.Good F i m) (hi : i ≤ 200) : (LF F).length ≤ 1000000 := by rw [LF_length]; have := hG.2.1; omega
theorem sz_big {F : Fls} {i m : Nat} (hG : Ls.Good F i m) (hm : m ≤ 10000) : ∀ y ∈ LF F, y.f1.size + y.f2.size ≤ 9223372036854775807 := fun y hy => Nat.le_trans (sizes hG y hy) (Nat.le_trans hm (by decide))
theorem one_1 {W0 W : World} {g b r : Nat} {off : Bool} {z : Int} {F : Fls} {i m : Nat} (x : S93) (Ad : Option Addr) (cd : Nat) (Ak : Option Addr) (ck : Nat)
    (h : Pair (fun _ => False) W0 W W0.heap.size g b r off z F off z (LF F)) (hG : Ls.Good F i m) (hi : i ≤ 200) (hm : m + x.f3.length ≤ 10000) (hz : Zok z) (hs : x.f1.size ≤ 100) (ht : x.f2.size ≤ 100) (hn : x.f4 ≤ 9223372036854775807)
    (hCd : Kd.C (Kd.int .u8) W0 Ad x.f3.length x.f3) (hbx : Crc.bytesOk x.f3 = true) (hCk : Kd.C (Kd.int .i64) W0 Ak x.f5.length x.f5) (hdo : x.f0 = 1) :
    Calls Try.prog 75 #[.pointer (some ⟨g, 0, none⟩), .pointer (some ⟨r, 0, none⟩), .agg #[.int .u8 x.f0, .string x.f1, .string x.f2, .slice Ad x.f3.length cd, .int .i64 x.f4, .slice Ak x.f5.length ck]] W fun e W' => e = .returned (.bool true) ∧ OneP W0 g b r (i + 1) (m + x.f3.length) W' := by
  obtain ⟨ev, o', z', F2, hE, hA, hL, hG2, hz2⟩ := sync_pack (off := off) hz x.f1 hG hs
  have HE := Aside0.mk hE
  have HA := Aside0.mk hA
  have HL := Aside0.mk hL
  clear hE hA hL
  have b0 : (x.f0 == 0) = false := by rw [hdo]; rfl
  have b1 : (x.f0 == 1) = true := by rw [hdo]; rfl
  have h1 := h.below (below_alloc (Below.refl _ W) (.cells #[.int .u8 x.f0, .string x.f1, .string x.f2, .slice Ad x.f3.length cd, .int .i64 x.f4, .slice Ak x.f5.length ck] 93))
  obtain ⟨S, hD, hS, hcl⟩ := h1.dsk
  have HQ := Aside0.mk (blk_new W (.cells #[.int .u8 x.f0, .string x.f1, .string x.f2, .slice Ad x.f3.length cd, .int .i64 x.f4, .slice Ak x.f5.length ck] 93))
  have HLT := Aside0.mk h.lt
  have HD := Aside0.mk hD
  have HS := Aside0.mk hS
  have HCL := Aside0.mk hcl
  have HG := Aside0.mk hG
  have HZ := Aside0.mk hz
  have HN := Aside0.mk (len_lt hG hi)
  have HSM := Aside0.mk (nm_max hs)
  have HTM := Aside0.mk (nm_max ht)
  have HLB := Aside0.mk (LF_big hG hi)
  have HSB := Aside0.mk (sz_big hG (Nat.le_trans (Nat.le_add_right _ _) hm))
  have H1 := Aside0.mk h1
  clear h h1 hD hS hcl hz hs ht
  clear hCd hbx hCk hdo
  go_enter Try.func75, Try.ntmps75
  go_wp2_with (first
    | ((with_reducible refine gate_callee (f := 63) rfl ?_); refine goesL_ (some 54) rfl rfl Try.func63 (by kernel_rfl) rfl #[.pointer (some ⟨g, 0, none⟩), .string x.f1] rfl (by (try simp only [List.map_toArray, List.map_cons, List.map_nil]); first | done | rfl) ?_; refine (sync_dsk _ _ _ _ _ _ _ x.f1 _ HD.out HSM.out HN.out HZ.out).mono ?_; rintro e w2 ⟨he, hD2, hK2⟩; rw [HE.out] at he hD2; dsimp only at he hD2; subst he; refine ⟨_, rfl, ?_⟩; have HP2 := Aside0.mk (HCL.out _ _ _ _ _ hD2 hK2); have HQ2 := Aside0.mk (hK2.blk HQ.out (by have h5 := HLT.out; omega)); obtain ⟨ok, hR, hfr, hge, hcl2⟩ := HP2.out.ref; have HR := Aside0.mk hR; have HFR := Aside0.mk hfr; have HCL2 := Aside0.mk hcl2; clear hD2 hK2 hR hfr hge hcl2; have p0w2 : w2.cell? ⟨W.heap.size, 0, none⟩ = some (.int .u8 x.f0) := (by rw [blk_cell HQ2.out]; rfl); have p1w2 : w2.cell? ⟨W.heap.size, 1, none⟩ = some (.string x.f1) := (by rw [blk_cell HQ2.out]; rfl); have p2w2 : w2.cell? ⟨W.heap.size, 2, none⟩ = some (.string x.f2) := (by rw [blk_cell HQ2.out]; rfl); have p3w2 : w2.cell? ⟨W.heap.size, 3, none⟩ = some (.slice Ad x.f3.length cd) := (by rw [blk_cell HQ2.out]; rfl); have p4w2 : w2.cell? ⟨W.heap.size, 4, none⟩ = some (.int .i64 x.f4) := (by rw [blk_cell HQ2.out]; rfl); have p5w2 : w2.cell? ⟨W.heap.size, 5, none⟩ = some (.slice Ak x.f5.length ck) := (by rw [blk_cell HQ2.out]; rfl); skip)
    | ((with_reducible refine gate_callee (f := 128) rfl ?_); refine goesL_ (some 59) rfl rfl Try.func128 (by kernel_rfl) rfl #[.pointer (some ⟨r, 0, none⟩), .string x.f1] rfl (by (try simp only [List.map_toArray, List.map_cons, List.map_nil]); first | done | rfl) ?_; refine (sync_c _ _ _ _ _ _ x.f1 _ HR.out HZ.out HLB.out HP2.out.size HFR.out HSB.out).mono ?_; rintro e w3 ⟨he, hR3, hK3⟩; rw [HA.out] at he hR3; rw [HL.out] at hR3; dsimp only at he hR3; subst he; refine ⟨_, rfl, ?_⟩; have HP3 := Aside0.mk (HCL2.out _ _ _ _ hR3 (hK3.mono (fun k _ e => .inl e))); clear hR3 hK3)
    | fail)
  go_ret
  exact ⟨rfl, _, _, _, HP3.out, hG2.more (Nat.le_refl _) (Nat.le_add_right _ _), hz2⟩
theorem one_2 {W0 W : World} {g b r : Nat} {off : Bool} {z : Int} {F : Fls} {i m : Nat} (x : S93) (Ad : Option Addr) (cd : Nat) (Ak : Option Addr) (ck : Nat)
    (h : Pair (fun _ => False) W0 W W0.heap.size g b r off z F off z (LF F)) (hG : Ls.Good F i m) (hi : i ≤ 200) (hm : m + x.f3.length ≤ 10000) (hz : Zok z) (hs : x.f1.size ≤ 100) (ht : x.f2.size ≤ 100) (hn : x.f4 ≤ 9223372036854775807)
    (hCd : Kd.C (Kd.int .u8) W0 Ad x.f3.length x.f3) (hbx : Crc.bytesOk x.f3 = true) (hCk : Kd.C (Kd.int .i64) W0 Ak x.f5.length x.f5) (hdo : x.f0 = 2) :
    Calls Try.prog 75 #[.pointer (some ⟨g, 0, none⟩), .pointer (some ⟨r, 0, none⟩), .agg #[.int .u8 x.f0, .string x.f1, .string x.f2, .slice Ad x.f3.length cd, .int .i64 x.f4, .slice Ak x.f5.length ck]] W fun e W' => e = .returned (.bool true) ∧ OneP W0 g b r (i + 1) (m + x.f3.length) W' := by
  obtain ⟨ev, o', z', F2, hE, hA, hL, hG2, hz2⟩ := ren_pack (off := off) hz x.f1 x.f2 hG ht
  have HE := Aside0.mk hE
  have HA := Aside0.mk hA
  have HL := Aside0.mk hL
  clear hE hA hL
  have b0 : (x.f0 == 0) = false := by rw [hdo]; rfl
  have b1 : (x.f0 == 1) = false := by rw [hdo]; rfl
  have b2 : (x.f0 == 2) = true := by rw [hdo]; rfl
  have h1 := h.below (below_alloc (Below.refl _ W) (.cells #[.int .u8 x.f0, .string x.f1, .string x.f2, .slice Ad x.f3.length cd, .int .i64 x.f4, .slice Ak x.f5.length ck] 93))
  obtain ⟨S, hD, hS, hcl⟩ := h1.dsk
  have HQ := Aside0.mk (blk_new W (.cells #[.int .u8 x.f0, .string x.f1, .string x.f2, .slice Ad x.f3.length cd, .int .i64 x.f4, .slice Ak x.f5.length ck] 93))
  have HLT := Aside0.mk h.lt
  have HD := Aside0.mk hD
  have HS := Aside0.mk hS
  have HCL := Aside0.mk hcl
  have HG := Aside0.mk hG
  have HZ := Aside0.mk hz
  have HN := Aside0.mk (len_lt hG hi)
  have HSM := Aside0.mk (nm_max hs)
  have HTM := Aside0.mk (nm_max ht)
  have HLB := Aside0.mk (LF_big hG hi)
  have HSB := Aside0.mk (sz_big hG (Nat.le_trans (Nat.le_add_right _ _) hm))
  have H1 := Aside0.mk h1
  clear h h1 hD hS hcl hz hs ht
  clear hCd hbx hCk hdo
  go_enter Try.func75, Try.ntmps75
  go_wp2_with (first
    | ((with_reducible refine gate_callee (f := 77) rfl ?_); refine goesL_ (some 68) rfl rfl Try.func77 (by kernel_rfl) rfl #[.pointer (some ⟨g, 0, none⟩), .string x.f1, .string x.f2] rfl (by (try simp only [List.map_toArray, List.map_cons, List.map_nil]); first | done | rfl) ?_; refine (rename_dsk _ _ _ _ _ _ _ x.f1 x.f2 _ HD.out HSM.out HTM.out HN.out HZ.out).mono ?_; rintro e w2 ⟨he, hD2, hK2⟩; rw [HE.out] at he hD2; dsimp only at he hD2; subst he; refine ⟨_, rfl, ?_⟩; have HP2 := Aside0.mk (HCL.out _ _ _ _ _ hD2 hK2); have HQ2 := Aside0.mk (hK2.blk HQ.out (by have h5 := HLT.out; omega)); obtain ⟨ok, hR, hfr, hge, hcl2⟩ := HP2.out.ref; have HR := Aside0.mk hR; have HFR := Aside0.mk hfr; have HCL2 := Aside0.mk hcl2; clear hD2 hK2 hR hfr hge hcl2; have p0w2 : w2.cell? ⟨W.heap.size, 0, none⟩ = some (.int .u8 x.f0) := (by rw [blk_cell HQ2.out]; rfl); have p1w2 : w2.cell? ⟨W.heap.size, 1, none⟩ = some (.string x.f1) := (by rw [blk_cell HQ2.out]; rfl); have p2w2 : w2.cell? ⟨W.heap.size, 2, none⟩ = some (.string x.f2) := (by rw [blk_cell HQ2.out]; rfl); have p3w2 : w2.cell? ⟨W.heap.size, 3, none⟩ = some (.slice Ad x.f3.length cd) := (by rw [blk_cell HQ2.out]; rfl); have p4w2 : w2.cell? ⟨W.heap.size, 4, none⟩ = some (.int .i64 x.f4) := (by rw [blk_cell HQ2.out]; rfl); have p5w2 : w2.cell? ⟨W.heap.size, 5, none⟩ = some (.slice Ak x.f5.length ck) := (by rw [blk_cell HQ2.out]; rfl); skip)
    | ((with_reducible refine gate_callee (f := 129) rfl ?_); refine goesL_ (some 75) rfl rfl Try.func129 (by kernel_rfl) rfl #[.pointer (some ⟨r, 0, none⟩), .string x.f1, .string x.f2] rfl (by (try simp only [List.map_toArray, List.map_cons, List.map_nil]); first | done | rfl) ?_; refine (rename_c _ _ _ _ _ _ x.f1 x.f2 _ HR.out HZ.out HLB.out HP2.out.size HFR.out).mono ?_; rintro e w3 ⟨he, hR3, hK3⟩; rw [HA.out] at he hR3; rw [HL.out] at hR3; dsimp only at he hR3; subst he; refine ⟨_, rfl, ?_⟩; have HP3 := Aside0.mk (HCL2.out _ _ _ _ hR3 (hK3.mono (fun k _ e => .inl e))); clear hR3 hK3)
    | fail)
  go_ret
  exact ⟨rfl, _, _, _, HP3.out, hG2.more (Nat.le_refl _) (Nat.le_add_right _ _), hz2⟩
theorem one_3 {W0 W : World} {g b r : Nat} {off : Bool} {z : Int} {F : Fls} {i m : Nat} (x : S93) (Ad : Option Addr) (cd : Nat) (Ak : Option Addr) (ck : Nat)
    (h : Pair (fun _ => False) W0 W W0.heap.size g b r off z F off z (LF F)) (hG : Ls.Good F i m) (hi : i ≤ 200) (hm : m + x.f3.length ≤ 10000) (hz : Zok z) (hs : x.f1.size ≤ 100) (ht : x.f2.size ≤ 100) (hn : x.f4 ≤ 9223372036854775807)
    (hCd : Kd.C (Kd.int .u8) W0 Ad x.f3.length x.f3) (hbx : Crc.bytesOk x.f3 = true) (hCk : Kd.C (Kd.int .i64) W0 Ak x.f5.length x.f5) (hdo : x.f0 = 3) :
    Calls Try.prog 75 #[.pointer (some ⟨g, 0, none⟩), .pointer (some ⟨r, 0, none⟩), .agg #[.int .u8 x.f0, .string x.f1, .string x.f2, .slice Ad x.f3.length cd, .int .i64 x.f4, .slice Ak x.f5.length ck]] W fun e W' => e = .returned (.bool true) ∧ OneP W0 g b r (i + 1) (m + x.f3.length) W' := by
  obtain ⟨ev, o', z', F2, hE, hA, hL, hG2, hz2⟩ := rem_pack (off := off) hz x.f1 hG
  have HE := Aside0.mk hE
  have HA := Aside0.mk hA
  have HL := Aside0.mk hL
  clear hE hA hL
  have b0 : (x.f0 == 0) = false := by rw [hdo]; rfl
  have b1 : (x.f0 == 1) = false := by rw [hdo]; rfl
  have b2 : (x.f0 == 2) = false := by rw [hdo]; rfl
  have b3 : (x.f0 == 3) = true := by rw [hdo]; rfl
  have h1 := h.below (below_alloc (Below.refl _ W) (.cells #[.int .u8 x.f0, .string x.f1, .string x.f2, .slice Ad x.f3.length cd, .int .i64 x.f4, .slice Ak x.f5.length ck] 93))
  obtain ⟨S, hD, hS, hcl⟩ := h1.dsk
  have HQ := Aside0.mk (blk_new W (.cells #[.int .u8 x.f0, .string x.f1, .string x.f2, .slice Ad x.f3.length cd, .int .i64 x.f4, .slice Ak x.f5.length ck] 93))
  have HLT := Aside0.mk h.lt
  have HD := Aside0.mk hD
  have HS := Aside0.mk hS
  have HCL := Aside0.mk hcl
  have HG := Aside0.mk hG
  have HZ := Aside0.mk hz
  have HN := Aside0.mk (len_lt hG hi)
  have HSM := Aside0.mk (nm_max hs)
  have HTM := Aside0.mk (nm_max ht)
  have HLB := Aside0.mk (LF_big hG hi)
  have HSB := Aside0.mk (sz_big hG (Nat.le_trans (Nat.le_add_right _ _) hm))
  have H1 := Aside0.mk h1
  clear h h1 hD hS hcl hz hs ht
  clear hCd hbx hCk hdo
  go_enter Try.func75, Try.ntmps75
  go_wp2_with (first
    | ((with_reducible refine gate_callee (f := 74) rfl ?_); refine goesL_ (some 82) rfl rfl Try.func74 (by kernel_rfl) rfl #[.pointer (some ⟨g, 0, none⟩), .string x.f1] rfl (by (try simp only [List.map_toArray, List.map_cons, List.map_nil]); first | done | rfl) ?_; refine (remove_dsk _ _ _ _ _ _ _ x.f1 _ HD.out HSM.out HZ.out).mono ?_; rintro e w2 ⟨he, hD2, hK2⟩; rw [HE.out] at he hD2; dsimp only at he hD2; subst he; refine ⟨_, rfl, ?_⟩; have HP2 := Aside0.mk (HCL.out _ _ _ _ _ hD2 hK2); have HQ2 := Aside0.mk (hK2.blk HQ.out (by have h5 := HLT.out; omega)); obtain ⟨ok, hR, hfr, hge, hcl2⟩ := HP2.out.ref; have HR := Aside0.mk hR; have HFR := Aside0.mk hfr; have HCL2 := Aside0.mk hcl2; clear hD2 hK2 hR hfr hge hcl2; have p0w2 : w2.cell? ⟨W.heap.size, 0, none⟩ = some (.int .u8 x.f0) := (by rw [blk_cell HQ2.out]; rfl); have p1w2 : w2.cell? ⟨W.heap.size, 1, none⟩ = some (.string x.f1) := (by rw [blk_cell HQ2.out]; rfl); have p2w2 : w2.cell? ⟨W.heap.size, 2, none⟩ = some (.string x.f2) := (by rw [blk_cell HQ2.out]; rfl); have p3w2 : w2.cell? ⟨W.heap.size, 3, none⟩ = some (.slice Ad x.f3.length cd) := (by rw [blk_cell HQ2.out]; rfl); have p4w2 : w2.cell? ⟨W.heap.size, 4, none⟩ = some (.int .i64 x.f4) := (by rw [blk_cell HQ2.out]; rfl); have p5w2 : w2.cell? ⟨W.heap.size, 5, none⟩ = some (.slice Ak x.f5.length ck) := (by rw [blk_cell HQ2.out]; rfl); skip)
    | ((with_reducible refine gate_callee (f := 130) rfl ?_); refine goesL_ (some 87) rfl rfl Try.func130 (by kernel_rfl) rfl #[.pointer (some ⟨r, 0, none⟩), .string x.f1] rfl (by (try simp only [List.map_toArray, List.map_cons, List.map_nil]); first | done | rfl) ?_; refine (remove_c _ _ _ _ _ _ x.f1 _ HR.out HZ.out HLB.out HP2.out.size HFR.out).mono ?_; rintro e w3 ⟨he, hR3, hK3⟩; rw [HA.out] at he hR3; rw [HL.out] at hR3; dsimp only at he hR3; subst he; refine ⟨_, rfl, ?_⟩; have HP3 := Aside0.mk (HCL2.out _ _ _ _ hR3 (hK3.mono (fun k _ e => .inl e))); clear hR3 hK3)
    | fail)
  go_ret
  exact ⟨rfl, _, _, _, HP3.out, hG2.more (Nat.le_refl _) (Nat.le_add_right _ _), hz2⟩
theorem one_4 {W0 W : World} {g b r : Nat} {off : Bool} {z : Int} {F : Fls} {i m : Nat} (x : S93) (Ad : Option Addr) (cd : Nat) (Ak : Option Addr) (ck : Nat)
    (h : Pair (fun _ => False) W0 W W0.heap.size g b r off z F off z (LF F)) (hG : Ls.Good F i m) (hi : i ≤ 200) (hm : m + x.f3.length ≤ 10000) (hz : Zok z) (hs : x.f1.size ≤ 100) (ht : x.f2.size ≤ 100) (hn : x.f4 ≤ 9223372036854775807)
    (hCd : Kd.C (Kd.int .u8) W0 Ad x.f3.length x.f3) (hbx : Crc.bytesOk x.f3 = true) (hCk : Kd.C (Kd.int .i64) W0 Ak x.f5.length x.f5) (hdo : x.f0 = 4) :
    Calls Try.prog 75 #[.pointer (some ⟨g, 0, none⟩), .pointer (some ⟨r, 0, none⟩), .agg #[.int .u8 x.f0, .string x.f1, .string x.f2, .slice Ad x.f3.length cd, .int .i64 x.f4, .slice Ak x.f5.length ck]] W fun e W' => e = .returned (.bool true) ∧ OneP W0 g b r (i + 1) (m + x.f3.length) W' := by
  obtain ⟨⟨z', ev⟩, hE⟩ : ∃ y, Dk.fuseR off z x.f4 = y := ⟨_, rfl⟩
  have hz2 : Zok z' := by
    have h3 : z' = (Dk.fuseR off z x.f4).1 := by rw [hE]
    rw [h3]
    unfold Dk.fuseR
    split
    · exact hz
    split
    · exact hz
    · unfold Zok; dsimp only; omega
  have HE := Aside0.mk hE
  clear hE
  have b0 : (x.f0 == 0) = false := by rw [hdo]; rfl
  have b1 : (x.f0 == 1) = false := by rw [hdo]; rfl
  have b2 : (x.f0 == 2) = false := by rw [hdo]; rfl
  have b3 : (x.f0 == 3) = false := by rw [hdo]; rfl
  have b4 : (x.f0 == 4) = true := by rw [hdo]; rfl
  have h1 := h.below (below_alloc (Below.refl _ W) (.cells #[.int .u8 x.f0, .string x.f1, .string x.f2, .slice Ad x.f3.length cd, .int .i64 x.f4, .slice Ak x.f5.length ck] 93))
  obtain ⟨S, hD, hS, hcl⟩ := h1.dsk
  have HQ := Aside0.mk (blk_new W (.cells #[.int .u8 x.f0, .string x.f1, .string x.f2, .slice Ad x.f3.length cd, .int .i64 x.f4, .slice Ak x.f5.length ck] 93))
  have HLT := Aside0.mk h.lt
  have HD := Aside0.mk hD
  have HS := Aside0.mk hS
  have HCL := Aside0.mk hcl
  have HG := Aside0.mk hG
  have HZ := Aside0.mk hz
  have HN := Aside0.mk (len_lt hG hi)
  have HSM := Aside0.mk (nm_max hs)
  have HTM := Aside0.mk (nm_max ht)
  have HLB := Aside0.mk (LF_big hG hi)
  have HSB := Aside0.mk (sz_big hG (Nat.le_trans (Nat.le_add_right _ _) hm))
  have H1 := Aside0.mk h1
  clear h h1 hD hS hcl hz hs ht
  clear hCd hbx hCk hdo
  go_enter Try.func75, Try.ntmps75
  go_wp2_with (first
    | ((with_reducible refine gate_callee (f := 68) rfl ?_); refine goesL_ (some 94) rfl rfl Try.func68 (by kernel_rfl) rfl #[.pointer (some ⟨g, 0, none⟩), .int .i64 x.f4] rfl (by (try simp only [List.map_toArray, List.map_cons, List.map_nil]); first | done | rfl) ?_; refine (fuse_dsk _ _ _ _ _ _ _ x.f4 _ HD.out).mono ?_; rintro e w2 ⟨he, hD2, hK2⟩; rw [HE.out] at he hD2; dsimp only at he hD2; subst he; refine ⟨_, rfl, ?_⟩; have HP2 := Aside0.mk (HCL.out _ _ _ _ _ hD2 (hK2.mono (fun k _ e => .inl e))); have HQ2 := Aside0.mk (hK2.blk HQ.out (by have h5 := HLT.out; omega)); obtain ⟨ok, hR, hfr, hge, hcl2⟩ := HP2.out.ref; have HR := Aside0.mk hR; have HFR := Aside0.mk hfr; have HCL2 := Aside0.mk hcl2; clear hD2 hK2 hR hfr hge hcl2; have p0w2 : w2.cell? ⟨W.heap.size, 0, none⟩ = some (.int .u8 x.f0) := (by rw [blk_cell HQ2.out]; rfl); have p1w2 : w2.cell? ⟨W.heap.size, 1, none⟩ = some (.string x.f1) := (by rw [blk_cell HQ2.out]; rfl); have p2w2 : w2.cell? ⟨W.heap.size, 2, none⟩ = some (.string x.f2) := (by rw [blk_cell HQ2.out]; rfl); have p3w2 : w2.cell? ⟨W.heap.size, 3, none⟩ = some (.slice Ad x.f3.length cd) := (by rw [blk_cell HQ2.out]; rfl); have p4w2 : w2.cell? ⟨W.heap.size, 4, none⟩ = some (.int .i64 x.f4) := (by rw [blk_cell HQ2.out]; rfl); have p5w2 : w2.cell? ⟨W.heap.size, 5, none⟩ = some (.slice Ak x.f5.length ck) := (by rw [blk_cell HQ2.out]; rfl); skip)
    | ((with_reducible refine gate_callee (f := 131) rfl ?_); refine goesL_ (some 99) rfl rfl Try.func131 (by kernel_rfl) rfl #[.pointer (some ⟨r, 0, none⟩), .int .i64 x.f4] rfl (by (try simp only [List.map_toArray, List.map_cons, List.map_nil]); first | done | rfl) ?_; refine (fuse_c _ _ _ _ _ _ x.f4 _ HR.out).mono ?_; rintro e w3 ⟨he, hR3, hK3⟩; rw [HE.out] at he hR3; dsimp only at he hR3; subst he; refine ⟨_, rfl, ?_⟩; have HP3 := Aside0.mk (HCL2.out _ _ _ _ hR3 (hK3.mono (fun k _ e => .inl e))); clear hR3 hK3)
    | fail)
  go_ret
  exact ⟨rfl, _, _, _, HP3.out, HG.out.more (Nat.le_succ _) (Nat.le_add_right _ _), hz2⟩
theorem one_5 {W0 W : World} {g b r : Nat} {off : Bool} {z : Int} {F : Fls} {i m : Nat} (x : S93) (Ad : Option Addr) (cd : Nat) (Ak : Option Addr) (ck : Nat)
    (h : Pair (fun _ => False) W0 W W0.heap.size g b r off z F off z (LF F)) (hG : Ls.Good F i m) (hi : i ≤ 200) (hm : m + x.f3.length ≤ 10000) (hz : Zok z) (hs : x.f1.size ≤ 100) (ht : x.f2.size ≤ 100) (hn : x.f4 ≤ 9223372036854775807)
    (hCd : Kd.C (Kd.int .u8) W0 Ad x.f3.length x.f3) (hbx : Crc.bytesOk x.f3 = true) (hCk : Kd.C (Kd.int .i64) W0 Ak x.f5.length x.f5) (hdo : x.f0 = 5) :
    Calls Try.prog 75 #[.pointer (some ⟨g, 0, none⟩), .pointer (some ⟨r, 0, none⟩), .agg #[.int .u8 x.f0, .string x.f1, .string x.f2, .slice Ad x.f3.length cd, .int .i64 x.f4, .slice Ak x.f5.length ck]] W fun e W' => e = .returned (.bool true) ∧ OneP W0 g b r (i + 1) (m + x.f3.length) W' := by
  have hcp : ∀ p ∈ F, p.2.2 ≤ p.2.1.length ∧ p.2.1.length ≤ 1000000 ∧ p.1.length ≤ 1000000 := fun p hp => by have := hG.2.2 p hp; omega
  have hcr := crs_rel x.f5 (fun p hp => (hcp p hp).1)
  have HCR := Aside0.mk hcr
  have HCP := Aside0.mk hcp
  have HF1 := Aside0.mk (show F.length ≤ 1000 by have := hG.2.1; omega)
  have HSZ := Aside0.mk (show ∀ y ∈ LF F, y.f1.size + y.f2.size ≤ 1000000 from fun y hy => Nat.le_trans (sizes hG y hy) (by omega))
  clear hcp hcr
  have b0 : (x.f0 == 0) = false := by rw [hdo]; rfl
  have b1 : (x.f0 == 1) = false := by rw [hdo]; rfl
  have b2 : (x.f0 == 2) = false := by rw [hdo]; rfl
  have b3 : (x.f0 == 3) = false := by rw [hdo]; rfl
  have b4 : (x.f0 == 4) = false := by rw [hdo]; rfl
  have b5 : (x.f0 == 5) = true := by rw [hdo]; rfl
  have h1 := h.below (below_alloc (Below.refl _ W) (.cells #[.int .u8 x.f0, .string x.f1, .string x.f2, .slice Ad x.f3.length cd, .int .i64 x.f4, .slice Ak x.f5.length ck] 93))
  obtain ⟨S, hD, hS, hcl⟩ := h1.dsk
  have HQ := Aside0.mk (blk_new W (.cells #[.int .u8 x.f0, .string x.f1, .string x.f2, .slice Ad x.f3.length cd, .int .i64 x.f4, .slice Ak x.f5.length ck] 93))
  have HLT := Aside0.mk h.lt
  have HD := Aside0.mk hD
  have HS := Aside0.mk hS
  have HCL := Aside0.mk hcl
  have HG := Aside0.mk hG
  have HZ := Aside0.mk hz
  have HN := Aside0.mk (len_lt hG hi)
  have HSM := Aside0.mk (nm_max hs)
  have HTM := Aside0.mk (nm_max ht)
  have HLB := Aside0.mk (LF_big hG hi)
  have HSB := Aside0.mk (sz_big hG (Nat.le_trans (Nat.le_add_right _ _) hm))
  have H1 := Aside0.mk h1
  clear h h1 hD hS hcl hz hs ht
  have HCk := Aside0.mk hCk
  clear hCd hbx hCk hdo
  go_enter Try.func75, Try.ntmps75
  go_wp2_with (first
    | ((with_reducible refine gate_callee (f := 64) rfl ?_); refine goesL_ (some 106) rfl rfl Try.func64 (by kernel_rfl) rfl #[.pointer (some ⟨g, 0, none⟩), .slice Ak x.f5.length ck] rfl (by (try simp only [List.map_toArray, List.map_cons, List.map_nil]); first | done | rfl) ?_; refine (crash_dsk _ _ _ _ _ _ _ Ak ck x.f5 _ HD.out HG.out.1 HF1.out HCP.out HS.out (Kd.F_mono (Kd.F_below (Kd.C_F (Kd.heap_int .i64) HCk.out) H1.out.HB) (fun q hq => by have := H1.out.ho; omega))).mono ?_; rintro e w2 ⟨he, hD2, hK2⟩; subst he; refine ⟨_, rfl, ?_⟩; have HP2 := Aside0.mk (HCL.out _ _ _ _ _ hD2 hK2); have HQ2 := Aside0.mk (hK2.blk HQ.out (by have h5 := HLT.out; omega)); obtain ⟨ok, hR, hfr, hge, hcl2⟩ := HP2.out.ref; have HR := Aside0.mk hR; have HGE := Aside0.mk hge; have HCL2 := Aside0.mk hcl2; clear hD2 hK2 hR hfr hge hcl2; have p0w2 : w2.cell? ⟨W.heap.size, 0, none⟩ = some (.int .u8 x.f0) := (by rw [blk_cell HQ2.out]; rfl); have p1w2 : w2.cell? ⟨W.heap.size, 1, none⟩ = some (.string x.f1) := (by rw [blk_cell HQ2.out]; rfl); have p2w2 : w2.cell? ⟨W.heap.size, 2, none⟩ = some (.string x.f2) := (by rw [blk_cell HQ2.out]; rfl); have p3w2 : w2.cell? ⟨W.heap.size, 3, none⟩ = some (.slice Ad x.f3.length cd) := (by rw [blk_cell HQ2.out]; rfl); have p4w2 : w2.cell? ⟨W.heap.size, 4, none⟩ = some (.int .i64 x.f4) := (by rw [blk_cell HQ2.out]; rfl); have p5w2 : w2.cell? ⟨W.heap.size, 5, none⟩ = some (.slice Ak x.f5.length ck) := (by rw [blk_cell HQ2.out]; rfl); skip)
    | ((with_reducible refine gate_callee (f := 132) rfl ?_); refine goesL_ (some 110) rfl rfl Try.func132 (by kernel_rfl) rfl #[.pointer (some ⟨r, 0, none⟩), .slice Ak x.f5.length ck] rfl (by (try simp only [List.map_toArray, List.map_cons, List.map_nil]); first | done | rfl) ?_; refine (crash_c _ _ _ _ _ _ Ak ck x.f5 _ HR.out HLB.out HSZ.out (Kd.F_mono (Kd.F_below (Kd.C_F (Kd.heap_int .i64) HCk.out) HP2.out.HB) (fun q hq => ⟨by have := HP2.out.ho; omega, fun e => by have := HGE.out q e; omega⟩))).mono ?_; rintro e w3 ⟨he, hR3, hK3⟩; subst he; rw [HCR.out] at hR3; refine ⟨_, rfl, ?_⟩; have HP3 := Aside0.mk (HCL2.out _ _ _ _ hR3 hK3); clear hR3 hK3)
    | fail)
  go_ret
  exact ⟨rfl, _, _, _, HP3.out, (crash_good HG.out _).more (Nat.le_refl _) (Nat.le_add_right _ _), by unfold Zok; omega⟩
theorem one_6 {W0 W : World} {g b r : Nat} {off : Bool} {z : Int} {F : Fls} {i m : Nat} (x : S93) (Ad : Option Addr) (cd : Nat) (Ak : Option Addr) (ck : Nat)
    (h : Pair (fun _ => False) W0 W W0.heap.size g b r off z F off z (LF F)) (hG : Ls.Good F i m) (hi : i ≤ 200) (hm : m + x.f3.length ≤ 10000) (hz : Zok z) (hs : x.f1.size ≤ 100) (ht : x.f2.size ≤ 100) (hn : x.f4 ≤ 9223372036854775807)
    (hCd : Kd.C (Kd.int .u8) W0 Ad x.f3.length x.f3) (hbx : Crc.bytesOk x.f3 = true) (hCk : Kd.C (Kd.int .i64) W0 Ak x.f5.length x.f5) (hdo : ¬ x.f0 = 0 ∧ ¬ x.f0 = 1 ∧ ¬ x.f0 = 2 ∧ ¬ x.f0 = 3 ∧ ¬ x.f0 = 4 ∧ ¬ x.f0 = 5) :
    Calls Try.prog 75 #[.pointer (some ⟨g, 0, none⟩), .pointer (some ⟨r, 0, none⟩), .agg #[.int .u8 x.f0, .string x.f1, .string x.f2, .slice Ad x.f3.length cd, .int .i64 x.f4, .slice Ak x.f5.length ck]] W fun e W' => e = .returned (.bool true) ∧ OneP W0 g b r (i + 1) (m + x.f3.length) W' := by
  have hrr := read_rel (off := off) (s := x.f1) hG.1
  have HCU := Aside0.mk (show (cur F x.f1.data.toList).1.length ≤ 1000000 by have := (hG.cur x.f1.data.toList).2; omega)
  obtain ⟨⟨xs, ev⟩, hE⟩ : ∃ y, Dk.readR off F x.f1.data.toList = y := ⟨_, rfl⟩
  rw [hE] at hrr
  have HE := Aside0.mk hE
  have HRR := Aside0.mk hrr
  clear hE hrr
  have b0 : (x.f0 == 0) = false := by simpa using hdo.1
  have b1 : (x.f0 == 1) = false := by simpa using hdo.2.1
  have b2 : (x.f0 == 2) = false := by simpa using hdo.2.2.1
  have b3 : (x.f0 == 3) = false := by simpa using hdo.2.2.2.1
  have b4 : (x.f0 == 4) = false := by simpa using hdo.2.2.2.2.1
  have b5 : (x.f0 == 5) = false := by simpa using hdo.2.2.2.2.2
  have h1 := h.below (below_alloc (Below.refl _ W) (.cells #[.int .u8 x.f0, .string x.f1, .string x.f2, .slice Ad x.f3.length cd, .int .i64 x.f4, .slice Ak x.f5.length ck] 93))
  obtain ⟨S, hD, hS, hcl⟩ := h1.dsk
  have HQ := Aside0.mk (blk_new W (.cells #[.int .u8 x.f0, .string x.f1, .string x.f2, .slice Ad x.f3.length cd, .int .i64 x.f4, .slice Ak x.f5.length ck] 93))
  have HLT := Aside0.mk h.lt
  have HD := Aside0.mk hD
  have HS := Aside0.mk hS
  have HCL := Aside0.mk hcl
  have HG := Aside0.mk hG
  have HZ := Aside0.mk hz
  have HN := Aside0.mk (len_lt hG hi)
  have HSM := Aside0.mk (nm_max hs)
  have HTM := Aside0.mk (nm_max ht)
  have HLB := Aside0.mk (LF_big hG hi)
  have HSB := Aside0.mk (sz_big hG (Nat.le_trans (Nat.le_add_right _ _) hm))
  have H1 := Aside0.mk h1
  clear h h1 hD hS hcl hz hs ht
  clear hCd hbx hCk hdo
  go_enter Try.func75, Try.ntmps75
  go_wp2_with (first
    | ((with_reducible refine gate_callee (f := 65) rfl ?_); refine goesL_ (some 117) rfl rfl Try.func65 (by kernel_rfl) rfl #[.pointer (some ⟨g, 0, none⟩), .string x.f1] rfl (by (try simp only [List.map_toArray, List.map_cons, List.map_nil]); first | done | rfl) ?_; refine (read_dsk _ _ _ _ _ _ _ x.f1 HSM.out _ HD.out HCU.out).mono ?_; rintro e w2 ⟨v2, he, hR2, hb2⟩; rw [HE.out] at he hR2; dsimp only at he hR2; subst he; obtain ⟨A2, c2, e2_⟩ := Kd.R_slice hR2; subst e2_; refine ⟨_, rfl, ?_⟩; have HP2 := Aside0.mk (H1.out.below hb2); have HQ2 := Aside0.mk (blk_below HQ.out hb2); have HC2 := Aside0.mk (Kd.R_reads' hR2).2.2; obtain ⟨ok, hR, hfr, hge, hcl2⟩ := HP2.out.ref; have HR := Aside0.mk hR; clear hb2 hR2 hR hfr hge hcl2; have p0w2 : w2.cell? ⟨W.heap.size, 0, none⟩ = some (.int .u8 x.f0) := (by rw [blk_cell HQ2.out]; rfl); have p1w2 : w2.cell? ⟨W.heap.size, 1, none⟩ = some (.string x.f1) := (by rw [blk_cell HQ2.out]; rfl); have p2w2 : w2.cell? ⟨W.heap.size, 2, none⟩ = some (.string x.f2) := (by rw [blk_cell HQ2.out]; rfl); have p3w2 : w2.cell? ⟨W.heap.size, 3, none⟩ = some (.slice Ad x.f3.length cd) := (by rw [blk_cell HQ2.out]; rfl); have p4w2 : w2.cell? ⟨W.heap.size, 4, none⟩ = some (.int .i64 x.f4) := (by rw [blk_cell HQ2.out]; rfl); have p5w2 : w2.cell? ⟨W.heap.size, 5, none⟩ = some (.slice Ak x.f5.length ck) := (by rw [blk_cell HQ2.out]; rfl); skip)
    | ((with_reducible refine gate_callee (f := 133) rfl ?_); refine goesL_ (some 124) rfl rfl Try.func133 (by kernel_rfl) rfl #[.pointer (some ⟨r, 0, none⟩), .string x.f1] rfl (by (try simp only [List.map_toArray, List.map_cons, List.map_nil]); first | done | rfl) ?_; refine (read_c _ _ _ _ _ _ x.f1 _ HR.out HLB.out HSB.out).mono ?_; rintro e w3 ⟨he, hb3⟩; rw [HRR.out] at he; dsimp only at he; subst he; refine ⟨_, rfl, ?_⟩; have HP3 := Aside0.mk (HP2.out.below hb3); have hcv := Kd.C_string (P := Try.prog) Try.underlying22 Try.underlying5 Try.underlying9 (c := c2) (Kd.C_below HC2.out hb3); clear hb3)
    | fail)
  go_ret
  exact ⟨rfl, _, _, _, HP3.out, HG.out.more (Nat.le_succ _) (Nat.le_add_right _ _), HZ.out⟩
theorem copy2 {x : List Int} {A : Option Addr} {c : Nat} (W : World) (hC : Kd.C (Kd.int .u8) W A x.length x) (hbx : Crc.bytesOk x = true) (hl : x.length ≤ 1000000) :
    ∃ (b0 : Nat) (s : ByteArray) (w1 : World) (c1 : Nat), b0 = W.heap.size ∧ (convert 22 9 (.slice A x.length c)).run Try.prog W = .ok (.string s) W ∧ (convert 9 22 (.string s)).run Try.prog W = .ok (.slice (some ⟨b0, 0, none⟩) x.length c1) w1 ∧
      Below W.heap.size W w1 ∧ Kd.F (Kd.int .u8) w1 (fun k => k = b0) (some ⟨b0, 0, none⟩) x.length x ∧ x.length ≤ c1 ∧ InRow w1 b0 x.length := by
  obtain ⟨b0, s, w1, c1, h0, h1, h2, h3, h4, h5⟩ := Ls.copy (c := c) W hC hbx hl
  refine ⟨b0, s, w1, c1, h0, h1, h2, h3, h4, h5, ?_⟩
  have e1 := Kd.C_string (P := Try.prog) Try.underlying22 Try.underlying5 Try.underlying9 (c := c) hC
  rw [h1] at e1
  injection e1 with e1 _
  injection e1 with e1
  have e2 := print_bytes (P := Try.prog) 9 22 5 Try.underlying9 Try.underlying22 Try.underlying5 s W
  rw [h2] at e2
  injection e2 with _ e2
  rw [e2, h0, ← strOfNums_size x, ← e1]
  exact inRow_bytes W s
theorem one_0 {W0 W : World} {g b r : Nat} {off : Bool} {z : Int} {F : Fls} {i m : Nat} (x : S93) (Ad : Option Addr) (cd : Nat) (Ak : Option Addr) (ck : Nat)
    (h : Pair (fun _ => False) W0 W W0.heap.size g b r off z F off z (LF F)) (hG : Ls.Good F i m) (hi : i ≤ 200) (hm : m + x.f3.length ≤ 10000) (hz : Zok z) (hs : x.f1.size ≤ 100) (ht : x.f2.size ≤ 100) (hn : x.f4 ≤ 9223372036854775807)
    (hCd : Kd.C (Kd.int .u8) W0 Ad x.f3.length x.f3) (hbx : Crc.bytesOk x.f3 = true) (hCk : Kd.C (Kd.int .i64) W0 Ak x.f5.length x.f5) (hdo : x.f0 = 0) :
    Calls Try.prog 75 #[.pointer (some ⟨g, 0, none⟩), .pointer (some ⟨r, 0, none⟩), .agg #[.int .u8 x.f0, .string x.f1, .string x.f2, .slice Ad x.f3.length cd, .int .i64 x.f4, .slice Ak x.f5.length ck]] W fun e W' => e = .returned (.bool true) ∧ OneP W0 g b r (i + 1) (m + x.f3.length) W' := by
  obtain ⟨ev, o', z', F2, hE, hA, hG2, hz2⟩ := app_pack (off := off) hz x.f1 x.f3 hG hs
  have HE := Aside0.mk hE
  have HA := Aside0.mk hA
  clear hE hA
  have HX := Aside0.mk (show x.f3.length ≤ 1000000 by omega)
  have HCU := Aside0.mk (show (cur F x.f1.data.toList).1.length + x.f3.length ≤ 1000000 by have := (hG.cur x.f1.data.toList).2; omega)
  have HOS := Aside0.mk (show (oldF (LF F) x.f1).f2.size + (strOfNums x.f3).size ≤ 9223372036854775807 by rw [oldF_LF]; unfold fileS; dsimp only; rw [strOfNums_size, strOfNums_size, List.length_drop]; have := (hG.cur x.f1.data.toList).2; omega)
  have b0 : (x.f0 == 0) = true := by rw [hdo]; rfl
  have h1 := h.below (below_alloc (Below.refl _ W) (.cells #[.int .u8 x.f0, .string x.f1, .string x.f2, .slice Ad x.f3.length cd, .int .i64 x.f4, .slice Ak x.f5.length ck] 93))
  obtain ⟨S, hD, hS, hcl⟩ := h1.dsk
  have HQ := Aside0.mk (blk_new W (.cells #[.int .u8 x.f0, .string x.f1, .string x.f2, .slice Ad x.f3.length cd, .int .i64 x.f4, .slice Ak x.f5.length ck] 93))
  have HLT := Aside0.mk h.lt
  have HD := Aside0.mk hD
  have HS := Aside0.mk hS
  have HCL := Aside0.mk hcl
  have HG := Aside0.mk hG
  have HZ := Aside0.mk hz
  have HN := Aside0.mk (len_lt hG hi)
  have HSM := Aside0.mk (nm_max hs)
  have HTM := Aside0.mk (nm_max ht)
  have HLB := Aside0.mk (LF_big hG hi)
  have HSB := Aside0.mk (sz_big hG (Nat.le_trans (Nat.le_add_right _ _) hm))
  have H1 := Aside0.mk h1
  clear h h1 hD hS hcl hz hs ht
  obtain ⟨b0_, s0, w1, c1, hb0, hcv1, hcv2, hbl, hF0, hc1, hin⟩ := copy2 (c := cd) (W.alloc (.cells #[.int .u8 x.f0, .string x.f1, .string x.f2, .slice Ad x.f3.length cd, .int .i64 x.f4, .slice Ak x.f5.length ck] 93)) (Kd.C_below hCd H1.out.HB) hbx HX.out
  have hbs : b0_ < w1.heap.size := by obtain ⟨cs, m1, m2, h3, _⟩ := hin; exact blk_lt h3
  have hP1 := H1.out.foreign hbl (q := b0_) (by omega) hbs
  obtain ⟨S1, hD1, hS1, hcl1⟩ := hP1.dsk
  have hq1 := blk_below HQ.out hbl
  have hyb := hP1.hY b0_ (.inr rfl)
  have hqb : W.heap.size ≠ b0_ := by have := H1.out.size; have h4 : (W.alloc (.cells #[.int .u8 x.f0, .string x.f1, .string x.f2, .slice Ad x.f3.length cd, .int .i64 x.f4, .slice Ak x.f5.length ck] 93)).heap.size = W.heap.size + 1 := Array.size_push _; omega
  have hbB : W0.heap.size ≤ b0_ := by have := H1.out.size; omega
  have p1w1 : w1.cell? ⟨W.heap.size, 1, none⟩ = some (.string x.f1) := by rw [blk_cell hq1]; rfl
  have HQ1 := Aside0.mk hq1
  have HP1 := Aside0.mk hP1
  have HD1 := Aside0.mk hD1
  have HS1 := Aside0.mk hS1
  have HCL1 := Aside0.mk hcl1
  have HIN := Aside0.mk hin
  have HF0 := Aside0.mk hF0
  have HYB := Aside0.mk hyb
  have HQB := Aside0.mk hqb
  have HBB := Aside0.mk hbB
  have HCd := Aside0.mk hCd
  have hxl64 : (x.f3.length : Int) ≤ 1000000 := by have := HX.out; omega
  clear hq1 hP1 hD1 hS1 hcl1 hin hF0 hyb hqb hbB hb0 hbl hc1 hbs
  clear hCd hbx hCk hdo
  go_enter Try.func75, Try.ntmps75
  go_wp2_with (first
    | ((with_reducible refine gate_callee (f := 62) rfl ?_); refine goesL_ (some 31) rfl rfl Try.func62 (by kernel_rfl) rfl #[.pointer (some ⟨g, 0, none⟩), .string x.f1, .slice (some ⟨b0_, 0, none⟩) x.f3.length c1] rfl (by (try simp only [List.map_toArray, List.map_cons, List.map_nil]); first | done | rfl) ?_; refine (append_dsk _ _ _ _ _ _ _ x.f1 (some ⟨b0_, 0, none⟩) c1 x.f3 _ HD1.out HSM.out (Kd.F_now HF0.out) HN.out HS1.out HCU.out HZ.out).mono ?_; rintro e w2 ⟨he, hD2, hK2⟩; rw [HE.out] at he hD2; dsimp only at he hD2; subst he; refine ⟨_, rfl, ?_⟩; have HP2 := Aside0.mk (HCL1.out _ _ _ _ _ hD2 hK2); have HQ2 := Aside0.mk (hK2.blk HQ1.out (by have h5 := HLT.out; omega)); have HIN2 := Aside0.mk (HIN.out.kb hK2 (by have h5 := HYB.out; omega)); clear hD2 hK2)
    | fail)
  go_loopg [9] x.f3.length (fun kk v9 wq => ∃ k : Nat, v9 = .int .i64 k ∧ Aside0 (k ≤ x.f3.length ∧ kk = x.f3.length - k) ∧ Aside0 (Kb (fun j => j = b0_) w2 wq ∧ InRow wq b0_ x.f3.length))
  case atStart => exact ⟨0, rfl, ⟨Nat.zero_le _, rfl⟩, ⟨Kb.refl _ _, HIN2.out⟩⟩
  case round =>
    obtain ⟨k, rfl, hk, HK⟩ := hrel
    by_cases hkl : k < x.f3.length
    · have hklb : decide ((k : Int) < (x.f3.length : Int)) = true := decide_eq_true (by omega)
      have hklb2 : decide (k < x.f3.length) = true := decide_eq_true hkl
      have hkl3 : (k : Int) < (x.f3.length : Int) := by omega
      obtain ⟨u, hcell⟩ := HK.out.2.cell hkl
      have hfz := HK.out.2.frozen hkl
      go_wp2_with (fail)
      go_roundg (x.f3.length - (k + 1))
      case measure => have := hk.out; omega
      case rel => exact ⟨k + 1, by simp, ⟨by omega, rfl⟩, ⟨HK.out.1.trans (Kb.set _ _ _ _ rfl), HK.out.2.set _ _⟩⟩
    · obtain rfl : k = x.f3.length := by have := hk.out; omega
      have hklb : decide ((x.f3.length : Int) < (x.f3.length : Int)) = false := decide_eq_false (by omega)
      have hklb2 : decide (x.f3.length < x.f3.length) = false := decide_eq_false (by omega)
      obtain ⟨wo, hwo⟩ : ∃ wo : World, wo = wr := ⟨_, rfl⟩
      subst hwo
      have HP3 := Aside0.mk (HP2.out.free (HK.out.1.mono (fun k _ e => .inr e)) (fun k e => by rcases e with e | e; exact e.elim; have := HBB.out; omega)).forget
      have HQ3 := Aside0.mk (HK.out.1.blk HQ2.out HQB.out)
      obtain ⟨ok, hR, hfr, hge, hcl2⟩ := HP3.out.ref
      have HR := Aside0.mk hR
      have HFR := Aside0.mk hfr
      have HCL2 := Aside0.mk hcl2
      have p1w3 : wo.cell? ⟨W.heap.size, 1, none⟩ = some (.string x.f1) := by rw [blk_cell HQ3.out]; rfl
      have p3w3 : wo.cell? ⟨W.heap.size, 3, none⟩ = some (.slice Ad x.f3.length cd) := by rw [blk_cell HQ3.out]; rfl
      clear hR hfr hge hcl2
      go_wp2_with (first
        | ((with_reducible refine gate_callee (f := 127) rfl ?_); refine goesL_ (some 47) rfl rfl Try.func127 (by kernel_rfl) rfl #[.pointer (some ⟨r, 0, none⟩), .string x.f1, .slice Ad x.f3.length cd] rfl (by (try simp only [List.map_toArray, List.map_cons, List.map_nil]); first | done | rfl) ?_; refine (append_c _ _ _ _ _ _ x.f1 Ad cd x.f3 _ HR.out HZ.out HLB.out HP3.out.size HFR.out (Kd.F_mono (Kd.F_below (Kd.C_F (Kd.heap_int .u8) HCd.out) HP3.out.HB) (fun q hq => by have := HP3.out.ho; omega)) HOS.out).mono ?_; rintro e w4 ⟨he, hR4, hK4⟩; rw [HA.out] at he hR4; dsimp only at he hR4; subst he; refine ⟨_, rfl, ?_⟩; have HP4 := Aside0.mk (HCL2.out _ _ _ _ hR4 (hK4.mono (fun k _ e => .inl e))); clear hR4 hK4)
        | fail)
      go_ret
      exact ⟨rfl, _, _, _, HP4.out, hG2, hz2⟩
theorem one_c {W0 W : World} {g b r : Nat} {off : Bool} {z : Int} {F : Fls} {i m : Nat} (x : S93) (Ad : Option Addr) (cd : Nat) (Ak : Option Addr) (ck : Nat)
    (h : Pair (fun _ => False) W0 W W0.heap.size g b r off z F off z (LF F)) (hG : Ls.Good F i m) (hi : i ≤ 200) (hm : m + x.f3.length ≤ 10000) (hz : Zok z) (hs : x.f1.size ≤ 100) (ht : x.f2.size ≤ 100) (hn : x.f4 ≤ 9223372036854775807)
    (hCd : Kd.C (Kd.int .u8) W0 Ad x.f3.length x.f3) (hbx : Crc.bytesOk x.f3 = true) (hCk : Kd.C (Kd.int .i64) W0 Ak x.f5.length x.f5) :
    Calls Try.prog 75 #[.pointer (some ⟨g, 0, none⟩), .pointer (some ⟨r, 0, none⟩), .agg #[.int .u8 x.f0, .string x.f1, .string x.f2, .slice Ad x.f3.length cd, .int .i64 x.f4, .slice Ak x.f5.length ck]] W fun e W' => e = .returned (.bool true) ∧ OneP W0 g b r (i + 1) (m + x.f3.length) W' := by
  by_cases d0 : x.f0 = 0
  · exact one_0 x Ad cd Ak ck h hG hi hm hz hs ht hn hCd hbx hCk d0
  by_cases d1 : x.f0 = 1
  · exact one_1 x Ad cd Ak ck h hG hi hm hz hs ht hn hCd hbx hCk d1
  by_cases d2 : x.f0 = 2
  · exact one_2 x Ad cd Ak ck h hG hi hm hz hs ht hn hCd hbx hCk d2
  by_cases d3 : x.f0 = 3
  · exact one_3 x Ad cd Ak ck h hG hi hm hz hs ht hn hCd hbx hCk d3
  by_cases d4 : x.f0 = 4
  · exact one_4 x Ad cd Ak ck h hG hi hm hz hs ht hn hCd hbx hCk d4
  by_cases d5 : x.f0 = 5
  · exact one_5 x Ad cd Ak ck h hG hi hm hz hs ht hn hCd hbx hCk d5
  exact one_6 x Ad cd Ak ck h hG hi hm hz hs ht hn hCd hbx hCk ⟨d0, d1, d2, d3, d4, d5⟩
end Go.Proofs.Ytobgijpbfmpdaaa.Rk
/- prompterlaw25.told. -/
set_option linter.unusedVariables false
set_option linter.unusedSimpArgs false
set_option maxRecDepth 100000
namespace Go.Proofs.Ytobgijpbfmpdaaa.Rk
open Go.RowKit Go.Proofs.YtobgijpbfmpdaaaW.PrintWords Go.Proofs.YtobgijpbfmpdaaaW.PrintLast Go.Proofs.YtobgijpbfmpdaaaW.PrintMore
open Go.Proofs.Ytobgijpbfmpdaaa.Fm Go.Proofs.Ytobgijpbfmpdaaa.Mp Go.Proofs.Ytobgijpbfmpdaaa.PDq
open Go.Proofs.Ytobgijpbfmpdaaa.Dk (Cont Fls cur Dsk strs off_dsk read_dsk waits_dsk names_dsk strs_length)
set_option maxHeartbeats 16000000
theorem inRow_of_R {W : World} {base n c : Nat} {ok : Nat → Prop} {A : Option Addr} {x : List Int} (h : Kd.R (Kd.int .u8) 5 W base ok (.slice A n c) x) (hp : 0 < x.length) : ∃ b, A = some ⟨b, 0, none⟩ ∧ base ≤ b ∧ InRow W b x.length := by
  obtain ⟨b, cap, hb, h1, h2, ds, hds⟩ := Kd.R_form h hp
  have hn := (Kd.R_reads' h).1
  subst hn
  injection hb with hA _ hc
  subst hA
  refine ⟨b, rfl, h1, ds, 0, 0, hds, ?_, .inr rfl⟩
  rcases Nat.lt_or_ge ds.size x.length with hlt | hge
  · have := (Kd.R_celln (0 : Int) (hc ▸ h) ((x.length - 1 : Nat) : Int) (by omega) (by omega)).1
    rw [Int.toNat_natCast, blk_cell hds, Array.getElem?_eq_none (by omega)] at this
    cases this
  · exact hge
theorem told_c (g b n : Nat) (off : Bool) (z : Int) (F : Fls) (S : Nat → Prop) (r base : Nat) (ok : Nat → Prop) (W : World) (D : Dsk W g b n off z F S) (R : Rsk W r base ok (LF F) off z) (hr : Ris F) (hl : F.length ≤ 1000) (hc : ∀ p ∈ F, p.2.2 ≤ p.2.1.length ∧ p.2.1.length ≤ 1000000 ∧ p.1.length ≤ 1000000) :
    Calls Try.prog 76 #[.pointer (some ⟨g, 0, none⟩), .pointer (some ⟨r, 0, none⟩)] W fun e W' => e = .returned (.bool true) ∧ Below W.heap.size W W' := by
  have hsl : (strs (F.map (·.1))).length = F.length := by rw [strs_length, List.length_map]
  have Hsl := Aside0.mk hsl
  have HD := Aside0.mk D
  have HR := Aside0.mk R
  have Hc := Aside0.mk hc
  clear D R hc hsl
  cases off
  · go_enter Try.func76, Try.ntmps76
    go_wp2_with (first
      | ((with_reducible refine gate_callee (f := 71) rfl ?_); refine goesL_ (some 14) rfl rfl Try.func71 (by kernel_rfl) rfl #[.pointer (some ⟨g, 0, none⟩)] rfl (by (try simp only [List.map_toArray, List.map_cons, List.map_nil]); first | done | rfl) ?_; refine (names_dsk _ _ _ _ _ _ _ _ HD.out hr (by omega)).mono ?_; rintro e w2 ⟨An, cn, rfl, hfn, hb⟩; refine ⟨_, rfl, ?_⟩; have HCN := Aside0.mk (hfn rfl).1; have HFN := Aside0.mk (hfn rfl).2; rw [Hsl.out] at HCN HFN; try rw [Hsl.out]; have HB2 := Aside0.mk hb; have HD2 := Aside0.mk (HD.out.below hb); have HR2 := Aside0.mk (HR.out.below hb); clear hfn hb)
      | fail)
    have r1 := HR2.out.c1
    refine start_ (n := 7) (S := fun w' => w'.cell? ⟨r, 1, none⟩ = some (.bool false)) (ds := []) #[false, false, false, false, false, false, false] (by kernel_rfl) rfl rfl r1 (fun hHeld => ?_)
    refine pure_ (i := 0) (N := some 17) (v := ?_) (a' := ?_) #[true, false, false, false, false, false, false] rfl rfl (by kernel_rfl) (fun _ _ _ h => h) (Or.inl ⟨by rfl, ?_⟩) ?_ ?_
    rotate_left
    · intro w'
      go_simp
      with_reducible rfl
    rotate_left
    · simp only [Act.put, List.setIfInBounds_toArray, List.set_cons_zero, List.set_cons_succ, i64_w, i32_w]
      rfl
    refine pure_ (i := 2) (N := some 19) (v := ?_) (a' := ?_) #[true, false, true, false, false, false, false] rfl rfl (by kernel_rfl) (fun _ _ _ h => h) (Or.inl ⟨by rfl, ?_⟩) ?_ ?_
    rotate_left
    · intro w'
      go_simp
      with_reducible rfl
    rotate_left
    · simp only [Act.put, List.setIfInBounds_toArray, List.set_cons_zero, List.set_cons_succ, i64_w, i32_w]
      rfl
    refine pure_ (i := 3) (N := some 20) (v := ?_) (a' := ?_) #[true, false, true, true, false, false, false] rfl rfl (by kernel_rfl) (fun _ _ _ h => h) (Or.inl ⟨by rfl, ?_⟩) ?_ ?_
    rotate_left
    · intro w'
      go_simp
      with_reducible rfl
    rotate_left
    · simp only [Act.put, List.setIfInBounds_toArray, List.set_cons_zero, List.set_cons_succ, i64_w, i32_w]
      rfl
    refine pure_ (i := 4) (N := some 21) (v := ?_) (a' := ?_) #[true, false, true, true, true, false, false] rfl rfl (by kernel_rfl) (fun _ _ _ h => h) (Or.inl ⟨by rfl, ?_⟩) ?_ ?_
    rotate_left
    · intro w'
      go_simp
      with_reducible rfl
    rotate_left
    · simp only [Act.put, List.setIfInBounds_toArray, List.set_cons_zero, List.set_cons_succ, i64_w, i32_w]
      rfl
    refine take_ (i := 5) (N := some 22) (v := ?_) (a' := ?_) #[true, false, true, true, true, true, false] rfl rfl (by kernel_rfl) (fun _ _ _ h => h) (Or.inl ⟨by rfl, ?_⟩) hHeld ?_ ?_
    rotate_left
    · intro w' hS_
      skip
      go_simp
      with_reducible rfl
    rotate_left
    · simp only [Act.put, List.setIfInBounds_toArray, List.set_cons_zero, List.set_cons_succ, i64_w, i32_w]
      rfl
    refine one_ (i := 1) (N := some 18) #[true, true, true, true, true, true, false] rfl rfl (by kernel_rfl) (by decide) (fun K hK => ?_)
    refine goes_ Try.func70 (by kernel_rfl) rfl #[.pointer (some ⟨g, 0, none⟩)] (by rfl) rfl rfl (by (try simp only [List.map_toArray, List.map_cons, List.map_nil]); first | done | rfl) ?_
    refine (off_dsk _ _ _ _ _ _ _ _ (HD2.out.below (below_drew (Below.refl _ _)))).mono ?_
    rintro e w' ⟨rfl, hw⟩
    have hw := hw.symm
    subst hw
    refine ⟨_, rfl, ?_⟩
    refine hK.out _ _ hHeld (fun hHeld => ?_)
    clear hK K
    refine norm_ (a' := ?_) ?_ ?_
    rotate_left
    · show Act.put _ (some 18) _ = _
      simp only [Act.put, List.setIfInBounds_toArray, List.set_cons_zero, List.set_cons_succ, i64_w, i32_w]
      rfl
    refine pure_ (i := 6) (N := some 23) (v := ?_) (a' := ?_) #[true, true, true, true, true, true, true] rfl rfl (by kernel_rfl) (fun _ _ _ h => h) (Or.inl ⟨by rfl, ?_⟩) ?_ ?_
    rotate_left
    · intro w'
      go_simp
      with_reducible rfl
    rotate_left
    · simp only [Act.put, List.setIfInBounds_toArray, List.set_cons_zero, List.set_cons_succ, i64_w, i32_w]
      rfl
    refine done_ (by kernel_rfl) ?_
    have HR3 := Aside0.mk (HR2.out.below (below_drew (Below.refl _ _)))
    have HD3 := Aside0.mk (HD2.out.below (below_drew (Below.refl _ _)))
    have HFN3 := Aside0.mk (Kd.F_drew HFN.out)
    have HB3 := Aside0.mk (below_drew HB2.out)
    have r1 := HR3.out.c1
    obtain ⟨w3, hw3⟩ : ∃ w3, w3 = w2.drew := ⟨_, rfl⟩
    rw [← hw3] at HR3 HD3 HFN3 HB3 r1 ⊢
    obtain ⟨AL, cL, h1, h2⟩ := HR3.out.ex
    rw [LF_length] at h1 h2
    have d0 : w3.cell? ⟨r, 0, none⟩ = some (.slice AL F.length cL) := by rw [blk_cell h1]; rfl
    have HCL := Aside0.mk (Kd.R_reads' h2).2.2
    have hl64 : (F.length : Int) ≤ 1000 := by omega
    clear h1 h2 hw3 hHeld HR2 HD2 HFN HB2
    go_wp2_with (fail)
    clear r1
    go_loopg [7] F.length (fun kk v7 wr => ∃ i : Nat, v7 = .int .i64 i ∧ Aside0 (i ≤ F.length ∧ kk = F.length - i) ∧ Aside0 (Below w3.heap.size w3 wr))
    case atStart => exact ⟨0, rfl, ⟨Nat.zero_le _, rfl⟩, ⟨Below.refl _ _⟩⟩
    case round =>
      obtain ⟨i, rfl, hi, HB⟩ := hrel
      replace d0 := pw_cell_below HB.out d0
      by_cases hlt : i < F.length
      · have e1 : decide ((i : Int) < (F.length : Int)) = true := decide_eq_true (by omega)
        have e2 : decide (i < F.length) = true := decide_eq_true hlt
        have e3 : (i : Int) < (F.length : Int) := by omega
        have e4 : (0 : Int) ≤ (i : Int) := by omega
        obtain ⟨p, hp⟩ : ∃ p, p = F[i] := ⟨_, rfl⟩
        have hpm : p ∈ F := by rw [hp]; exact List.getElem_mem hlt
        have hcp := Hc.out p hpm
        obtain ⟨y, hy⟩ : ∃ y, y = fileS p := ⟨_, rfl⟩
        have hrd : rd_T187 (LF F) (i : Int) = y := by rw [rd_LF hlt, ← hp, hy]
        obtain ⟨ad, eA, q0, q1, q2⟩ := at_T187 HCL.out (i : Int) e4 (by rw [LF_length]; exact e3)
        rw [Int.toNat_natCast, hrd] at q0 q1 q2
        replace q0 := pw_cell_below HB.out q0
        replace q1 := pw_cell_below HB.out q1
        replace q2 := pw_cell_below HB.out q2
        subst eA
        obtain ⟨an, csn, eN, _, hKn, hcelln⟩ := Kd.C_get (Kd.C_below (Kd.F_now HFN3.out) HB.out) ByteArray.empty (i : Int) e4 e3
        rw [Int.toNat_natCast] at hKn hcelln
        have hnm : (strs (F.map (·.1))).getD i ByteArray.empty = y.f0 := by
          rw [hy]
          unfold Dk.strs
          rw [List.getD_eq_getElem?_getD, List.getElem?_map, List.getElem?_map, List.getElem?_eq_getElem hlt, hp]; rfl
        rw [hnm] at hKn
        subst eN
        have hKn' : csn = [.string y.f0] := hKn
        subst hKn'
        have cN := hcelln 0 _ rfl
        rw [show Kd.string.sz = 1 from rfl, Nat.mul_one, Nat.add_zero] at cN
        have hkey : y.f0.data.toList = p.1 := by rw [hy]; rfl
        have hget : Mp.get F y.f0.data.toList = some p.2 := by rw [hkey]; exact get_mem hr hpm
        have hcur : cur F y.f0.data.toList = p.2 := by unfold Dk.cur; rw [hget]; rfl
        have hread : Dk.readR false F y.f0.data.toList = (p.2.1, 0) := by unfold Dk.readR; rw [hget, hcur]; rfl
        have hall : y.f1 ++ y.f2 = strOfNums p.2.1 := by rw [hy]; exact fileS_all p
        have hsz2 : ((p.2.1.length - p.2.2 : Nat) : Int) = (y.f2.size : Int) := by rw [hy]; unfold fileS; dsimp only; rw [strOfNums_size, List.length_drop]
        have hss : y.f1.size + y.f2.size ≤ 1000000 := by
          rw [hy]; unfold fileS; dsimp only; rw [strOfNums_size, strOfNums_size, List.length_drop, List.length_take]; omega
        have hs : y.f0.size ≤ maxLen := by
          have : y.f0.size = p.1.length := by rw [← hkey, Array.length_toList]; rfl
          rw [this]; exact Nat.le_trans hcp.2.2 (by decide)
        obtain ⟨x, hx⟩ : ∃ x, x = p.2.1 := ⟨_, rfl⟩
        obtain ⟨last, hla⟩ : ∃ last, last = p.2.2 := ⟨_, rfl⟩
        have hcx : (cur F y.f0.data.toList).2 ≤ (cur F y.f0.data.toList).1.length ∧ (cur F y.f0.data.toList).1.length ≤ 1000000 := by rw [hcur]; omega
        have hwt : (((cur F y.f0.data.toList).1.length - (cur F y.f0.data.toList).2 : Nat) : Int) = (y.f2.size : Int) := by rw [hcur]; exact hsz2
        rw [← hx] at hread hall
        have hxl : x.length ≤ 1000000 := by rw [hx]; exact hcp.2.1
        have HRD := Aside0.mk hread
        have HAL := Aside0.mk hall
        have HS := Aside0.mk hs
        have HCX := Aside0.mk hcx
        have HWT := Aside0.mk hwt
        have Hsz : Aside0 (y.f1.size + y.f2.size ≤ 1000000) := ⟨hss⟩
        have HXL := Aside0.mk hxl
        clear hread hall hs hcx hwt hx hla hsz2 hcur hget hkey hnm hKn hcelln hrd hy hcp hpm hp hxl
        go_wp2_with (first
          | ((with_reducible refine gate_callee (f := 65) rfl ?_); refine goesL_ (some 64) rfl rfl Try.func65 (by kernel_rfl) rfl #[.pointer (some ⟨g, 0, none⟩), .string y.f0] rfl (by (try simp only [List.map_toArray, List.map_cons, List.map_nil]); first | done | rfl) ?_; have hba := below_alloc HB.out (.cells #[.string y.f0, .string y.f1, .string y.f2] 187); refine (read_dsk _ _ _ _ _ _ _ y.f0 HS.out _ (HD3.out.below hba) HCX.out.2).mono ?_; rintro e w4 ⟨v4, he, hR, hb⟩; rw [HRD.out] at he hR; subst he; dsimp only at hR; obtain ⟨A4, c4, e4_⟩ := Kd.R_slice hR; subst e4_; refine ⟨_, rfl, ?_⟩; have HR4 := Aside0.mk hR; have HB4 := Aside0.mk (below_step hba hb); have Hb4 := Aside0.mk hb; clear hR hb hba)
          | fail)
        have hrb := below_step (below_alloc (Below.refl _ wr) (.cells #[.string y.f0, .string y.f1, .string y.f2] 187)) Hb4.out
        have hq4 := blk_below (blk_new wr (.cells #[.string y.f0, .string y.f1, .string y.f2] 187)) Hb4.out
        have cN4 := pw_cell_below hrb cN
        obtain ⟨q, hq⟩ : ∃ q, q = wr.heap.size := ⟨_, rfl⟩
        rw [← hq] at hq4 ⊢
        have t0 : w4.cell? ⟨q, 0, none⟩ = some (.string y.f0) := by rw [blk_cell hq4]; rfl
        have t1 : w4.cell? ⟨q, 1, none⟩ = some (.string y.f1) := by rw [blk_cell hq4]; rfl
        have t2 : w4.cell? ⟨q, 2, none⟩ = some (.string y.f2) := by rw [blk_cell hq4]; rfl
        have hC4 : Kd.C (Kd.int .u8) w4 A4 x.length x := (Kd.R_reads' HR4.out).2.2
        have hcv : ∀ w', Kd.C (Kd.int .u8) w' A4 x.length x → (convert 22 9 (.slice A4 x.length c4)).run Try.prog w' = .ok (.string (strOfNums x)) w' := fun w' h => Kd.C_string (P := Try.prog) Try.underlying22 Try.underlying5 Try.underlying9 (c := c4) h
        have HCV := Aside0.mk hcv
        have hss : (9223372036854775807 < y.f1.size + y.f2.size) = False := eq_false (by have := Hsz.out; omega)
        have hall := HAL.out
        have HBR : Aside0 (Below w4.heap.size w4 w4) := ⟨Below.refl _ _⟩
        clear hrb hq4 hcv hq q0 q1 q2 cN d0
        refine start_ (n := 31) (S := fun w' => w'.cell? (an.add i) = some (.string y.f0) ∧ w'.cell? ⟨q, 0, none⟩ = some (.string y.f0) ∧ w'.cell? ⟨q, 1, none⟩ = some (.string y.f1) ∧ w'.cell? ⟨q, 2, none⟩ = some (.string y.f2) ∧ Kd.C (Kd.int .u8) w' A4 x.length x) (ds := []) #[false, false, false, false, false, false, false, false, false, false, false, false, false, false, false, false, false, false, false, false, false, false, false, false, false, false, false, false, false, false, false] (by kernel_rfl) rfl rfl ⟨cN4, t0, t1, t2, Kd.C_drew hC4⟩ (fun hHeld => ?_)
        refine pure_ (i := 0) (N := some 67) (v := ?_) (a' := ?_) #[true, false, false, false, false, false, false, false, false, false, false, false, false, false, false, false, false, false, false, false, false, false, false, false, false, false, false, false, false, false, false] rfl rfl (by kernel_rfl) (fun _ _ _ h => h) (Or.inl ⟨by rfl, ?_⟩) ?_ ?_
        rotate_left
        · intro w'
          go_simp
          with_reducible rfl
        rotate_left
        · simp only [Act.put, List.setIfInBounds_toArray, List.set_cons_zero, List.set_cons_succ, i64_w, i32_w]
          rfl
        refine pure_ (i := 1) (N := some 68) (v := ?_) (a' := ?_) #[true, true, false, false, false, false, false, false, false, false, false, false, false, false, false, false, false, false, false, false, false, false, false, false, false, false, false, false, false, false, false] rfl rfl (by kernel_rfl) (fun _ _ _ h => h) (Or.inl ⟨by rfl, ?_⟩) ?_ ?_
        rotate_left
        · intro w'
          go_simp
          with_reducible rfl
        rotate_left
        · simp only [Act.put, List.setIfInBounds_toArray, List.set_cons_zero, List.set_cons_succ, i64_w, i32_w]
          rfl
        refine pure_ (i := 2) (N := some 69) (v := ?_) (a' := ?_) #[true, true, true, false, false, false, false, false, false, false, false, false, false, false, false, false, false, false, false, false, false, false, false, false, false, false, false, false, false, false, false] rfl rfl (by kernel_rfl) (fun _ _ _ h => h) (Or.inl ⟨by rfl, ?_⟩) ?_ ?_
        rotate_left
        · intro w'
          go_simp
          with_reducible rfl
        rotate_left
        · simp only [Act.put, List.setIfInBounds_toArray, List.set_cons_zero, List.set_cons_succ, i64_w, i32_w]
          rfl
        refine take_ (i := 3) (N := some 70) (v := ?_) (a' := ?_) #[true, true, true, true, false, false, false, false, false, false, false, false, false, false, false, false, false, false, false, false, false, false, false, false, false, false, false, false, false, false, false] rfl rfl (by kernel_rfl) (fun _ _ _ h => h) (Or.inl ⟨by rfl, ?_⟩) hHeld ?_ ?_
        rotate_left
        · intro w' hS_
          obtain ⟨s0_, s1_, s2_, s3_, s4_⟩ := hS_
          have cv_ := HCV.out _ s4_
          clear s4_
          go_simp
          with_reducible rfl
        rotate_left
        · simp only [Act.put, List.setIfInBounds_toArray, List.set_cons_zero, List.set_cons_succ, i64_w, i32_w]
          rfl
        refine pure_ (i := 4) (N := some 71) (v := ?_) (a' := ?_) #[true, true, true, true, true, false, false, false, false, false, false, false, false, false, false, false, false, false, false, false, false, false, false, false, false, false, false, false, false, false, false] rfl rfl (by kernel_rfl) (fun _ _ _ h => h) (Or.inl ⟨by rfl, ?_⟩) ?_ ?_
        rotate_left
        · intro w'
          go_simp
          with_reducible rfl
        rotate_left
        · simp only [Act.put, List.setIfInBounds_toArray, List.set_cons_zero, List.set_cons_succ, i64_w, i32_w]
          rfl
        refine take_ (i := 5) (N := some 72) (v := ?_) (a' := ?_) #[true, true, true, true, true, true, false, false, false, false, false, false, false, false, false, false, false, false, false, false, false, false, false, false, false, false, false, false, false, false, false] rfl rfl (by kernel_rfl) (fun _ _ _ h => h) (Or.inl ⟨by rfl, ?_⟩) hHeld ?_ ?_
        rotate_left
        · intro w' hS_
          obtain ⟨s0_, s1_, s2_, s3_, s4_⟩ := hS_
          have cv_ := HCV.out _ s4_
          clear s4_
          go_simp
          with_reducible rfl
        rotate_left
        · simp only [Act.put, List.setIfInBounds_toArray, List.set_cons_zero, List.set_cons_succ, i64_w, i32_w]
          rfl
        refine pure_ (i := 6) (N := some 73) (v := ?_) (a' := ?_) #[true, true, true, true, true, true, true, false, false, false, false, false, false, false, false, false, false, false, false, false, false, false, false, false, false, false, false, false, false, false, false] rfl rfl (by kernel_rfl) (fun _ _ _ h => h) (Or.inl ⟨by rfl, ?_⟩) ?_ ?_
        rotate_left
        · intro w'
          go_simp
          with_reducible rfl
        rotate_left
        · simp only [Act.put, List.setIfInBounds_toArray, List.set_cons_zero, List.set_cons_succ, i64_w, i32_w]
          rfl
        refine pure_ (i := 7) (N := some 74) (v := ?_) (a' := ?_) #[true, true, true, true, true, true, true, true, false, false, false, false, false, false, false, false, false, false, false, false, false, false, false, false, false, false, false, false, false, false, false] rfl rfl (by kernel_rfl) (fun _ _ _ h => h) (Or.inl ⟨by rfl, ?_⟩) ?_ ?_
        rotate_left
        · intro w'
          go_simp
          with_reducible rfl
        rotate_left
        · simp only [Act.put, List.setIfInBounds_toArray, List.set_cons_zero, List.set_cons_succ, i64_w, i32_w]
          rfl
        refine pure_ (i := 8) (N := some 75) (v := ?_) (a' := ?_) #[true, true, true, true, true, true, true, true, true, false, false, false, false, false, false, false, false, false, false, false, false, false, false, false, false, false, false, false, false, false, false] rfl rfl (by kernel_rfl) (fun _ _ _ h => h) (Or.inl ⟨by rfl, ?_⟩) ?_ ?_
        rotate_left
        · intro w'
          go_simp
          with_reducible rfl
        rotate_left
        · simp only [Act.put, List.setIfInBounds_toArray, List.set_cons_zero, List.set_cons_succ, i64_w, i32_w]
          rfl
        refine pure_ (i := 9) (N := some 76) (v := ?_) (a' := ?_) #[true, true, true, true, true, true, true, true, true, true, false, false, false, false, false, false, false, false, false, false, false, false, false, false, false, false, false, false, false, false, false] rfl rfl (by kernel_rfl) (fun _ _ _ h => h) (Or.inl ⟨by rfl, ?_⟩) ?_ ?_
        rotate_left
        · intro w'
          go_simp
          with_reducible rfl
        rotate_left
        · simp only [Act.put, List.setIfInBounds_toArray, List.set_cons_zero, List.set_cons_succ, i64_w, i32_w]
          rfl
        refine pure_ (i := 10) (N := some 77) (v := ?_) (a' := ?_) #[true, true, true, true, true, true, true, true, true, true, true, false, false, false, false, false, false, false, false, false, false, false, false, false, false, false, false, false, false, false, false] rfl rfl (by kernel_rfl) (fun _ _ _ h => h) (Or.inl ⟨by rfl, ?_⟩) ?_ ?_
        rotate_left
        · intro w'
          go_simp
          with_reducible rfl
        rotate_left
        · simp only [Act.put, List.setIfInBounds_toArray, List.set_cons_zero, List.set_cons_succ, i64_w, i32_w]
          rfl
        refine pure_ (i := 11) (N := some 78) (v := ?_) (a' := ?_) #[true, true, true, true, true, true, true, true, true, true, true, true, false, false, false, false, false, false, false, false, false, false, false, false, false, false, false, false, false, false, false] rfl rfl (by kernel_rfl) (fun _ _ _ h => h) (Or.inl ⟨by rfl, ?_⟩) ?_ ?_
        rotate_left
        · intro w'
          go_simp
          with_reducible rfl
        rotate_left
        · simp only [Act.put, List.setIfInBounds_toArray, List.set_cons_zero, List.set_cons_succ, i64_w, i32_w]
          rfl
        refine pure_ (i := 12) (N := some 79) (v := ?_) (a' := ?_) #[true, true, true, true, true, true, true, true, true, true, true, true, true, false, false, false, false, false, false, false, false, false, false, false, false, false, false, false, false, false, false] rfl rfl (by kernel_rfl) (fun _ _ _ h => h) (Or.inl ⟨by rfl, ?_⟩) ?_ ?_
        rotate_left
        · intro w'
          go_simp
          with_reducible rfl
        rotate_left
        · simp only [Act.put, List.setIfInBounds_toArray, List.set_cons_zero, List.set_cons_succ, i64_w, i32_w]
          rfl
        refine take_ (i := 13) (N := some 80) (v := ?_) (a' := ?_) #[true, true, true, true, true, true, true, true, true, true, true, true, true, true, false, false, false, false, false, false, false, false, false, false, false, false, false, false, false, false, false] rfl rfl (by kernel_rfl) (fun _ _ _ h => h) (Or.inl ⟨by rfl, ?_⟩) hHeld ?_ ?_
        rotate_left
        · intro w' hS_
          obtain ⟨s0_, s1_, s2_, s3_, s4_⟩ := hS_
          have cv_ := HCV.out _ s4_
          clear s4_
          go_simp
          with_reducible rfl
        rotate_left
        · simp only [Act.put, List.setIfInBounds_toArray, List.set_cons_zero, List.set_cons_succ, i64_w, i32_w]
          rfl
        refine pure_ (i := 14) (N := some 81) (v := ?_) (a' := ?_) #[true, true, true, true, true, true, true, true, true, true, true, true, true, true, true, false, false, false, false, false, false, false, false, false, false, false, false, false, false, false, false] rfl rfl (by kernel_rfl) (fun _ _ _ h => h) (Or.inl ⟨by rfl, ?_⟩) ?_ ?_
        rotate_left
        · intro w'
          go_simp
          with_reducible rfl
        rotate_left
        · simp only [Act.put, List.setIfInBounds_toArray, List.set_cons_zero, List.set_cons_succ, i64_w, i32_w]
          rfl
        refine take_ (i := 15) (N := some 82) (v := ?_) (a' := ?_) #[true, true, true, true, true, true, true, true, true, true, true, true, true, true, true, true, false, false, false, false, false, false, false, false, false, false, false, false, false, false, false] rfl rfl (by kernel_rfl) (fun _ _ _ h => h) (Or.inl ⟨by rfl, ?_⟩) hHeld ?_ ?_
        rotate_left
        · intro w' hS_
          obtain ⟨s0_, s1_, s2_, s3_, s4_⟩ := hS_
          have cv_ := HCV.out _ s4_
          clear s4_
          go_simp
          with_reducible rfl
        rotate_left
        · simp only [Act.put, List.setIfInBounds_toArray, List.set_cons_zero, List.set_cons_succ, i64_w, i32_w]
          rfl
        refine pure_ (i := 16) (N := some 83) (v := ?_) (a' := ?_) #[true, true, true, true, true, true, true, true, true, true, true, true, true, true, true, true, true, false, false, false, false, false, false, false, false, false, false, false, false, false, false] rfl rfl (by kernel_rfl) (fun _ _ _ h => h) (Or.inl ⟨by rfl, ?_⟩) ?_ ?_
        rotate_left
        · intro w'
          go_simp
          with_reducible rfl
        rotate_left
        · simp only [Act.put, List.setIfInBounds_toArray, List.set_cons_zero, List.set_cons_succ, i64_w, i32_w]
          rfl
        refine take_ (i := 17) (N := some 84) (v := ?_) (a' := ?_) #[true, true, true, true, true, true, true, true, true, true, true, true, true, true, true, true, true, true, false, false, false, false, false, false, false, false, false, false, false, false, false] rfl rfl (by kernel_rfl) (fun _ _ _ h => h) (Or.inl ⟨by rfl, ?_⟩) hHeld ?_ ?_
        rotate_left
        · intro w' hS_
          obtain ⟨s0_, s1_, s2_, s3_, s4_⟩ := hS_
          have cv_ := HCV.out _ s4_
          clear s4_
          go_simp
          with_reducible rfl
        rotate_left
        · simp only [Act.put, List.setIfInBounds_toArray, List.set_cons_zero, List.set_cons_succ, i64_w, i32_w]
          rfl
        refine pure_ (i := 18) (N := some 85) (v := ?_) (a' := ?_) #[true, true, true, true, true, true, true, true, true, true, true, true, true, true, true, true, true, true, true, false, false, false, false, false, false, false, false, false, false, false, false] rfl rfl (by kernel_rfl) (fun _ _ _ h => h) (Or.inl ⟨by rfl, ?_⟩) ?_ ?_
        rotate_left
        · intro w'
          go_simp
          with_reducible rfl
        rotate_left
        · simp only [Act.put, List.setIfInBounds_toArray, List.set_cons_zero, List.set_cons_succ, i64_w, i32_w]
          rfl
        refine pure_ (i := 19) (N := some 86) (v := ?_) (a' := ?_) #[true, true, true, true, true, true, true, true, true, true, true, true, true, true, true, true, true, true, true, true, false, false, false, false, false, false, false, false, false, false, false] rfl rfl (by kernel_rfl) (fun _ _ _ h => h) (Or.inl ⟨by rfl, ?_⟩) ?_ ?_
        rotate_left
        · intro w'
          go_simp
          with_reducible rfl
        rotate_left
        · simp only [Act.put, List.setIfInBounds_toArray, List.set_cons_zero, List.set_cons_succ, i64_w, i32_w]
          rfl
        refine pure_ (i := 20) (N := some 87) (v := ?_) (a' := ?_) #[true, true, true, true, true, true, true, true, true, true, true, true, true, true, true, true, true, true, true, true, true, false, false, false, false, false, false, false, false, false, false] rfl rfl (by kernel_rfl) (fun _ _ _ h => h) (Or.inl ⟨by rfl, ?_⟩) ?_ ?_
        rotate_left
        · intro w'
          go_simp
          with_reducible rfl
        rotate_left
        · simp only [Act.put, List.setIfInBounds_toArray, List.set_cons_zero, List.set_cons_succ, i64_w, i32_w]
          rfl
        refine pure_ (i := 21) (N := some 88) (v := ?_) (a' := ?_) #[true, true, true, true, true, true, true, true, true, true, true, true, true, true, true, true, true, true, true, true, true, true, false, false, false, false, false, false, false, false, false] rfl rfl (by kernel_rfl) (fun _ _ _ h => h) (Or.inl ⟨by rfl, ?_⟩) ?_ ?_
        rotate_left
        · intro w'
          go_simp
          with_reducible rfl
        rotate_left
        · simp only [Act.put, List.setIfInBounds_toArray, List.set_cons_zero, List.set_cons_succ, i64_w, i32_w]
          rfl
        refine pure_ (i := 22) (N := some 89) (v := ?_) (a' := ?_) #[true, true, true, true, true, true, true, true, true, true, true, true, true, true, true, true, true, true, true, true, true, true, true, false, false, false, false, false, false, false, false] rfl rfl (by kernel_rfl) (fun _ _ _ h => h) (Or.inl ⟨by rfl, ?_⟩) ?_ ?_
        rotate_left
        · intro w'
          go_simp
          with_reducible rfl
        rotate_left
        · simp only [Act.put, List.setIfInBounds_toArray, List.set_cons_zero, List.set_cons_succ, i64_w, i32_w]
          rfl
        refine pure_ (i := 23) (N := some 90) (v := ?_) (a' := ?_) #[true, true, true, true, true, true, true, true, true, true, true, true, true, true, true, true, true, true, true, true, true, true, true, true, false, false, false, false, false, false, false] rfl rfl (by kernel_rfl) (fun _ _ _ h => h) (Or.inl ⟨by rfl, ?_⟩) ?_ ?_
        rotate_left
        · intro w'
          go_simp
          with_reducible rfl
        rotate_left
        · simp only [Act.put, List.setIfInBounds_toArray, List.set_cons_zero, List.set_cons_succ, i64_w, i32_w]
          rfl
        refine take_ (i := 24) (N := some 91) (v := ?_) (a' := ?_) #[true, true, true, true, true, true, true, true, true, true, true, true, true, true, true, true, true, true, true, true, true, true, true, true, true, false, false, false, false, false, false] rfl rfl (by kernel_rfl) (fun _ _ _ h => h) (Or.inl ⟨by rfl, ?_⟩) hHeld ?_ ?_
        rotate_left
        · intro w' hS_
          obtain ⟨s0_, s1_, s2_, s3_, s4_⟩ := hS_
          have cv_ := HCV.out _ s4_
          clear s4_
          go_simp
          with_reducible rfl
        rotate_left
        · simp only [Act.put, List.setIfInBounds_toArray, List.set_cons_zero, List.set_cons_succ, i64_w, i32_w]
          rfl
        refine pure_ (i := 26) (N := some 93) (v := ?_) (a' := ?_) #[true, true, true, true, true, true, true, true, true, true, true, true, true, true, true, true, true, true, true, true, true, true, true, true, true, false, true, false, false, false, false] rfl rfl (by kernel_rfl) (fun _ _ _ h => h) (Or.inl ⟨by rfl, ?_⟩) ?_ ?_
        rotate_left
        · intro w'
          go_simp
          with_reducible rfl
        rotate_left
        · simp only [Act.put, List.setIfInBounds_toArray, List.set_cons_zero, List.set_cons_succ, i64_w, i32_w]
          rfl
        refine take_ (i := 27) (N := some 94) (v := ?_) (a' := ?_) #[true, true, true, true, true, true, true, true, true, true, true, true, true, true, true, true, true, true, true, true, true, true, true, true, true, false, true, true, false, false, false] rfl rfl (by kernel_rfl) (fun _ _ _ h => h) (Or.inl ⟨by rfl, ?_⟩) hHeld ?_ ?_
        rotate_left
        · intro w' hS_
          obtain ⟨s0_, s1_, s2_, s3_, s4_⟩ := hS_
          have cv_ := HCV.out _ s4_
          clear s4_
          go_simp
          with_reducible rfl
        rotate_left
        · simp only [Act.put, List.setIfInBounds_toArray, List.set_cons_zero, List.set_cons_succ, i64_w, i32_w]
          rfl
        refine pure_ (i := 28) (N := some 95) (v := ?_) (a' := ?_) #[true, true, true, true, true, true, true, true, true, true, true, true, true, true, true, true, true, true, true, true, true, true, true, true, true, false, true, true, true, false, false] rfl rfl (by kernel_rfl) (fun _ _ _ h => h) (Or.inl ⟨by rfl, ?_⟩) ?_ ?_
        rotate_left
        · intro w'
          go_simp
          with_reducible rfl
        rotate_left
        · simp only [Act.put, List.setIfInBounds_toArray, List.set_cons_zero, List.set_cons_succ, i64_w, i32_w]
          rfl
        refine one_ (i := 25) (N := some 92) #[true, true, true, true, true, true, true, true, true, true, true, true, true, true, true, true, true, true, true, true, true, true, true, true, true, true, true, true, true, false, false] rfl rfl (by kernel_rfl) (by decide) (fun K hK => ?_)
        refine goes_ Try.func67 (by kernel_rfl) rfl #[.pointer (some ⟨g, 0, none⟩), .string y.f0] (by rfl) rfl rfl (by (try simp only [List.map_toArray, List.map_cons, List.map_nil]); first | done | rfl) ?_
        refine (waits_dsk _ _ _ _ _ _ _ y.f0 HS.out _ (HD3.out.below (below_drew HB4.out)) HCX.out).mono ?_
        rintro e w5 ⟨he, hb5⟩
        rw [HWT.out] at he
        subst he
        refine ⟨_, rfl, ?_⟩
        refine hK.out _ _ ⟨pw_cell_below hb5 hHeld.1, pw_cell_below hb5 hHeld.2.1, pw_cell_below hb5 hHeld.2.2.1, pw_cell_below hb5 hHeld.2.2.2.1, Kd.C_below hHeld.2.2.2.2 hb5⟩ (fun hHeld => ?_)
        clear hK K
        refine norm_ (a' := ?_) ?_ ?_
        rotate_left
        · show Act.put _ (some 92) _ = _
          simp only [Act.put, List.setIfInBounds_toArray, List.set_cons_zero, List.set_cons_succ, i64_w, i32_w]
          rfl
        refine pure_ (i := 29) (N := some 96) (v := ?_) (a' := ?_) #[true, true, true, true, true, true, true, true, true, true, true, true, true, true, true, true, true, true, true, true, true, true, true, true, true, true, true, true, true, true, false] rfl rfl (by kernel_rfl) (fun _ _ _ h => h) (Or.inl ⟨by rfl, ?_⟩) ?_ ?_
        rotate_left
        · intro w'
          go_simp
          with_reducible rfl
        rotate_left
        · simp only [Act.put, List.setIfInBounds_toArray, List.set_cons_zero, List.set_cons_succ, i64_w, i32_w]
          rfl
        refine pure_ (i := 30) (N := some 97) (v := ?_) (a' := ?_) #[true, true, true, true, true, true, true, true, true, true, true, true, true, true, true, true, true, true, true, true, true, true, true, true, true, true, true, true, true, true, true] rfl rfl (by kernel_rfl) (fun _ _ _ h => h) (Or.inl ⟨by rfl, ?_⟩) ?_ ?_
        rotate_left
        · intro w'
          go_simp
          with_reducible rfl
        rotate_left
        · simp only [Act.put, List.setIfInBounds_toArray, List.set_cons_zero, List.set_cons_succ, i64_w, i32_w]
          rfl
        refine done_ (by kernel_rfl) ?_
        clear hall hss hHeld t0 t1 t2 cN4
        go_wp2_with (fail)
        have hb3 : Below w3.heap.size w3 w5 := below_step (below_drew HB4.out) hb5
        have HB5 := Aside0.mk hb3
        have Hin5 : Aside0 (0 < x.length → ∃ b4, A4 = some ⟨b4, 0, none⟩ ∧ w3.heap.size ≤ b4 ∧ InRow w5 b4 x.length) := ⟨fun hp => by
          obtain ⟨b4, h1, h2, h3⟩ := inRow_of_R HR4.out hp
          exact ⟨b4, h1, by have := HB.out.size; have h4 : (wr.alloc (.cells #[.string y.f0, .string y.f1, .string y.f2] 187)).heap.size = wr.heap.size + 1 := Array.size_push _; omega, h3.kb (Kb.of_below (fun _ => False) (below_step (below_drew (Below.refl _ _)) hb5)) id⟩⟩
        have hxl64 : (x.length : Int) ≤ 1000000 := by have := HXL.out; omega
        clear hb3 hb5 hC4
        obtain ⟨wo, hwo⟩ : ∃ wo : World, wo = wr := ⟨_, rfl⟩
        subst hwo
        go_loopg [11] x.length (fun kk v11 wq => ∃ k : Nat, v11 = .int .i64 k ∧ Aside0 (k ≤ x.length ∧ kk = x.length - k) ∧ Aside0 (Below w3.heap.size w3 wq ∧ (0 < x.length → ∃ b4, A4 = some ⟨b4, 0, none⟩ ∧ w3.heap.size ≤ b4 ∧ InRow wq b4 x.length)))
        case atStart => exact ⟨0, rfl, ⟨Nat.zero_le _, rfl⟩, ⟨HB5.out, Hin5.out⟩⟩
        case round =>
          obtain ⟨k, rfl, hk, HQ⟩ := hrel
          by_cases hkl : k < x.length
          · have hklb : decide ((k : Int) < (x.length : Int)) = true := decide_eq_true (by omega)
            have hklb2 : decide (k < x.length) = true := decide_eq_true hkl
            have hkl3 : (k : Int) < (x.length : Int) := by omega
            obtain ⟨b4, rfl, hb4, hin⟩ := HQ.out.2 (by omega)
            obtain ⟨u, hcell⟩ := hin.cell hkl
            have hfz := hin.frozen hkl
            have HIN := Aside0.mk hin
            clear hin
            go_wp2_with (fail)
            go_roundg (x.length - (k + 1))
            case measure => have := hk.out; omega
            case rel => exact ⟨k + 1, by simp, ⟨by omega, rfl⟩, ⟨HQ.out.1.trans ((Kb.set (fun k => k = b4) _ _ _ rfl).to_below HQ.out.1.size (fun k e => by omega)), fun _ => ⟨b4, rfl, hb4, HIN.out.set _ _⟩⟩⟩
          · obtain rfl : k = x.length := by have := hk.out; omega
            have hklb : decide ((x.length : Int) < (x.length : Int)) = false := decide_eq_false (by omega)
            have hklb2 : decide (x.length < x.length) = false := decide_eq_false (by omega)
            go_wp2_with (fail)
            go_roundg (F.length - (i + 1))
            case measure => have := hi.out; omega
            case rel => exact ⟨i + 1, by simp, ⟨by omega, rfl⟩, ⟨HQ.out.1⟩⟩
      · have hie : i = F.length := by have := hi.out.1; omega
        subst hie
        have e1 : decide ((F.length : Int) < (F.length : Int)) = false := decide_eq_false (by omega)
        have e2 : decide (F.length < F.length) = false := decide_eq_false (by omega)
        go_wp2_with (fail)
        go_ret
        exact ⟨rfl, below_step HB3.out HB.out⟩
  · go_enter Try.func76, Try.ntmps76
    go_wp2_with (first
      | ((with_reducible refine gate_callee (f := 71) rfl ?_); refine goesL_ (some 14) rfl rfl Try.func71 (by kernel_rfl) rfl #[.pointer (some ⟨g, 0, none⟩)] rfl (by (try simp only [List.map_toArray, List.map_cons, List.map_nil]); first | done | rfl) ?_; refine (names_dsk _ _ _ _ _ _ _ _ HD.out hr (by omega)).mono ?_; rintro e w2 ⟨An, cn, rfl, hfn, hb⟩; refine ⟨_, rfl, ?_⟩; have HB2 := Aside0.mk hb; have HD2 := Aside0.mk (HD.out.below hb); have HR2 := Aside0.mk (HR.out.below hb); clear hfn hb)
      | fail)
    have r1 := HR2.out.c1
    refine start_ (n := 7) (S := fun w' => w'.cell? ⟨r, 1, none⟩ = some (.bool true)) (ds := []) #[false, false, false, false, false, false, false] (by kernel_rfl) rfl rfl r1 (fun hHeld => ?_)
    refine pure_ (i := 0) (N := some 17) (v := ?_) (a' := ?_) #[true, false, false, false, false, false, false] rfl rfl (by kernel_rfl) (fun _ _ _ h => h) (Or.inl ⟨by rfl, ?_⟩) ?_ ?_
    rotate_left
    · intro w'
      go_simp
      with_reducible rfl
    rotate_left
    · simp only [Act.put, List.setIfInBounds_toArray, List.set_cons_zero, List.set_cons_succ, i64_w, i32_w]
      rfl
    refine pure_ (i := 2) (N := some 19) (v := ?_) (a' := ?_) #[true, false, true, false, false, false, false] rfl rfl (by kernel_rfl) (fun _ _ _ h => h) (Or.inl ⟨by rfl, ?_⟩) ?_ ?_
    rotate_left
    · intro w'
      go_simp
      with_reducible rfl
    rotate_left
    · simp only [Act.put, List.setIfInBounds_toArray, List.set_cons_zero, List.set_cons_succ, i64_w, i32_w]
      rfl
    refine pure_ (i := 3) (N := some 20) (v := ?_) (a' := ?_) #[true, false, true, true, false, false, false] rfl rfl (by kernel_rfl) (fun _ _ _ h => h) (Or.inl ⟨by rfl, ?_⟩) ?_ ?_
    rotate_left
    · intro w'
      go_simp
      with_reducible rfl
    rotate_left
    · simp only [Act.put, List.setIfInBounds_toArray, List.set_cons_zero, List.set_cons_succ, i64_w, i32_w]
      rfl
    refine pure_ (i := 4) (N := some 21) (v := ?_) (a' := ?_) #[true, false, true, true, true, false, false] rfl rfl (by kernel_rfl) (fun _ _ _ h => h) (Or.inl ⟨by rfl, ?_⟩) ?_ ?_
    rotate_left
    · intro w'
      go_simp
      with_reducible rfl
    rotate_left
    · simp only [Act.put, List.setIfInBounds_toArray, List.set_cons_zero, List.set_cons_succ, i64_w, i32_w]
      rfl
    refine take_ (i := 5) (N := some 22) (v := ?_) (a' := ?_) #[true, false, true, true, true, true, false] rfl rfl (by kernel_rfl) (fun _ _ _ h => h) (Or.inl ⟨by rfl, ?_⟩) hHeld ?_ ?_
    rotate_left
    · intro w' hS_
      skip
      go_simp
      with_reducible rfl
    rotate_left
    · simp only [Act.put, List.setIfInBounds_toArray, List.set_cons_zero, List.set_cons_succ, i64_w, i32_w]
      rfl
    refine one_ (i := 1) (N := some 18) #[true, true, true, true, true, true, false] rfl rfl (by kernel_rfl) (by decide) (fun K hK => ?_)
    refine goes_ Try.func70 (by kernel_rfl) rfl #[.pointer (some ⟨g, 0, none⟩)] (by rfl) rfl rfl (by (try simp only [List.map_toArray, List.map_cons, List.map_nil]); first | done | rfl) ?_
    refine (off_dsk _ _ _ _ _ _ _ _ (HD2.out.below (below_drew (Below.refl _ _)))).mono ?_
    rintro e w' ⟨rfl, hw⟩
    have hw := hw.symm
    subst hw
    refine ⟨_, rfl, ?_⟩
    refine hK.out _ _ hHeld (fun hHeld => ?_)
    clear hK K
    refine norm_ (a' := ?_) ?_ ?_
    rotate_left
    · show Act.put _ (some 18) _ = _
      simp only [Act.put, List.setIfInBounds_toArray, List.set_cons_zero, List.set_cons_succ, i64_w, i32_w]
      rfl
    refine pure_ (i := 6) (N := some 23) (v := ?_) (a' := ?_) #[true, true, true, true, true, true, true] rfl rfl (by kernel_rfl) (fun _ _ _ h => h) (Or.inl ⟨by rfl, ?_⟩) ?_ ?_
    rotate_left
    · intro w'
      go_simp
      with_reducible rfl
    rotate_left
    · simp only [Act.put, List.setIfInBounds_toArray, List.set_cons_zero, List.set_cons_succ, i64_w, i32_w]
      rfl
    refine done_ (by kernel_rfl) ?_
    have r1 := HR2.out.c1
    clear hHeld
    go_wp2_with (fail)
    go_ret
    exact ⟨rfl, below_drew HB2.out⟩
end Go.Proofs.Ytobgijpbfmpdaaa.Rk
