/- A disk in memory; the contracts of its methods. -/
import Derived.Test.YtobgijpbfmpdaaaMp
import Derived.Test.YtobgijpbfmpdaaaWLast
import Derived.Test.YtobgijpbfmpdaaaWMore
import Derived.Test.YtobgijpbfmpdaaaWGuard
import Derived.Deep.AppendSrc
set_option linter.unusedVariables false
set_option linter.unusedSimpArgs false
set_option maxRecDepth 100000
namespace Go.Proofs.Ytobgijpbfmpdaaa.Dk
open Go.RowKit Go.Proofs.YtobgijpbfmpdaaaW.PrintWords Go.Proofs.YtobgijpbfmpdaaaW.PrintLast Go.Proofs.YtobgijpbfmpdaaaW.PrintMore
open Go.Proofs.Ytobgijpbfmpdaaa.Fm Go.Proofs.Ytobgijpbfmpdaaa.Mp
set_option maxHeartbeats 4000000
/-- A file: its bytes, how many of them last. -/
abbrev Cont := List Int × Nat
def FileV (W : World) (S : Nat → Prop) (v : Value) (c : Cont) : Prop := ∃ A cap, v = .agg #[.slice A c.1.length cap, .int .i64 c.2] ∧ c.1.length ≤ cap ∧ Kd.F (Kd.int .u8) W S A c.1.length c.1
/-- Files as values of a map. -/
inductive Fs (W : World) (S : Nat → Prop) : List (Ky × Value) → List (Ky × Cont) → Prop
  | nil : Fs W S [] []
  | cons {k : Ky} {v : Value} {c : Cont} {vs : List (Ky × Value)} {cs : List (Ky × Cont)} (h : FileV W S v c) (t : Fs W S vs cs) : Fs W S ((k, v) :: vs) ((k, c) :: cs)
def noFile : Value := .agg #[.slice none 0 0, .int .i64 0]
section
variable {W W1 : World} {S S' : Nat → Prop} {vs : List (Ky × Value)} {cs : List (Ky × Cont)}
theorem FileV.step {v : Value} {c : Cont} (h : FileV W S v c) (hm : ∀ k, S k → k < W.heap.size → W1.heap[k]? = W.heap[k]?) : FileV W1 S v c := by
  obtain ⟨A, cap, h1, h2, h3⟩ := h
  exact ⟨A, cap, h1, h2, Kd.F_step h3 hm⟩
theorem FileV.mono {v : Value} {c : Cont} (h : FileV W S v c) (hs : ∀ k, S k → k < W.heap.size → S' k) : FileV W S' v c := by
  obtain ⟨A, cap, h1, h2, h3⟩ := h
  exact ⟨A, cap, h1, h2, Kd.F_mono (Kd.F_bound h3) (fun k hk => hs k hk.1 hk.2)⟩
theorem Fs.imp {W1 : World} (h : Fs W S vs cs) (hi : ∀ v c, FileV W S v c → FileV W1 S' v c) : Fs W1 S' vs cs := by
  induction h with
  | nil => exact .nil
  | cons h _ ih => exact .cons (hi _ _ h) ih
theorem noFile_V (W : World) (S : Nat → Prop) : FileV W S noFile ([], 0) := ⟨none, 0, rfl, Nat.le_refl _, Kd.F_nil _ _ _⟩
theorem Fs.get (h : Fs W S vs cs) (k : Ky) : FileV W S ((Mp.get vs k).getD noFile) ((Mp.get cs k).getD ([], 0)) ∧ (Mp.get vs k).isSome = (Mp.get cs k).isSome := by
  induction h with
  | nil => exact ⟨noFile_V W S, rfl⟩
  | @cons k' v c vs cs h _ ih =>
    unfold Mp.get at ih ⊢
    rw [List.find?_cons, List.find?_cons]
    show FileV W S ((Option.map _ (match k' == k with | true => _ | false => _)).getD noFile) _ ∧ _
    cases hk : k' == k
    · exact ih
    · exact ⟨h, rfl⟩
theorem Fs.del (h : Fs W S vs cs) (k : Ky) : Fs W S (Mp.del vs k) (Mp.del cs k) := by
  induction h with
  | nil => exact .nil
  | @cons k' v c vs cs h t ih =>
    unfold Mp.del at ih ⊢
    rw [List.filter_cons, List.filter_cons]
    show Fs W S (if (!(k' == k)) = true then _ else _) (if (!(k' == k)) = true then _ else _)
    split
    · exact .cons h ih
    · exact ih
theorem Fs.ins (h : Fs W S vs cs) (k : Ky) {v : Value} {c : Cont} (hv : FileV W S v c) : Fs W S (Mp.ins (k, v) vs) (Mp.ins (k, c) cs) := by
  induction h with
  | nil => exact .cons hv .nil
  | @cons k' v' c' vs cs h t ih =>
    unfold Mp.ins
    show Fs W S (if bytesBefore k k' = true then _ else _) (if bytesBefore k k' = true then _ else _)
    split
    · exact .cons hv (.cons h t)
    · exact .cons h ih
theorem Fs.put (h : Fs W S vs cs) (k : Ky) {v : Value} {c : Cont} (hv : FileV W S v c) : Fs W S (Mp.put vs k v) (Mp.put cs k c) := (h.del k).ins k hv
end
/-- A disk that was made: block g; its map: block b, of at most n entries. -/
structure Dsk (W : World) (g b n : Nat) (off : Bool) (fuse : Int) (F : List (Ky × Cont)) (S : Nat → Prop) : Prop where
  hg : W.heap[g]? = some (.cells #[.map (some b), .bool off, .int .i64 fuse] 110 (0, 0))
  hm : ∃ vs, Mp.Own W b n vs ∧ Fs W S vs F
  hS : ∀ k, S k → k ≠ g ∧ k ≠ b
section
variable {W W1 : World} {g b n : Nat} {off : Bool} {fuse : Int} {F : List (Ky × Cont)} {S S' : Nat → Prop}
theorem Dsk.kb {T : Nat → Prop} (h : Dsk W g b n off fuse F S) (hk : Kb T W W1) (hg : ¬ T g) (hb : ¬ T b) (hs : ∀ k, S k → ¬ T k) : Dsk W1 g b n off fuse F S := by
  obtain ⟨vs, h1, h2⟩ := h.hm
  exact ⟨hk.blk h.hg hg, ⟨vs, h1.kb hk hb, h2.imp fun v c hv => hv.step fun k hS hlt => hk.block k hlt (hs k hS)⟩, h.hS⟩
theorem Dsk.more (h : Dsk W g b n off fuse F S) {n' : Nat} (hn : n ≤ n') : Dsk W g b n' off fuse F S := by
  obtain ⟨vs, h1, h2⟩ := h.hm
  exact ⟨h.hg, ⟨vs, h1.more hn, h2⟩, h.hS⟩
theorem Dsk.mono (h : Dsk W g b n off fuse F S) (hs : ∀ k, S k → k < W.heap.size → S' k) (hS : ∀ k, S' k → k ≠ g ∧ k ≠ b) : Dsk W g b n off fuse F S' := by
  obtain ⟨vs, h1, h2⟩ := h.hm
  exact ⟨h.hg, ⟨vs, h1, h2.imp fun v c hv => hv.mono hs⟩, hS⟩
theorem Dsk.below (h : Dsk W g b n off fuse F S) (hb : Below W.heap.size W W1) : Dsk W1 g b n off fuse F S := h.kb (Kb.of_below (fun _ => False) hb) id id (fun _ _ => id)
theorem Dsk.gb (h : Dsk W g b n off fuse F S) : g ≠ b := by
  obtain ⟨vs, h1, _⟩ := h.hm
  exact h1.ne h.hg
theorem Dsk.glt (h : Dsk W g b n off fuse F S) : g < W.heap.size := blk_lt h.hg
theorem Dsk.blt (h : Dsk W g b n off fuse F S) : b < W.heap.size := by
  obtain ⟨vs, h1, _⟩ := h.hm
  exact h1.lt
end
theorem F_of_own {W : World} {base e n : Nat} {v : Value} {xs : List Int} {S : Nat → Prop} (h : W.ownsRow base e 1 v n (nums .u8 xs)) (hS : ∀ k, base ≤ k → S k) : ∃ A c, v = .slice A n c ∧ n ≤ c ∧ Kd.F (Kd.int .u8) W S A n xs := by
  obtain ⟨A, c, rfl⟩ := own_slice h
  exact ⟨A, c, rfl, own_cap h, fun W' hW' => Kd.C_of_reads (d := (0 : Int)) (h1 := fun _ => rfl) (own_reads' (own_move h (fun k hk => hW' k (hS k (own_base h k hk)) (own_lt h k hk))))⟩
theorem clip (A : Option Addr) (n c : Nat) (hc : n ≤ c) (W : World) : Calls Try.prog 119 #[.slice A n c] W fun e W' => e = .returned (.slice A n n) ∧ W' = W := by
  go_enter Try.func119, Try.ntmps119
  go_wp2
  go_ret
  exact ⟨rfl, rfl⟩
theorem nums_at {xs : List Int} {W : World} {ad : Addr} (h : ∀ j, j < xs.length → W.cell? (ad.add j) = some (.int .u8 (xs.getD j 0))) (j : Nat) (u : Value) (hj : (nums .u8 xs)[j]? = some u) : W.cell? (ad.add j) = some u := by
  unfold nums at hj
  rw [List.getElem?_map] at hj
  obtain ⟨x, hx, rfl⟩ := Option.map_eq_some_iff.1 hj
  have hlt := (List.getElem?_eq_some_iff.1 hx).1
  rw [h j hlt, List.getD_eq_getElem?_getD, hx]
  rfl
theorem nums_one {xs : List Int} : ∀ u ∈ nums .u8 xs, u.oneCell' = true := by
  intro u hu
  obtain ⟨x, _, rfl⟩ := List.mem_map.1 hu
  rfl
/-- 'append(xs, ys...)' where xs has no room: what was there stays. -/
theorem app_run {W : World} {S : Nat → Prop} (ty : TypeId) (Ax : Option Addr) (xs : List Int) (hX : Kd.F (Kd.int .u8) W S Ax xs.length xs) (A : Option Addr) (c : Nat) (ys : List Int) (hY : Kd.C (Kd.int .u8) W A ys.length ys)
    (hfresh : ∀ k, W.heap.size ≤ k → S k) (hl : xs.length + ys.length ≤ 1000000) :
    ∃ A' c' W', (Builtin.append_ #[22, 22] ty #[.slice Ax xs.length xs.length, .slice A ys.length c]).run Try.prog W = .ok (.slice A' (xs ++ ys).length c') W' ∧
      Below W.heap.size W W' ∧ (xs ++ ys).length ≤ c' ∧ Kd.F (Kd.int .u8) W' S A' (xs ++ ys).length (xs ++ ys) := by
  have hXr := Kd.reads_of_C (d := (0 : Int)) (enc := Value.int .u8) (h1 := fun _ => rfl) (Kd.F_now hX)
  have hYr := Kd.reads_of_C (d := (0 : Int)) (enc := Value.int .u8) (h1 := fun _ => rfl) hY
  obtain ⟨i0, hi, hz0, hz1, hz2⟩ := info_parts Mine.info_u8
  rcases Nat.eq_zero_or_pos ys.length with h0 | h0
  · obtain rfl := List.eq_nil_of_length_eq_zero h0
    refine ⟨Ax, xs.length, W, ?_, Below.refl _ _, by simp, by simpa using hX⟩
    have hsrc : Src Try.prog i0.size 22 (.slice A 0 c) 0 [] W := by
      cases A with
      | none => exact Src.ofNil W Try.underlying22 c
      | some ad => exact Src.ofSlice W Try.underlying22 ad 0 c [] (by simp) (by simp) (by simp)
    rw [List.append_nil]
    cases Ax with
    | none =>
      have hlen : xs.length = 0 := by
        rcases Nat.eq_zero_or_pos xs.length with h1 | h1
        · exact h1
        · obtain ⟨ad', hc, _⟩ := hXr.2.2 h1; cases hc
      rw [hlen]
      simp [Builtin.append_, run_underlying Try.underlying22, sizeOf, typeInfo, hi, hsrc.len, hsrc.cells]
    | some ad =>
      simp [Builtin.append_, run_underlying Try.underlying22, sizeOf, typeInfo, hi, hsrc.len, hsrc.cells]
      simp [storeCells, Result.andThen]
  · obtain ⟨ad, rfl, hcell⟩ := hYr.2.2 h0
    have hfin : ∀ v' w', w'.ownsRow W.heap.size 5 1 v' (xs.length + ys.length) (nums .u8 xs ++ nums .u8 ys) → W.grownBy w' none → ∃ A' c', v' = .slice A' (xs ++ ys).length c' ∧ Below W.heap.size W w' ∧ (xs ++ ys).length ≤ c' ∧ Kd.F (Kd.int .u8) w' S A' (xs ++ ys).length (xs ++ ys) := fun v' w' hown hgr => by
      rw [← nums_append, ← List.length_append] at hown
      obtain ⟨A', c', rfl, hc', hF⟩ := F_of_own hown hfresh
      exact ⟨A', c', rfl, ⟨hgr.os, hgr.tape, hgr.output, hgr.size, fun k hk => hgr.block k hk (by simp)⟩, hc', hF⟩
    cases Ax with
    | some b =>
      obtain ⟨v', w', hrun, r1, r2⟩ := run_append_arg_grows (P := Try.prog) W 22 ty 5 i0 (.int .u8 0) 1 1 Try.underlying22 hi hz0 hz1 hz2 rfl (by decide) b xs.length xs.length (nums .u8 xs) (by simp [nums])
        (fun j u hj => by
          have hlt : j < xs.length := by
            have := (List.getElem?_eq_some_iff.1 hj).1
            rwa [nums_length] at this
          obtain ⟨ad', hc, hcx⟩ := hXr.2.2 (by omega)
          injection hc with hc
          subst hc
          exact nums_at hcx j u hj) ad ys.length c (nums .u8 ys) (by simp [nums]) (fun j u hj => nums_at hcell j u hj) (by omega) (by unfold maxLen; omega) (by omega)
      obtain ⟨A', c', rfl, h1, h2, h3⟩ := hfin v' w' r1 r2
      exact ⟨A', c', w', hrun, h1, h2, h3⟩
    | none =>
      have hlen : xs.length = 0 := by
        rcases Nat.eq_zero_or_pos xs.length with h1 | h1
        · exact h1
        · obtain ⟨ad', hc, _⟩ := hXr.2.2 h1; cases hc
      obtain rfl := List.eq_nil_of_length_eq_zero hlen
      obtain ⟨v', w', hrun, r1, r2, _⟩ := run_append_own (P := Try.prog) W W.heap.size 22 ty 5 i0 (.int .u8 0) 1 1 Try.underlying22 hi hz0 hz1 hz2 rfl (by decide) (.slice none 0 0) 0 [] (World.ownsRow_nil W _ 5 1) ad ys.length c (nums .u8 ys) (by simp [nums])
        (fun j u hj => nums_at hcell j u hj) nums_one (by unfold maxLen; simp only [List.length_nil] at hl; omega) (by simp only [List.length_nil] at hl; omega) (Nat.le_refl _)
      obtain ⟨A', c', rfl, h1, h2, h3⟩ := hfin v' w' r1 r2
      exact ⟨A', c', w', hrun, h1, h2, h3⟩
section
variable {P : Program} {ops : Array Oper} {o : Oper} {a : Act} {W W1 : World} {Kc : Act → World → Prop} {Q : Exit → Act → World → Prop}
theorem app_step (hw : Region.wanted o (yielded ops a.tmps) = true) (s x : Operand) (ts : Array TypeId) (ho : o.op = .call { callee := .builtin .append, args := #[s, x], argTypes := ts }) {v1 v2 v : Value} (hs : a.eval s = v1) (hx : a.eval x = v2)
    (hrun : (Builtin.append_ ts o.type #[v1, v2]).run P W = .ok v W1) (h : Kc (a.put o.dst v) W1) : if Region.wanted o (yielded ops a.tmps) = true then Oper.wp P o a W Kc Q else Kc (a.put o.dst undef) W := by
  rw [if_pos hw]
  unfold Oper.wp
  simp [execOp, ho, resolve, invoke, builtin, hs, hx, hrun, Result.andThen]
  exact h
theorem put_step (hw : Region.wanted o (yielded ops a.tmps) = true) (hN : o.dst = none) (m x y : Operand) (t : TypeId) (ho : o.op = Op.mapUpdate t m x y) {v1 v2 v3 : Value} (hm : a.eval m = v1) (hx : a.eval x = v2) (hy : a.eval y = v3)
    (hrun : (Instr.mapUpdate t v1 v2 v3).run P W = .ok () W1) (h : Kc a W1) : if Region.wanted o (yielded ops a.tmps) = true then Oper.wp P o a W Kc Q else Kc (a.put none undef) W := by
  rw [if_pos hw]
  unfold Oper.wp
  simp [execOp, ho, hm, hx, hy, hrun, Result.andThen]
  show Kc (a.put o.dst undef) W1
  rw [hN]
  exact h
end
theorem del_step {ops : Array Oper} {o : Oper} {a : Act} {W : World} {Kc : Act → World → Prop} {Q : Exit → Act → World → Prop} {b n : Nat} {mm : List (Ky × Value)} (hw : Region.wanted o (yielded ops a.tmps) = true) (hN : o.dst = none) (m x : Operand) (t e : TypeId)
    (ho : o.op = Op.call { callee := Callee.builtin Builtin.delete, args := #[m, x], argTypes := #[t, 9] }) (ht : Try.prog.underlying t = some (.map 9 e)) (hm : a.eval m = .map (some b)) (hown : Own W b n mm) (s : ByteArray) (hx : a.eval x = .string s) (hs : s.size ≤ maxLen)
    (h : ∀ W1, Own W1 b n (Mp.del mm s.data.toList) → Kb (fun k => k = b) W W1 → Kc a W1) : if Region.wanted o (yielded ops a.tmps) = true then Oper.wp Try.prog o a W Kc Q else Kc (a.put none undef) W := by
  rw [if_pos hw]
  obtain ⟨W1, hrun, r1, r2⟩ := World.ownsMap.drop hown kl ht (Go.WideMaps.keyOf_string_mk Try.underlying9 hs) o.type
  unfold Oper.wp
  simp [execOp, ho, resolve, invoke, builtin, hm, hx, hrun, Result.andThen]
  show Kc (a.put o.dst _) W1
  rw [hN]
  exact h W1 (by rw [toD_del] at r1; exact r1) (turned_kb r2)
end Go.Proofs.Ytobgijpbfmpdaaa.Dk
