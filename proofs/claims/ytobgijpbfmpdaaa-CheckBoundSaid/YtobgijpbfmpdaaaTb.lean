/- A map with bytes as keys, as a function. -/
import Derived.Test.YtobgijpbfmpdaaaMp
import Derived.Maps.Views
set_option maxRecDepth 100000
set_option linter.unusedVariables false
namespace Go.Proofs.Ytobgijpbfmpdaaa.Tb
open Go.RowKit Go.Proofs.YtobgijpbfmpdaaaW.PrintWords Go.Maps Go.ChangeMaps Go.MapKept Go.WideMaps
open Go.Proofs.Ytobgijpbfmpdaaa.Fm Go.Proofs.Ytobgijpbfmpdaaa.Mp
def Tab (W : World) (b n : Nat) (f : Int → Option Value) : Prop := ∃ D : DataW Value, W.ownsMap Try.prog 5 rawV b n D ∧ ∀ k : Int, 0 ≤ k → k < 256 → Maps.has D (.int .u8 k) = (f k).isSome ∧ ∀ zd, D.atKey (.int .u8 k) (.held zd) = .held ((f k).getD zd)
theorem kb8 : Keyed Try.prog 5 := int_keyed Try.underlying5
theorem wf8 {k : Int} (h0 : 0 ≤ k) (h1 : k < 256) : (Lit.int .u8 k).wf = true := by
  simp [Lit.wf, IntKind.min, IntKind.max, IntKind.bits, IntKind.signed]
  omega
section
variable {W W1 : World} {b n : Nat} {f : Int → Option Value}
theorem Tab.kb {S : Nat → Prop} (h : Tab W b n f) (hk : Kb S W W1) (hs : ¬ S b) : Tab W1 b n f := by
  obtain ⟨D, h1, h2⟩ := h
  obtain ⟨es, clock, hb, F, hs', hD⟩ := h1
  exact ⟨D, ⟨es, clock, hk.blk hb hs, F, hs', hD⟩, h2⟩
theorem Tab.below (h : Tab W b n f) (hb : Below W.heap.size W W1) : Tab W1 b n f := h.kb (Kb.of_below (fun _ => False) hb) id
theorem Tab.lt (h : Tab W b n f) : b < W.heap.size := by
  obtain ⟨D, h1, _⟩ := h
  exact World.ownsMap.lt h1
theorem Tab.made (W : World) : Tab (W.alloc (.map #[] 0)) W.heap.size 0 (fun _ => none) :=
  ⟨.map [], World.ownsMap_made W _ _ _, fun k _ _ => ⟨rfl, fun zd => rfl⟩⟩
theorem Tab.put (h : Tab W b n f) (hn : n < maxLen) (t e : TypeId) (ht : Try.prog.underlying t = some (.map 5 e)) (k : Int) (h0 : 0 ≤ k) (h1 : k < 256) (v : Value) :
    ∃ W', (Instr.mapUpdate t (.map (some b)) (.int .u8 k) v).run Try.prog W = .ok () W' ∧ Tab W' b (n + 1) (fun j => if j = k then some v else f j) ∧ Kb (fun q => q = b) W W' := by
  obtain ⟨D, hD, hf⟩ := h
  have hm := hD.isMap
  obtain ⟨W', r1, r2, r3⟩ := World.ownsMap.update hD kb8 ht hn (keyOf_int_mk Try.underlying5 (wf8 h0 h1)) (val := v) (d := .held v) (ps := []) rfl
  refine ⟨W', r1, ⟨_, r2, fun j j0 j1 => ?_⟩, (Kb.grown r3).mono fun q _ e => by injection e⟩
  by_cases hj : j = k
  · subst hj
    dsimp only
    rw [if_pos rfl]
    exact ⟨has_put_same hm (show WideAt.IsKeyLit (Lit.int .u8 j) from trivial) _, fun zd => atKey_put_same hm (show WideAt.IsKeyLit (Lit.int .u8 j) from trivial) _ _⟩
  · dsimp only
    rw [if_neg hj]
    have hne : (Lit.int .u8 j) ≠ Lit.int .u8 k := fun e => hj (by injection e)
    rw [has_put_other hne]
    exact ⟨(hf j j0 j1).1, fun zd => by rw [atKey_put_other hne]; exact (hf j j0 j1).2 zd⟩
theorem Tab.look (h : Tab W b n f) (t e : TypeId) (ht : Try.prog.underlying t = some (.map 5 e)) (z : Value) (hz : ∀ W, (zeroValue e).run Try.prog W = .ok z W) (k : Int) (h0 : 0 ≤ k) (h1 : k < 256) :
    (Instr.lookup t (.map (some b)) (.int .u8 k) true).run Try.prog W = .ok (.tuple #[(f k).getD z, .bool (f k).isSome]) W := by
  obtain ⟨D, hD, hf⟩ := h
  obtain ⟨v, ps, hrun, hv⟩ := World.ownsMap.look_ok hD kb8 ht (hz W) (zd := .held z) rfl (keyOf_int_mk Try.underlying5 (wf8 h0 h1))
  rw [(hf k h0 h1).2 z] at hv
  rw [(hf k h0 h1).1] at hrun
  injection hv with hv
  injection hv with hv _
  injection hv with hv
  subst hv
  exact hrun
theorem Tab.congr (h : Tab W b n f) {g : Int → Option Value} (hg : ∀ k : Int, 0 ≤ k → k < 256 → f k = g k) : Tab W b n g := by
  obtain ⟨D, hD, hf⟩ := h
  exact ⟨D, hD, fun k h0 h1 => by rw [← hg k h0 h1]; exact hf k h0 h1⟩
theorem Tab.more (h : Tab W b n f) {m : Nat} (hm : n ≤ m) : Tab W b m f := by
  obtain ⟨D, hD, hf⟩ := h
  exact ⟨D, World.ownsMap.mono hD hm, hf⟩
end
section
variable {W : World} {ops : Array Oper} {rest : List Oper} {o : Oper} {a : Act} {Q : Exit → Act → World → Prop} {b n : Nat} {f : Int → Option Value}
/-- 'v, ok := m[k]'. -/
theorem at_look (hg : o.guard = none) (M x : Operand) (t e : TypeId) (z : Value) (hop : o.op = Op.lookup t M x true) (ht : Try.prog.underlying t = some (.map 5 e)) (hz : ∀ W, (zeroValue e).run Try.prog W = .ok z W)
    (hm : a.eval M = .map (some b)) (h : Tab W b n f) (k : Int) (hx : a.eval x = .int .u8 k) (h0 : 0 ≤ k) (h1 : k < 256) (v : Value) (is : Bool) (hv : (f k).getD z = v) (hok : (f k).isSome = is)
    (hK : wpList Try.prog ops Q rest (a.put o.dst (.tuple #[v, .bool is])) W) : wpList Try.prog ops Q (o :: rest) a W := by
  refine wpList_plain hg fun K' hK' => ?_
  have hrun := h.look t e ht z hz k h0 h1
  rw [hv, hok] at hrun
  unfold Oper.wp
  simp [execOp, hop, hm, hx, hrun, Result.andThen]
  exact hK' _ _ hK
/-- 'm[k] = v'. -/
theorem at_put8 (hg : o.guard = none) (M x v : Operand) (t e : TypeId) (hop : o.op = Op.mapUpdate t M x v) (ht : Try.prog.underlying t = some (.map 5 e))
    (hm : a.eval M = .map (some b)) (h : Tab W b n f) (hn : n < maxLen) (k : Int) (hx : a.eval x = .int .u8 k) (h0 : 0 ≤ k) (h1 : k < 256) (val : Value) (hv : a.eval v = val)
    (hK : ∀ W', Tab W' b (n + 1) (fun j => if j = k then some val else f j) → Kb (fun q => q = b) W W' → wpList Try.prog ops Q rest (a.put o.dst undef) W') : wpList Try.prog ops Q (o :: rest) a W := by
  refine wpList_plain hg fun K' hK' => ?_
  obtain ⟨W', hrun, r1, r2⟩ := h.put hn t e ht k h0 h1 val
  unfold Oper.wp
  simp [execOp, hop, hm, hx, hv, hrun, Result.andThen]
  exact hK' _ _ (hK W' r1 r2)
/-- An entry of a map's literal. -/
theorem at_ins8 (hg : o.guard = none) (M x v : Operand) (t e : TypeId) (hop : o.op = Op.insert t M x v) (ht : Try.prog.underlying t = some (.map 5 e))
    (hm : a.eval M = .map (some b)) (h : Tab W b n f) (hn : n < maxLen) (k : Int) (hx : a.eval x = .int .u8 k) (h0 : 0 ≤ k) (h1 : k < 256) (val : Value) (hv : a.eval v = val)
    (hK : ∀ W', Tab W' b (n + 1) (fun j => if j = k then some val else f j) → Kb (fun q => q = b) W W' → wpList Try.prog ops Q rest (a.put o.dst undef) W') : wpList Try.prog ops Q (o :: rest) a W := by
  refine wpList_plain hg fun K' hK' => ?_
  obtain ⟨W', hrun, r1, r2⟩ := h.put hn t e ht k h0 h1 val
  unfold Oper.wp
  simp [execOp, hop, hm, hx, hv, hrun, Result.andThen]
  exact hK' _ _ (hK W' r1 r2)
end
end Go.Proofs.Ytobgijpbfmpdaaa.Tb
