/- Maps with string keys, as lists of keys and values that rise by key; laws for the walk. -/
import Derived.Test.YtobgijpbfmpdaaaFm
import Derived.Maps.OwnSet
import Derived.Maps.OwnOps
import Derived.StringKeys
set_option maxRecDepth 100000
set_option linter.unusedVariables false
set_option linter.unusedSimpArgs false
namespace Go.Proofs.Ytobgijpbfmpdaaa.Mp
open Go.RowKit Go.Proofs.YtobgijpbfmpdaaaW.PrintWords Go.Maps Go.ChangeMaps Go.MapKept Go.WideMaps
open Go.Proofs.Ytobgijpbfmpdaaa.Fm
abbrev Ky := List UInt8
def rawV (v : Value) : Option (DataW Value × List MemPlace) := some (.held v, [])
def toD (m : List (Ky × Value)) : DataW Value := .map (m.map fun p => (.string p.1, .held p.2))
section
variable {α : Type}
def get (m : List (Ky × α)) (k : Ky) : Option α := (m.find? fun p => p.1 == k).map (·.2)
def ins (x : Ky × α) : List (Ky × α) → List (Ky × α)
  | [] => [x]
  | y :: r => if bytesBefore x.1 y.1 then x :: y :: r else y :: ins x r
def del (m : List (Ky × α)) (k : Ky) : List (Ky × α) := m.filter fun p => !(p.1 == k)
def put (m : List (Ky × α)) (k : Ky) (v : α) : List (Ky × α) := ins (k, v) (del m k)
end
theorem toD_ins (x : Ky × Value) : ∀ m, (ins x m).map (fun p => ((Lit.string p.1, DataW.held p.2) : Lit × DataW Value)) = DataW.insert (.string x.1, .held x.2) (m.map fun p => (.string p.1, .held p.2))
  | [] => rfl
  | y :: r => by
    have ih := toD_ins x r
    show List.map _ (if bytesBefore x.1 y.1 then x :: y :: r else y :: ins x r) = if bytesBefore x.1 y.1 then _ else _
    by_cases h : bytesBefore x.1 y.1 = true
    · rw [if_pos h, if_pos h]; rfl
    · rw [if_neg h, if_neg h, List.map_cons, ih]
theorem toD_del (m : List (Ky × Value)) (k : Ky) : (toD m).del (.string k) = toD (del m k) := by
  unfold toD del DataW.del
  simp only [DataW.map.injEq, List.filter_map]
  rfl
theorem toD_put (m : List (Ky × Value)) (k : Ky) (v : Value) : (toD m).put (.string k) (.held v) = toD (put m k v) := by
  unfold toD put DataW.put
  simp only [DataW.map.injEq, toD_ins]
  unfold del
  rw [List.filter_map]
  rfl
theorem toD_has (m : List (Ky × Value)) (k : Ky) : Maps.has (toD m) (.string k) = (get m k).isSome := by
  unfold toD get
  rw [Maps.has_eq, List.any_map]
  induction m with
  | nil => rfl
  | cons p r ih =>
    rw [List.any_cons, List.find?_cons]
    show (p.1 == k || _) = _
    cases h : p.1 == k
    · simpa using ih
    · simp
theorem toD_get (m : List (Ky × Value)) (k : Ky) (z : Value) : (toD m).atKey (.string k) (.held z) = .held ((get m k).getD z) := by
  unfold toD get DataW.atKey
  simp only []
  induction m with
  | nil => rfl
  | cons p r ih =>
    have e : (Lit.string p.1).sameKey (Lit.string k) = (p.1 == k) := rfl
    rw [List.map_cons, List.find?_cons, List.find?_cons]
    simp only [e]
    cases h : p.1 == k
    · exact ih
    · rfl
/-- Block b is a map of at most n entries that holds m. -/
def Own (W : World) (b n : Nat) (m : List (Ky × Value)) : Prop := W.ownsMap Try.prog 9 rawV b n (toD m)
section
variable {W W1 : World} {b n : Nat} {m : List (Ky × Value)}
theorem kl : Keyed Try.prog 9 := string_keyed Try.underlying9
theorem Own.kb {S : Nat → Prop} (h : Own W b n m) (hk : Kb S W W1) (hs : ¬ S b) : Own W1 b n m := by
  have hlt := World.ownsMap.lt h
  obtain ⟨es, clock, hb, F, hs', hD⟩ := h
  exact ⟨es, clock, hk.blk hb hs, F, hs', hD⟩
theorem Own.more (h : Own W b n m) {n' : Nat} (hn : n ≤ n') : Own W b n' m := World.ownsMap.mono h hn
theorem Own.lt (h : Own W b n m) : b < W.heap.size := World.ownsMap.lt h
theorem Own.ne {g : Nat} {t : Nat} {cs : Array Value} {f : Nat × Nat} (h : Own W b n m) (hg : W.heap[g]? = some (.cells cs t f)) : g ≠ b := by
  obtain ⟨es, clock, hb, _⟩ := h
  rintro rfl
  rw [hb] at hg
  cases hg
theorem own_made (W : World) : Own (W.alloc (.map #[] 0)) W.heap.size 0 [] := World.ownsMap_made W _ _ _
theorem turned_kb (h : W.mapTurned W1 b) : Kb (fun k => k = b) W W1 := by
  obtain ⟨es, clock, es', clock', hb, rfl⟩ := h
  exact ⟨rfl, rfl, rfl, by simp [setBlock], fun k _ hn => heap_setBlock_other hb _ hn⟩
end
section
variable {W : World} {b n : Nat} {m : List (Ky × Value)}
theorem get_run (t e : TypeId) (z : Value) (ht : Try.prog.underlying t = some (.map 9 e)) (hz : ∀ W, (zeroValue e).run Try.prog W = .ok z W)
    (hown : Own W b n m) (s : ByteArray) (hs : s.size ≤ maxLen) : (Instr.lookup t (.map (some b)) (.string s) false).run Try.prog W = .ok ((get m s.data.toList).getD z) W := by
  obtain ⟨v, ps, hrun, hv⟩ := World.ownsMap.lookup hown kl ht (hz W) (zd := .held z) rfl (keyOf_string_mk Try.underlying9 hs)
  rw [toD_get] at hv
  injection hv with hv
  injection hv with hv _
  injection hv with hv
  subst hv
  exact hrun
theorem put_run (t e : TypeId) (ht : Try.prog.underlying t = some (.map 9 e)) (hown : Own W b n m) (hn : n < maxLen) (s : ByteArray) (hs : s.size ≤ maxLen) (val : Value) :
    ∃ W', (Instr.mapUpdate t (.map (some b)) (.string s) val).run Try.prog W = .ok () W' ∧ Own W' b (n + 1) (put m s.data.toList val) ∧ Kb (fun k => k = b) W W' := by
  obtain ⟨W', h1, h2, h3⟩ := World.ownsMap.update hown kl ht hn (keyOf_string_mk Try.underlying9 hs) (val := val) (d := .held val) (ps := []) rfl
  exact ⟨W', h1, by rw [toD_put] at h2; exact h2, (Kb.grown h3).mono fun k _ e => by injection e⟩
end
section
variable {W : World} {ops : Array Oper} {rest : List Oper} {o : Oper} {a : Act} {Q : Exit → Act → World → Prop} {b n : Nat} {m : List (Ky × Value)}
/-- 'm[k]'. -/
theorem at_get (hg : o.guard = none) (M x : Operand) (t e : TypeId) (z : Value) (hop : o.op = Op.lookup t M x false) (ht : Try.prog.underlying t = some (.map 9 e)) (hz : ∀ W, (zeroValue e).run Try.prog W = .ok z W)
    (hm : a.eval M = .map (some b)) (hown : Own W b n m) (s : ByteArray) (hx : a.eval x = .string s) (hs : s.size ≤ maxLen)
    (hK : wpList Try.prog ops Q rest (a.put o.dst ((get m s.data.toList).getD z)) W) : wpList Try.prog ops Q (o :: rest) a W := by
  refine wpList_plain hg fun K' hK' => ?_
  obtain ⟨v, ps, hrun, hv⟩ := World.ownsMap.lookup hown kl ht (hz W) (zd := .held z) rfl (keyOf_string_mk Try.underlying9 hs)
  rw [toD_get] at hv
  injection hv with hv
  injection hv with hv _
  injection hv with hv
  subst hv
  unfold Oper.wp
  simp [execOp, hop, hm, hx, hrun, Result.andThen]
  exact hK' _ _ hK
/-- 'v, ok := m[k]'. -/
theorem at_get2 (hg : o.guard = none) (M x : Operand) (t e : TypeId) (z : Value) (hop : o.op = Op.lookup t M x true) (ht : Try.prog.underlying t = some (.map 9 e)) (hz : ∀ W, (zeroValue e).run Try.prog W = .ok z W)
    (hm : a.eval M = .map (some b)) (hown : Own W b n m) (s : ByteArray) (hx : a.eval x = .string s) (hs : s.size ≤ maxLen)
    (hK : wpList Try.prog ops Q rest (a.put o.dst (.tuple #[(get m s.data.toList).getD z, .bool (get m s.data.toList).isSome])) W) : wpList Try.prog ops Q (o :: rest) a W := by
  refine wpList_plain hg fun K' hK' => ?_
  obtain ⟨v, ps, hrun, hv⟩ := World.ownsMap.look_ok hown kl ht (hz W) (zd := .held z) rfl (keyOf_string_mk Try.underlying9 hs)
  rw [toD_get] at hv
  rw [toD_has] at hrun
  injection hv with hv
  injection hv with hv _
  injection hv with hv
  subst hv
  unfold Oper.wp
  simp [execOp, hop, hm, hx, hrun, Result.andThen]
  exact hK' _ _ hK
/-- 'm[k] = v'. -/
theorem at_put (hg : o.guard = none) (M x v : Operand) (t e : TypeId) (hop : o.op = Op.mapUpdate t M x v) (ht : Try.prog.underlying t = some (.map 9 e))
    (hm : a.eval M = .map (some b)) (hown : Own W b n m) (hn : n < maxLen) (s : ByteArray) (hx : a.eval x = .string s) (hs : s.size ≤ maxLen) (val : Value) (hv : a.eval v = val)
    (hK : ∀ W', Own W' b (n + 1) (put m s.data.toList val) → Kb (fun k => k = b) W W' → wpList Try.prog ops Q rest (a.put o.dst undef) W') : wpList Try.prog ops Q (o :: rest) a W :=
  wpList_mapUpdate_own W hg M x v t hop 9 e kl ht rawV b n (toD m) hm hown hn (.string s) val _ hx hv (keyOf_string_mk Try.underlying9 hs) (.held val) [] rfl
    (fun W' h1 h2 => hK W' (by rw [toD_put] at h1; exact h1) ((Kb.grown h2).mono fun k _ e => by injection e))
/-- 'delete(m, k)'. -/
theorem at_del (hg : o.guard = none) (M x : Operand) (t e : TypeId) (hop : o.op = Op.call { callee := Callee.builtin Builtin.delete, args := #[M, x], argTypes := #[t, 9] }) (ht : Try.prog.underlying t = some (.map 9 e))
    (hm : a.eval M = .map (some b)) (hown : Own W b n m) (s : ByteArray) (hx : a.eval x = .string s) (hs : s.size ≤ maxLen)
    (hK : ∀ W', Own W' b n (del m s.data.toList) → Kb (fun k => k = b) W W' → wpList Try.prog ops Q rest (a.put o.dst (.tuple #[])) W') : wpList Try.prog ops Q (o :: rest) a W :=
  wpList_delete_own W hg M x t 9 hop e kl ht rawV b n (toD m) hm hown (.string s) _ hx (keyOf_string_mk Try.underlying9 hs)
    (fun W' h1 h2 => hK W' (by rw [toD_del] at h1; exact h1) (turned_kb h2))
/-- A call of a function value. -/
theorem goesF_ {P : Program} {rest : List Oper} {oi : Oper} {a : Act} {w : World} (N : Option Tmp) (hd : oi.dst = N) (hg : oi.guard = none) (t : Operand) {f : FuncId} {fn : Func} (caps : Array Value) {sl : Array Operand} {ts : Array TypeId} (ht : a.eval t = .func (.func f) #[] caps)
    (hf : P.funcs[f]? = some fn) (hname : (fn.name == "runtime.NumGoroutine") = false) (hb : fn.body.isSome = true) (args : Array Value)
    (hop : oi.op = .call { callee := .value t, args := sl, argTypes := ts }) (hargs : sl.map a.eval ++ caps = args)
    (h : Calls P f args w fun e w' => ∃ v, e = .returned v ∧ wpList P ops Q rest (a.put N v) w') : wpList P ops Q (oi :: rest) a w := by
  refine wpList_plain hg fun K hK => ?_
  have he := Go.Proofs.YtobgijpbfmpdaaaW.PrintLast.enters_ hf hname hb args w
  have hrun : (execOp a.eval oi).run P w = .ok (.enter f args) w := by
    unfold execOp
    simp [hop, resolve, Deferred.ofValue, invoke, ht, ← hargs] at he ⊢
    exact he
  unfold Oper.wp
  rw [hrun, Oper.upon_enter]
  refine h.mono fun e w'' hh => ?_
  obtain ⟨v, rfl, hk⟩ := hh
  subst hd
  exact hK _ _ hk
end
end Go.Proofs.Ytobgijpbfmpdaaa.Mp
