/- tree.forms: the table of what twigs may be. -/
import Derived.Test.YtobgijpbfmpdaaaTb
import Derived.Test.YtobgijpbfmpdaaaWLast
import Derived.Test.YtobgijpbfmpdaaaWMore
import Derived.WalkKit
import Derived.Deep.LoopGhost
import Derived.KernelRfl
import Derived.Laws.EntriesVeiled
set_option linter.unusedVariables false
set_option linter.unusedSimpArgs false
set_option maxRecDepth 100000
namespace Go.Proofs.Ytobgijpbfmpdaaa.Tb
open Go.RowKit Go.Proofs.YtobgijpbfmpdaaaW.PrintWords Go.Proofs.YtobgijpbfmpdaaaW.PrintLast Go.Proofs.YtobgijpbfmpdaaaW.PrintMore
open Go.Proofs.Ytobgijpbfmpdaaa.Fm Go.Proofs.Ytobgijpbfmpdaaa.Mp
set_option maxHeartbeats 32000000
/-- What a twig may be: its text's function, how many parts, its parts' function. -/
abbrev Form := Nat × Int × Int × Nat
def formV (F : Form) : Value := .agg #[.func (.func F.1) #[] #[], .int .i64 F.2.1, .int .i64 F.2.2.1, .func (.func F.2.2.2) #[] #[]]
def noForm : Value := .agg #[.nilFunc, .int .i64 0, .int .i64 0, .nilFunc]
theorem zform : ∀ W, (zeroValue 195).run Try.prog W = .ok noForm W := fun W => by kernel_rfl
def baseOf (op : Int) : Option Form :=
  if op = 1 then some ((180, 1, 2048, 181) : Form) else
  if op = 2 then some ((180, 0, 0, 182) : Form) else
  if op = 3 then some ((183, 0, 2048, 184) : Form) else
  if op = 6 then some ((183, 2, 3, 185) : Form) else
  if op = 7 then some ((183, 2, 2, 185) : Form) else
  if op = 24 then some ((186, 0, 0, 182) : Form) else
  if op = 25 then some ((183, 0, 2048, 187) : Form) else
  if op = 53 then some ((183, 1, 1, 188) : Form) else
  if op = 23 then some ((183, 0, 0, 182) : Form) else
  none
def restOf (op : Int) : Option Form :=
  if op = 4 ∨ op = 5 then some ((180, 1, 1, 187) : Form) else
  if op = 20 ∨ op = 21 ∨ op = 22 ∨ op = 57 then some ((183, 0, 0, 182) : Form) else
  if op = 26 ∨ op = 56 then some ((180, 0, 0, 182) : Form) else
  if op = 50 ∨ op = 51 then some ((180, 0, 2048, 187) : Form) else
  if op = 8 ∨ op = 9 ∨ op = 10 ∨ op = 11 ∨ op = 43 ∨ op = 44 ∨ op = 45 ∨ op = 46 ∨ op = 47 ∨ op = 48 ∨ op = 52 ∨ op = 54 ∨ op = 55 then some ((183, 1, 1, 187) : Form) else
  if 30 ≤ op ∧ op ≤ 42 then some ((183, 2, 2, 187) : Form) else
  none
def formOf (op : Int) : Option Form := match baseOf op with | some F => some F | none => restOf op
/-- The table while it is filled: all ops below n are in. -/
def upTo (n : Int) (op : Int) : Option Form := match baseOf op with | some F => some F | none => if op < n then restOf op else none
theorem all256 {p : Int → Bool} (h : (List.range 256).all (fun k => p (k : Int)) = true) (k : Int) (h0 : 0 ≤ k) (h1 : k < 256) : p k = true := by
  have := List.all_eq_true.1 h k.toNat (List.mem_range.2 (by omega))
  rw [Int.toNat_of_nonneg h0] at this
  exact this
theorem upTo_full (k : Int) (h0 : 0 ≤ k) (h1 : k < 256) : upTo 58 k = formOf k := by
  have := all256 (p := fun k => decide (upTo 58 k = formOf k)) (by decide +kernel) k h0 h1
  exact of_decide_eq_true this
def ins (op : Int) (x : Option Form) (g : Int → Option Form) : Int → Option Form := fun j => if j = op then x else g j
theorem upTo_next (op : Nat) (h0 : 1 ≤ op) (h1 : op ≤ 57) (k : Int) (k0 : 0 ≤ k) (k1 : k < 256) : upTo ((op : Int) + 1) k = ins op (formOf op) (upTo op) k := by
  have h : (List.range 58).all (fun o => (List.range 256).all (fun k => decide (upTo ((o : Int) + 1) (k : Int) = ins o (formOf o) (upTo o) (k : Int)))) = true := by decide +kernel
  have := List.all_eq_true.1 h op (List.mem_range.2 (by omega))
  exact of_decide_eq_true (all256 (p := fun k => decide (upTo ((op : Int) + 1) k = ins op (formOf op) (upTo op) k)) this k k0 k1)
theorem upTo_same (op : Nat) (h0 : 1 ≤ op) (h1 : op ≤ 57) (he : formOf op = none ∨ baseOf op ≠ none) (k : Int) (k0 : 0 ≤ k) (k1 : k < 256) : upTo ((op : Int) + 1) k = upTo op k := by
  rw [upTo_next op h0 h1 k k0 k1]
  unfold ins
  by_cases hk : k = op
  · subst hk
    rw [if_pos rfl]
    unfold upTo
    unfold formOf at he ⊢
    cases hb : baseOf (op : Int) with
    | some F => rfl
    | none =>
      rw [hb] at he
      rcases he with he | he
      · dsimp only at he ⊢
        rw [he]
        split <;> rfl
      · exact absurd rfl he
  · rw [if_neg hk]
theorem upTo_start (k : Int) (k0 : 0 ≤ k) (k1 : k < 256) : (ins 23 (some ((183, 0, 0, 182) : Form)) (ins 53 (some ((183, 1, 1, 188) : Form)) (ins 25 (some ((183, 0, 2048, 187) : Form)) (ins 24 (some ((186, 0, 0, 182) : Form)) (ins 7 (some ((183, 2, 2, 185) : Form)) (ins 6 (some ((183, 2, 3, 185) : Form)) (ins 3 (some ((183, 0, 2048, 184) : Form)) (ins 2 (some ((180, 0, 0, 182) : Form)) (ins 1 (some ((180, 1, 2048, 181) : Form)) (fun _ => none)))))))))) k = upTo 1 k := by
  exact of_decide_eq_true (all256 (p := fun k => decide ((ins 23 (some ((183, 0, 0, 182) : Form)) (ins 53 (some ((183, 1, 1, 188) : Form)) (ins 25 (some ((183, 0, 2048, 187) : Form)) (ins 24 (some ((186, 0, 0, 182) : Form)) (ins 7 (some ((183, 2, 2, 185) : Form)) (ins 6 (some ((183, 2, 3, 185) : Form)) (ins 3 (some ((183, 0, 2048, 184) : Form)) (ins 2 (some ((180, 0, 0, 182) : Form)) (ins 1 (some ((180, 1, 2048, 181) : Form)) (fun _ => none)))))))))) k = upTo 1 k)) (by decide +kernel) k k0 k1)
theorem Tab.ins {W : World} {b n : Nat} {k : Int} {F : Form} {g : Int → Option Form} (h : Tab W b n (fun j => if j = k then some (formV F) else (g j).map formV)) : Tab W b n (fun j => (ins k (some F) g j).map formV) :=
  h.congr (fun j _ _ => by unfold Tb.ins; split <;> rfl)
theorem forms_c (W : World) : Calls Try.prog 139 #[] W fun e W' => ∃ b n, e = .returned (.map (some b)) ∧ Tab W' b n (fun k => (formOf k).map formV) ∧ Below W.heap.size W W' ∧ W.heap.size ≤ b := by
  have hmm := @run_makeMap Try.prog
  have HT : Aside0 (Tab (W.alloc (.map #[] 0)) W.heap.size 0 (fun j => ((fun _ => none : Int → Option Form) j).map formV)) := ⟨Tab.made W⟩
  have HB : Aside0 (Below W.heap.size W (W.alloc (.map #[] 0))) := ⟨below_alloc (Below.refl _ _) _⟩
  have HBS : Aside0 (W.heap.size ≤ W.heap.size) := ⟨Nat.le_refl _⟩
  go_enter Try.func139, Try.ntmps139
  go_wp2_with (first
    | ((with_reducible refine gate_ (.insert 190 (.tmp 5) (.const (.int .u8 1)) (.tmp 6)) rfl ?_); refine at_ins8 rfl (.tmp 5) (.const (.int .u8 1)) (.tmp 6) 190 195 rfl Try.underlying190 rfl HT.out (by decide) 1 rfl (by decide) (by decide) (formV ((180, 1, 2048, 181) : Form)) rfl ?_; intro w1 h1 k1; have n0_ := Aside0.mk (h1.ins); have n1_ := Aside0.mk (HB.out.trans (k1.to_below HB.out.size (fun q e => by have := HBS.out; omega))); clear HT HB h1 k1; have HT := n0_; have HB := n1_; clear n0_ n1_)
    | ((with_reducible refine gate_ (.insert 190 (.tmp 5) (.const (.int .u8 2)) (.tmp 7)) rfl ?_); refine at_ins8 rfl (.tmp 5) (.const (.int .u8 2)) (.tmp 7) 190 195 rfl Try.underlying190 rfl HT.out (by decide) 2 rfl (by decide) (by decide) (formV ((180, 0, 0, 182) : Form)) rfl ?_; intro w2 h1 k1; have n0_ := Aside0.mk (h1.ins); have n1_ := Aside0.mk (HB.out.trans (k1.to_below HB.out.size (fun q e => by have := HBS.out; omega))); clear HT HB h1 k1; have HT := n0_; have HB := n1_; clear n0_ n1_)
    | ((with_reducible refine gate_ (.insert 190 (.tmp 5) (.const (.int .u8 3)) (.tmp 8)) rfl ?_); refine at_ins8 rfl (.tmp 5) (.const (.int .u8 3)) (.tmp 8) 190 195 rfl Try.underlying190 rfl HT.out (by decide) 3 rfl (by decide) (by decide) (formV ((183, 0, 2048, 184) : Form)) rfl ?_; intro w3 h1 k1; have n0_ := Aside0.mk (h1.ins); have n1_ := Aside0.mk (HB.out.trans (k1.to_below HB.out.size (fun q e => by have := HBS.out; omega))); clear HT HB h1 k1; have HT := n0_; have HB := n1_; clear n0_ n1_)
    | ((with_reducible refine gate_ (.insert 190 (.tmp 5) (.const (.int .u8 6)) (.tmp 9)) rfl ?_); refine at_ins8 rfl (.tmp 5) (.const (.int .u8 6)) (.tmp 9) 190 195 rfl Try.underlying190 rfl HT.out (by decide) 6 rfl (by decide) (by decide) (formV ((183, 2, 3, 185) : Form)) rfl ?_; intro w4 h1 k1; have n0_ := Aside0.mk (h1.ins); have n1_ := Aside0.mk (HB.out.trans (k1.to_below HB.out.size (fun q e => by have := HBS.out; omega))); clear HT HB h1 k1; have HT := n0_; have HB := n1_; clear n0_ n1_)
    | ((with_reducible refine gate_ (.insert 190 (.tmp 5) (.const (.int .u8 7)) (.tmp 10)) rfl ?_); refine at_ins8 rfl (.tmp 5) (.const (.int .u8 7)) (.tmp 10) 190 195 rfl Try.underlying190 rfl HT.out (by decide) 7 rfl (by decide) (by decide) (formV ((183, 2, 2, 185) : Form)) rfl ?_; intro w5 h1 k1; have n0_ := Aside0.mk (h1.ins); have n1_ := Aside0.mk (HB.out.trans (k1.to_below HB.out.size (fun q e => by have := HBS.out; omega))); clear HT HB h1 k1; have HT := n0_; have HB := n1_; clear n0_ n1_)
    | ((with_reducible refine gate_ (.insert 190 (.tmp 5) (.const (.int .u8 24)) (.tmp 11)) rfl ?_); refine at_ins8 rfl (.tmp 5) (.const (.int .u8 24)) (.tmp 11) 190 195 rfl Try.underlying190 rfl HT.out (by decide) 24 rfl (by decide) (by decide) (formV ((186, 0, 0, 182) : Form)) rfl ?_; intro w6 h1 k1; have n0_ := Aside0.mk (h1.ins); have n1_ := Aside0.mk (HB.out.trans (k1.to_below HB.out.size (fun q e => by have := HBS.out; omega))); clear HT HB h1 k1; have HT := n0_; have HB := n1_; clear n0_ n1_)
    | ((with_reducible refine gate_ (.insert 190 (.tmp 5) (.const (.int .u8 25)) (.tmp 12)) rfl ?_); refine at_ins8 rfl (.tmp 5) (.const (.int .u8 25)) (.tmp 12) 190 195 rfl Try.underlying190 rfl HT.out (by decide) 25 rfl (by decide) (by decide) (formV ((183, 0, 2048, 187) : Form)) rfl ?_; intro w7 h1 k1; have n0_ := Aside0.mk (h1.ins); have n1_ := Aside0.mk (HB.out.trans (k1.to_below HB.out.size (fun q e => by have := HBS.out; omega))); clear HT HB h1 k1; have HT := n0_; have HB := n1_; clear n0_ n1_)
    | ((with_reducible refine gate_ (.insert 190 (.tmp 5) (.const (.int .u8 53)) (.tmp 13)) rfl ?_); refine at_ins8 rfl (.tmp 5) (.const (.int .u8 53)) (.tmp 13) 190 195 rfl Try.underlying190 rfl HT.out (by decide) 53 rfl (by decide) (by decide) (formV ((183, 1, 1, 188) : Form)) rfl ?_; intro w8 h1 k1; have n0_ := Aside0.mk (h1.ins); have n1_ := Aside0.mk (HB.out.trans (k1.to_below HB.out.size (fun q e => by have := HBS.out; omega))); clear HT HB h1 k1; have HT := n0_; have HB := n1_; clear n0_ n1_)
    | ((with_reducible refine gate_ (.insert 190 (.tmp 5) (.const (.int .u8 23)) (.tmp 14)) rfl ?_); refine at_ins8 rfl (.tmp 5) (.const (.int .u8 23)) (.tmp 14) 190 195 rfl Try.underlying190 rfl HT.out (by decide) 23 rfl (by decide) (by decide) (formV ((183, 0, 0, 182) : Form)) rfl ?_; intro w9 h1 k1; have n0_ := Aside0.mk (h1.ins); have n1_ := Aside0.mk (HB.out.trans (k1.to_below HB.out.size (fun q e => by have := HBS.out; omega))); clear HT HB h1 k1; have HT := n0_; have HB := n1_; clear n0_ n1_)
    | fail)
  have HT1 := Aside0.mk ((HT.out.congr (fun k k0 k1 => congrArg (Option.map formV) (upTo_start k k0 k1))))
  clear HT hmm
  obtain ⟨b, hb⟩ : ∃ b, b = W.heap.size := ⟨_, rfl⟩
  have HBE : Aside0 (W.heap.size ≤ b) := ⟨Nat.le_of_eq hb.symm⟩
  rw [← hb] at HT1 ⊢
  clear hb HBS
  go_loopg [2] 57 (fun kk v2 wr => ∃ op : Int, v2 = .int .u8 op ∧ Aside0 (1 ≤ op ∧ op ≤ 58 ∧ kk = (58 - op).toNat) ∧ Aside0 (Tab wr b (op.toNat + 8) (fun j => (upTo op j).map formV)) ∧ Aside0 (Below W.heap.size W wr))
  case atStart => exact ⟨1, rfl, ⟨by omega, by omega, rfl⟩, ⟨HT1.out⟩, HB⟩
  case round =>
    clear HT1 HB
    obtain ⟨op, rfl, ho, HT, HB⟩ := hrel
    rcases (show op = 1 ∨ op = 2 ∨ op = 3 ∨ op = 4 ∨ op = 5 ∨ op = 6 ∨ op = 7 ∨ op = 8 ∨ op = 9 ∨ op = 10 ∨ op = 11 ∨ op = 12 ∨ op = 13 ∨ op = 14 ∨ op = 15 ∨ op = 16 ∨ op = 17 ∨ op = 18 ∨ op = 19 ∨ op = 20 ∨ op = 21 ∨ op = 22 ∨ op = 23 ∨ op = 24 ∨ op = 25 ∨ op = 26 ∨ op = 27 ∨ op = 28 ∨ op = 29 ∨ op = 30 ∨ op = 31 ∨ op = 32 ∨ op = 33 ∨ op = 34 ∨ op = 35 ∨ op = 36 ∨ op = 37 ∨ op = 38 ∨ op = 39 ∨ op = 40 ∨ op = 41 ∨ op = 42 ∨ op = 43 ∨ op = 44 ∨ op = 45 ∨ op = 46 ∨ op = 47 ∨ op = 48 ∨ op = 49 ∨ op = 50 ∨ op = 51 ∨ op = 52 ∨ op = 53 ∨ op = 54 ∨ op = 55 ∨ op = 56 ∨ op = 57 ∨ op = 58 by have := ho.out; omega) with rfl | rfl | rfl | rfl | rfl | rfl | rfl | rfl | rfl | rfl | rfl | rfl | rfl | rfl | rfl | rfl | rfl | rfl | rfl | rfl | rfl | rfl | rfl | rfl | rfl | rfl | rfl | rfl | rfl | rfl | rfl | rfl | rfl | rfl | rfl | rfl | rfl | rfl | rfl | rfl | rfl | rfl | rfl | rfl | rfl | rfl | rfl | rfl | rfl | rfl | rfl | rfl | rfl | rfl | rfl | rfl | rfl | rfl
    · go_wp2_with (first
        | ((with_reducible refine gate_dst (N := 23) rfl ?_); refine at_look rfl (.tmp 21) (.tmp 22) 190 195 noForm rfl Try.underlying190 zform rfl HT.out _ rfl (by decide) (by decide) (.agg #[.func (.func 180) #[] #[], .int .i64 1, .int .i64 2048, .func (.func 181) #[] #[]]) true rfl rfl ?_)
        | fail)
      go_roundg 56
      case measure => have := ho.out; omega
      case rel => exact ⟨2, rfl, ⟨by omega, by omega, rfl⟩, ⟨((HT.out.below (below_alloc (Below.refl _ _) _)).congr (fun k k0 k1 => congrArg (Option.map formV) (upTo_same 1 (by decide) (by decide) (.inr (by decide)) k k0 k1).symm)).more (by decide)⟩, ⟨below_step HB.out (below_alloc (Below.refl _ _) _)⟩⟩
    · go_wp2_with (first
        | ((with_reducible refine gate_dst (N := 23) rfl ?_); refine at_look rfl (.tmp 21) (.tmp 22) 190 195 noForm rfl Try.underlying190 zform rfl HT.out _ rfl (by decide) (by decide) (.agg #[.func (.func 180) #[] #[], .int .i64 0, .int .i64 0, .func (.func 182) #[] #[]]) true rfl rfl ?_)
        | fail)
      go_roundg 55
      case measure => have := ho.out; omega
      case rel => exact ⟨3, rfl, ⟨by omega, by omega, rfl⟩, ⟨((HT.out.below (below_alloc (Below.refl _ _) _)).congr (fun k k0 k1 => congrArg (Option.map formV) (upTo_same 2 (by decide) (by decide) (.inr (by decide)) k k0 k1).symm)).more (by decide)⟩, ⟨below_step HB.out (below_alloc (Below.refl _ _) _)⟩⟩
    · go_wp2_with (first
        | ((with_reducible refine gate_dst (N := 23) rfl ?_); refine at_look rfl (.tmp 21) (.tmp 22) 190 195 noForm rfl Try.underlying190 zform rfl HT.out _ rfl (by decide) (by decide) (.agg #[.func (.func 183) #[] #[], .int .i64 0, .int .i64 2048, .func (.func 184) #[] #[]]) true rfl rfl ?_)
        | fail)
      go_roundg 54
      case measure => have := ho.out; omega
      case rel => exact ⟨4, rfl, ⟨by omega, by omega, rfl⟩, ⟨((HT.out.below (below_alloc (Below.refl _ _) _)).congr (fun k k0 k1 => congrArg (Option.map formV) (upTo_same 3 (by decide) (by decide) (.inr (by decide)) k k0 k1).symm)).more (by decide)⟩, ⟨below_step HB.out (below_alloc (Below.refl _ _) _)⟩⟩
    · go_wp2_with (first
        | ((with_reducible refine gate_dst (N := 23) rfl ?_); refine at_look rfl (.tmp 21) (.tmp 22) 190 195 noForm rfl Try.underlying190 zform rfl HT.out _ rfl (by decide) (by decide) (.agg #[.nilFunc, .int .i64 0, .int .i64 0, .nilFunc]) false rfl rfl ?_)
        | ((with_reducible refine gate_ (.mapUpdate 190 (.tmp 57) (.tmp 58) (.tmp 59)) rfl ?_); refine at_put8 rfl (.tmp 57) (.tmp 58) (.tmp 59) 190 195 rfl Try.underlying190 rfl (HT.out.below (below_alloc (Below.refl _ _) _)) (by decide) _ rfl (by decide) (by decide) (formV ((180, 1, 1, 187) : Form)) rfl ?_; intro w2 h1 k1; have HT2 := Aside0.mk h1; have HK2 := Aside0.mk k1; clear h1 k1)
        | fail)
      go_roundg 53
      case measure => have := ho.out; omega
      case rel => exact ⟨5, rfl, ⟨by omega, by omega, rfl⟩, ⟨HT2.out.ins.congr (fun k k0 k1 => congrArg (Option.map formV) (upTo_next 4 (by decide) (by decide) k k0 k1).symm)⟩, ⟨(below_step HB.out (below_alloc (Below.refl _ _) _)).trans (HK2.out.to_below (below_step HB.out (below_alloc (Below.refl _ _) _)).size (fun q e => by have := HBE.out; omega))⟩⟩
    · go_wp2_with (first
        | ((with_reducible refine gate_dst (N := 23) rfl ?_); refine at_look rfl (.tmp 21) (.tmp 22) 190 195 noForm rfl Try.underlying190 zform rfl HT.out _ rfl (by decide) (by decide) (.agg #[.nilFunc, .int .i64 0, .int .i64 0, .nilFunc]) false rfl rfl ?_)
        | ((with_reducible refine gate_ (.mapUpdate 190 (.tmp 57) (.tmp 58) (.tmp 59)) rfl ?_); refine at_put8 rfl (.tmp 57) (.tmp 58) (.tmp 59) 190 195 rfl Try.underlying190 rfl (HT.out.below (below_alloc (Below.refl _ _) _)) (by decide) _ rfl (by decide) (by decide) (formV ((180, 1, 1, 187) : Form)) rfl ?_; intro w2 h1 k1; have HT2 := Aside0.mk h1; have HK2 := Aside0.mk k1; clear h1 k1)
        | fail)
      go_roundg 52
      case measure => have := ho.out; omega
      case rel => exact ⟨6, rfl, ⟨by omega, by omega, rfl⟩, ⟨HT2.out.ins.congr (fun k k0 k1 => congrArg (Option.map formV) (upTo_next 5 (by decide) (by decide) k k0 k1).symm)⟩, ⟨(below_step HB.out (below_alloc (Below.refl _ _) _)).trans (HK2.out.to_below (below_step HB.out (below_alloc (Below.refl _ _) _)).size (fun q e => by have := HBE.out; omega))⟩⟩
    · go_wp2_with (first
        | ((with_reducible refine gate_dst (N := 23) rfl ?_); refine at_look rfl (.tmp 21) (.tmp 22) 190 195 noForm rfl Try.underlying190 zform rfl HT.out _ rfl (by decide) (by decide) (.agg #[.func (.func 183) #[] #[], .int .i64 2, .int .i64 3, .func (.func 185) #[] #[]]) true rfl rfl ?_)
        | fail)
      go_roundg 51
      case measure => have := ho.out; omega
      case rel => exact ⟨7, rfl, ⟨by omega, by omega, rfl⟩, ⟨((HT.out.below (below_alloc (Below.refl _ _) _)).congr (fun k k0 k1 => congrArg (Option.map formV) (upTo_same 6 (by decide) (by decide) (.inr (by decide)) k k0 k1).symm)).more (by decide)⟩, ⟨below_step HB.out (below_alloc (Below.refl _ _) _)⟩⟩
    · go_wp2_with (first
        | ((with_reducible refine gate_dst (N := 23) rfl ?_); refine at_look rfl (.tmp 21) (.tmp 22) 190 195 noForm rfl Try.underlying190 zform rfl HT.out _ rfl (by decide) (by decide) (.agg #[.func (.func 183) #[] #[], .int .i64 2, .int .i64 2, .func (.func 185) #[] #[]]) true rfl rfl ?_)
        | fail)
      go_roundg 50
      case measure => have := ho.out; omega
      case rel => exact ⟨8, rfl, ⟨by omega, by omega, rfl⟩, ⟨((HT.out.below (below_alloc (Below.refl _ _) _)).congr (fun k k0 k1 => congrArg (Option.map formV) (upTo_same 7 (by decide) (by decide) (.inr (by decide)) k k0 k1).symm)).more (by decide)⟩, ⟨below_step HB.out (below_alloc (Below.refl _ _) _)⟩⟩
    · go_wp2_with (first
        | ((with_reducible refine gate_dst (N := 23) rfl ?_); refine at_look rfl (.tmp 21) (.tmp 22) 190 195 noForm rfl Try.underlying190 zform rfl HT.out _ rfl (by decide) (by decide) (.agg #[.nilFunc, .int .i64 0, .int .i64 0, .nilFunc]) false rfl rfl ?_)
        | ((with_reducible refine gate_ (.mapUpdate 190 (.tmp 69) (.tmp 70) (.tmp 71)) rfl ?_); refine at_put8 rfl (.tmp 69) (.tmp 70) (.tmp 71) 190 195 rfl Try.underlying190 rfl (HT.out.below (below_alloc (Below.refl _ _) _)) (by decide) _ rfl (by decide) (by decide) (formV ((183, 1, 1, 187) : Form)) rfl ?_; intro w2 h1 k1; have HT2 := Aside0.mk h1; have HK2 := Aside0.mk k1; clear h1 k1)
        | fail)
      go_roundg 49
      case measure => have := ho.out; omega
      case rel => exact ⟨9, rfl, ⟨by omega, by omega, rfl⟩, ⟨HT2.out.ins.congr (fun k k0 k1 => congrArg (Option.map formV) (upTo_next 8 (by decide) (by decide) k k0 k1).symm)⟩, ⟨(below_step HB.out (below_alloc (Below.refl _ _) _)).trans (HK2.out.to_below (below_step HB.out (below_alloc (Below.refl _ _) _)).size (fun q e => by have := HBE.out; omega))⟩⟩
    · go_wp2_with (first
        | ((with_reducible refine gate_dst (N := 23) rfl ?_); refine at_look rfl (.tmp 21) (.tmp 22) 190 195 noForm rfl Try.underlying190 zform rfl HT.out _ rfl (by decide) (by decide) (.agg #[.nilFunc, .int .i64 0, .int .i64 0, .nilFunc]) false rfl rfl ?_)
        | ((with_reducible refine gate_ (.mapUpdate 190 (.tmp 69) (.tmp 70) (.tmp 71)) rfl ?_); refine at_put8 rfl (.tmp 69) (.tmp 70) (.tmp 71) 190 195 rfl Try.underlying190 rfl (HT.out.below (below_alloc (Below.refl _ _) _)) (by decide) _ rfl (by decide) (by decide) (formV ((183, 1, 1, 187) : Form)) rfl ?_; intro w2 h1 k1; have HT2 := Aside0.mk h1; have HK2 := Aside0.mk k1; clear h1 k1)
        | fail)
      go_roundg 48
      case measure => have := ho.out; omega
      case rel => exact ⟨10, rfl, ⟨by omega, by omega, rfl⟩, ⟨HT2.out.ins.congr (fun k k0 k1 => congrArg (Option.map formV) (upTo_next 9 (by decide) (by decide) k k0 k1).symm)⟩, ⟨(below_step HB.out (below_alloc (Below.refl _ _) _)).trans (HK2.out.to_below (below_step HB.out (below_alloc (Below.refl _ _) _)).size (fun q e => by have := HBE.out; omega))⟩⟩
    · go_wp2_with (first
        | ((with_reducible refine gate_dst (N := 23) rfl ?_); refine at_look rfl (.tmp 21) (.tmp 22) 190 195 noForm rfl Try.underlying190 zform rfl HT.out _ rfl (by decide) (by decide) (.agg #[.nilFunc, .int .i64 0, .int .i64 0, .nilFunc]) false rfl rfl ?_)
        | ((with_reducible refine gate_ (.mapUpdate 190 (.tmp 69) (.tmp 70) (.tmp 71)) rfl ?_); refine at_put8 rfl (.tmp 69) (.tmp 70) (.tmp 71) 190 195 rfl Try.underlying190 rfl (HT.out.below (below_alloc (Below.refl _ _) _)) (by decide) _ rfl (by decide) (by decide) (formV ((183, 1, 1, 187) : Form)) rfl ?_; intro w2 h1 k1; have HT2 := Aside0.mk h1; have HK2 := Aside0.mk k1; clear h1 k1)
        | fail)
      go_roundg 47
      case measure => have := ho.out; omega
      case rel => exact ⟨11, rfl, ⟨by omega, by omega, rfl⟩, ⟨HT2.out.ins.congr (fun k k0 k1 => congrArg (Option.map formV) (upTo_next 10 (by decide) (by decide) k k0 k1).symm)⟩, ⟨(below_step HB.out (below_alloc (Below.refl _ _) _)).trans (HK2.out.to_below (below_step HB.out (below_alloc (Below.refl _ _) _)).size (fun q e => by have := HBE.out; omega))⟩⟩
    · go_wp2_with (first
        | ((with_reducible refine gate_dst (N := 23) rfl ?_); refine at_look rfl (.tmp 21) (.tmp 22) 190 195 noForm rfl Try.underlying190 zform rfl HT.out _ rfl (by decide) (by decide) (.agg #[.nilFunc, .int .i64 0, .int .i64 0, .nilFunc]) false rfl rfl ?_)
        | ((with_reducible refine gate_ (.mapUpdate 190 (.tmp 69) (.tmp 70) (.tmp 71)) rfl ?_); refine at_put8 rfl (.tmp 69) (.tmp 70) (.tmp 71) 190 195 rfl Try.underlying190 rfl (HT.out.below (below_alloc (Below.refl _ _) _)) (by decide) _ rfl (by decide) (by decide) (formV ((183, 1, 1, 187) : Form)) rfl ?_; intro w2 h1 k1; have HT2 := Aside0.mk h1; have HK2 := Aside0.mk k1; clear h1 k1)
        | fail)
      go_roundg 46
      case measure => have := ho.out; omega
      case rel => exact ⟨12, rfl, ⟨by omega, by omega, rfl⟩, ⟨HT2.out.ins.congr (fun k k0 k1 => congrArg (Option.map formV) (upTo_next 11 (by decide) (by decide) k k0 k1).symm)⟩, ⟨(below_step HB.out (below_alloc (Below.refl _ _) _)).trans (HK2.out.to_below (below_step HB.out (below_alloc (Below.refl _ _) _)).size (fun q e => by have := HBE.out; omega))⟩⟩
    · go_wp2_with (first
        | ((with_reducible refine gate_dst (N := 23) rfl ?_); refine at_look rfl (.tmp 21) (.tmp 22) 190 195 noForm rfl Try.underlying190 zform rfl HT.out _ rfl (by decide) (by decide) (.agg #[.nilFunc, .int .i64 0, .int .i64 0, .nilFunc]) false rfl rfl ?_)
        | fail)
      go_roundg 45
      case measure => have := ho.out; omega
      case rel => exact ⟨13, rfl, ⟨by omega, by omega, rfl⟩, ⟨((HT.out.below (below_alloc (Below.refl _ _) _)).congr (fun k k0 k1 => congrArg (Option.map formV) (upTo_same 12 (by decide) (by decide) (.inl rfl) k k0 k1).symm)).more (by decide)⟩, ⟨below_step HB.out (below_alloc (Below.refl _ _) _)⟩⟩
    · go_wp2_with (first
        | ((with_reducible refine gate_dst (N := 23) rfl ?_); refine at_look rfl (.tmp 21) (.tmp 22) 190 195 noForm rfl Try.underlying190 zform rfl HT.out _ rfl (by decide) (by decide) (.agg #[.nilFunc, .int .i64 0, .int .i64 0, .nilFunc]) false rfl rfl ?_)
        | fail)
      go_roundg 44
      case measure => have := ho.out; omega
      case rel => exact ⟨14, rfl, ⟨by omega, by omega, rfl⟩, ⟨((HT.out.below (below_alloc (Below.refl _ _) _)).congr (fun k k0 k1 => congrArg (Option.map formV) (upTo_same 13 (by decide) (by decide) (.inl rfl) k k0 k1).symm)).more (by decide)⟩, ⟨below_step HB.out (below_alloc (Below.refl _ _) _)⟩⟩
    · go_wp2_with (first
        | ((with_reducible refine gate_dst (N := 23) rfl ?_); refine at_look rfl (.tmp 21) (.tmp 22) 190 195 noForm rfl Try.underlying190 zform rfl HT.out _ rfl (by decide) (by decide) (.agg #[.nilFunc, .int .i64 0, .int .i64 0, .nilFunc]) false rfl rfl ?_)
        | fail)
      go_roundg 43
      case measure => have := ho.out; omega
      case rel => exact ⟨15, rfl, ⟨by omega, by omega, rfl⟩, ⟨((HT.out.below (below_alloc (Below.refl _ _) _)).congr (fun k k0 k1 => congrArg (Option.map formV) (upTo_same 14 (by decide) (by decide) (.inl rfl) k k0 k1).symm)).more (by decide)⟩, ⟨below_step HB.out (below_alloc (Below.refl _ _) _)⟩⟩
    · go_wp2_with (first
        | ((with_reducible refine gate_dst (N := 23) rfl ?_); refine at_look rfl (.tmp 21) (.tmp 22) 190 195 noForm rfl Try.underlying190 zform rfl HT.out _ rfl (by decide) (by decide) (.agg #[.nilFunc, .int .i64 0, .int .i64 0, .nilFunc]) false rfl rfl ?_)
        | fail)
      go_roundg 42
      case measure => have := ho.out; omega
      case rel => exact ⟨16, rfl, ⟨by omega, by omega, rfl⟩, ⟨((HT.out.below (below_alloc (Below.refl _ _) _)).congr (fun k k0 k1 => congrArg (Option.map formV) (upTo_same 15 (by decide) (by decide) (.inl rfl) k k0 k1).symm)).more (by decide)⟩, ⟨below_step HB.out (below_alloc (Below.refl _ _) _)⟩⟩
    · go_wp2_with (first
        | ((with_reducible refine gate_dst (N := 23) rfl ?_); refine at_look rfl (.tmp 21) (.tmp 22) 190 195 noForm rfl Try.underlying190 zform rfl HT.out _ rfl (by decide) (by decide) (.agg #[.nilFunc, .int .i64 0, .int .i64 0, .nilFunc]) false rfl rfl ?_)
        | fail)
      go_roundg 41
      case measure => have := ho.out; omega
      case rel => exact ⟨17, rfl, ⟨by omega, by omega, rfl⟩, ⟨((HT.out.below (below_alloc (Below.refl _ _) _)).congr (fun k k0 k1 => congrArg (Option.map formV) (upTo_same 16 (by decide) (by decide) (.inl rfl) k k0 k1).symm)).more (by decide)⟩, ⟨below_step HB.out (below_alloc (Below.refl _ _) _)⟩⟩
    · go_wp2_with (first
        | ((with_reducible refine gate_dst (N := 23) rfl ?_); refine at_look rfl (.tmp 21) (.tmp 22) 190 195 noForm rfl Try.underlying190 zform rfl HT.out _ rfl (by decide) (by decide) (.agg #[.nilFunc, .int .i64 0, .int .i64 0, .nilFunc]) false rfl rfl ?_)
        | fail)
      go_roundg 40
      case measure => have := ho.out; omega
      case rel => exact ⟨18, rfl, ⟨by omega, by omega, rfl⟩, ⟨((HT.out.below (below_alloc (Below.refl _ _) _)).congr (fun k k0 k1 => congrArg (Option.map formV) (upTo_same 17 (by decide) (by decide) (.inl rfl) k k0 k1).symm)).more (by decide)⟩, ⟨below_step HB.out (below_alloc (Below.refl _ _) _)⟩⟩
    · go_wp2_with (first
        | ((with_reducible refine gate_dst (N := 23) rfl ?_); refine at_look rfl (.tmp 21) (.tmp 22) 190 195 noForm rfl Try.underlying190 zform rfl HT.out _ rfl (by decide) (by decide) (.agg #[.nilFunc, .int .i64 0, .int .i64 0, .nilFunc]) false rfl rfl ?_)
        | fail)
      go_roundg 39
      case measure => have := ho.out; omega
      case rel => exact ⟨19, rfl, ⟨by omega, by omega, rfl⟩, ⟨((HT.out.below (below_alloc (Below.refl _ _) _)).congr (fun k k0 k1 => congrArg (Option.map formV) (upTo_same 18 (by decide) (by decide) (.inl rfl) k k0 k1).symm)).more (by decide)⟩, ⟨below_step HB.out (below_alloc (Below.refl _ _) _)⟩⟩
    · go_wp2_with (first
        | ((with_reducible refine gate_dst (N := 23) rfl ?_); refine at_look rfl (.tmp 21) (.tmp 22) 190 195 noForm rfl Try.underlying190 zform rfl HT.out _ rfl (by decide) (by decide) (.agg #[.nilFunc, .int .i64 0, .int .i64 0, .nilFunc]) false rfl rfl ?_)
        | fail)
      go_roundg 38
      case measure => have := ho.out; omega
      case rel => exact ⟨20, rfl, ⟨by omega, by omega, rfl⟩, ⟨((HT.out.below (below_alloc (Below.refl _ _) _)).congr (fun k k0 k1 => congrArg (Option.map formV) (upTo_same 19 (by decide) (by decide) (.inl rfl) k k0 k1).symm)).more (by decide)⟩, ⟨below_step HB.out (below_alloc (Below.refl _ _) _)⟩⟩
    · go_wp2_with (first
        | ((with_reducible refine gate_dst (N := 23) rfl ?_); refine at_look rfl (.tmp 21) (.tmp 22) 190 195 noForm rfl Try.underlying190 zform rfl HT.out _ rfl (by decide) (by decide) (.agg #[.nilFunc, .int .i64 0, .int .i64 0, .nilFunc]) false rfl rfl ?_)
        | ((with_reducible refine gate_ (.mapUpdate 190 (.tmp 60) (.tmp 61) (.tmp 62)) rfl ?_); refine at_put8 rfl (.tmp 60) (.tmp 61) (.tmp 62) 190 195 rfl Try.underlying190 rfl (HT.out.below (below_alloc (Below.refl _ _) _)) (by decide) _ rfl (by decide) (by decide) (formV ((183, 0, 0, 182) : Form)) rfl ?_; intro w2 h1 k1; have HT2 := Aside0.mk h1; have HK2 := Aside0.mk k1; clear h1 k1)
        | fail)
      go_roundg 37
      case measure => have := ho.out; omega
      case rel => exact ⟨21, rfl, ⟨by omega, by omega, rfl⟩, ⟨HT2.out.ins.congr (fun k k0 k1 => congrArg (Option.map formV) (upTo_next 20 (by decide) (by decide) k k0 k1).symm)⟩, ⟨(below_step HB.out (below_alloc (Below.refl _ _) _)).trans (HK2.out.to_below (below_step HB.out (below_alloc (Below.refl _ _) _)).size (fun q e => by have := HBE.out; omega))⟩⟩
    · go_wp2_with (first
        | ((with_reducible refine gate_dst (N := 23) rfl ?_); refine at_look rfl (.tmp 21) (.tmp 22) 190 195 noForm rfl Try.underlying190 zform rfl HT.out _ rfl (by decide) (by decide) (.agg #[.nilFunc, .int .i64 0, .int .i64 0, .nilFunc]) false rfl rfl ?_)
        | ((with_reducible refine gate_ (.mapUpdate 190 (.tmp 60) (.tmp 61) (.tmp 62)) rfl ?_); refine at_put8 rfl (.tmp 60) (.tmp 61) (.tmp 62) 190 195 rfl Try.underlying190 rfl (HT.out.below (below_alloc (Below.refl _ _) _)) (by decide) _ rfl (by decide) (by decide) (formV ((183, 0, 0, 182) : Form)) rfl ?_; intro w2 h1 k1; have HT2 := Aside0.mk h1; have HK2 := Aside0.mk k1; clear h1 k1)
        | fail)
      go_roundg 36
      case measure => have := ho.out; omega
      case rel => exact ⟨22, rfl, ⟨by omega, by omega, rfl⟩, ⟨HT2.out.ins.congr (fun k k0 k1 => congrArg (Option.map formV) (upTo_next 21 (by decide) (by decide) k k0 k1).symm)⟩, ⟨(below_step HB.out (below_alloc (Below.refl _ _) _)).trans (HK2.out.to_below (below_step HB.out (below_alloc (Below.refl _ _) _)).size (fun q e => by have := HBE.out; omega))⟩⟩
    · go_wp2_with (first
        | ((with_reducible refine gate_dst (N := 23) rfl ?_); refine at_look rfl (.tmp 21) (.tmp 22) 190 195 noForm rfl Try.underlying190 zform rfl HT.out _ rfl (by decide) (by decide) (.agg #[.nilFunc, .int .i64 0, .int .i64 0, .nilFunc]) false rfl rfl ?_)
        | ((with_reducible refine gate_ (.mapUpdate 190 (.tmp 60) (.tmp 61) (.tmp 62)) rfl ?_); refine at_put8 rfl (.tmp 60) (.tmp 61) (.tmp 62) 190 195 rfl Try.underlying190 rfl (HT.out.below (below_alloc (Below.refl _ _) _)) (by decide) _ rfl (by decide) (by decide) (formV ((183, 0, 0, 182) : Form)) rfl ?_; intro w2 h1 k1; have HT2 := Aside0.mk h1; have HK2 := Aside0.mk k1; clear h1 k1)
        | fail)
      go_roundg 35
      case measure => have := ho.out; omega
      case rel => exact ⟨23, rfl, ⟨by omega, by omega, rfl⟩, ⟨HT2.out.ins.congr (fun k k0 k1 => congrArg (Option.map formV) (upTo_next 22 (by decide) (by decide) k k0 k1).symm)⟩, ⟨(below_step HB.out (below_alloc (Below.refl _ _) _)).trans (HK2.out.to_below (below_step HB.out (below_alloc (Below.refl _ _) _)).size (fun q e => by have := HBE.out; omega))⟩⟩
    · go_wp2_with (first
        | ((with_reducible refine gate_dst (N := 23) rfl ?_); refine at_look rfl (.tmp 21) (.tmp 22) 190 195 noForm rfl Try.underlying190 zform rfl HT.out _ rfl (by decide) (by decide) (.agg #[.func (.func 183) #[] #[], .int .i64 0, .int .i64 0, .func (.func 182) #[] #[]]) true rfl rfl ?_)
        | fail)
      go_roundg 34
      case measure => have := ho.out; omega
      case rel => exact ⟨24, rfl, ⟨by omega, by omega, rfl⟩, ⟨((HT.out.below (below_alloc (Below.refl _ _) _)).congr (fun k k0 k1 => congrArg (Option.map formV) (upTo_same 23 (by decide) (by decide) (.inr (by decide)) k k0 k1).symm)).more (by decide)⟩, ⟨below_step HB.out (below_alloc (Below.refl _ _) _)⟩⟩
    · go_wp2_with (first
        | ((with_reducible refine gate_dst (N := 23) rfl ?_); refine at_look rfl (.tmp 21) (.tmp 22) 190 195 noForm rfl Try.underlying190 zform rfl HT.out _ rfl (by decide) (by decide) (.agg #[.func (.func 186) #[] #[], .int .i64 0, .int .i64 0, .func (.func 182) #[] #[]]) true rfl rfl ?_)
        | fail)
      go_roundg 33
      case measure => have := ho.out; omega
      case rel => exact ⟨25, rfl, ⟨by omega, by omega, rfl⟩, ⟨((HT.out.below (below_alloc (Below.refl _ _) _)).congr (fun k k0 k1 => congrArg (Option.map formV) (upTo_same 24 (by decide) (by decide) (.inr (by decide)) k k0 k1).symm)).more (by decide)⟩, ⟨below_step HB.out (below_alloc (Below.refl _ _) _)⟩⟩
    · go_wp2_with (first
        | ((with_reducible refine gate_dst (N := 23) rfl ?_); refine at_look rfl (.tmp 21) (.tmp 22) 190 195 noForm rfl Try.underlying190 zform rfl HT.out _ rfl (by decide) (by decide) (.agg #[.func (.func 183) #[] #[], .int .i64 0, .int .i64 2048, .func (.func 187) #[] #[]]) true rfl rfl ?_)
        | fail)
      go_roundg 32
      case measure => have := ho.out; omega
      case rel => exact ⟨26, rfl, ⟨by omega, by omega, rfl⟩, ⟨((HT.out.below (below_alloc (Below.refl _ _) _)).congr (fun k k0 k1 => congrArg (Option.map formV) (upTo_same 25 (by decide) (by decide) (.inr (by decide)) k k0 k1).symm)).more (by decide)⟩, ⟨below_step HB.out (below_alloc (Below.refl _ _) _)⟩⟩
    · go_wp2_with (first
        | ((with_reducible refine gate_dst (N := 23) rfl ?_); refine at_look rfl (.tmp 21) (.tmp 22) 190 195 noForm rfl Try.underlying190 zform rfl HT.out _ rfl (by decide) (by decide) (.agg #[.nilFunc, .int .i64 0, .int .i64 0, .nilFunc]) false rfl rfl ?_)
        | ((with_reducible refine gate_ (.mapUpdate 190 (.tmp 63) (.tmp 64) (.tmp 65)) rfl ?_); refine at_put8 rfl (.tmp 63) (.tmp 64) (.tmp 65) 190 195 rfl Try.underlying190 rfl (HT.out.below (below_alloc (Below.refl _ _) _)) (by decide) _ rfl (by decide) (by decide) (formV ((180, 0, 0, 182) : Form)) rfl ?_; intro w2 h1 k1; have HT2 := Aside0.mk h1; have HK2 := Aside0.mk k1; clear h1 k1)
        | fail)
      go_roundg 31
      case measure => have := ho.out; omega
      case rel => exact ⟨27, rfl, ⟨by omega, by omega, rfl⟩, ⟨HT2.out.ins.congr (fun k k0 k1 => congrArg (Option.map formV) (upTo_next 26 (by decide) (by decide) k k0 k1).symm)⟩, ⟨(below_step HB.out (below_alloc (Below.refl _ _) _)).trans (HK2.out.to_below (below_step HB.out (below_alloc (Below.refl _ _) _)).size (fun q e => by have := HBE.out; omega))⟩⟩
    · go_wp2_with (first
        | ((with_reducible refine gate_dst (N := 23) rfl ?_); refine at_look rfl (.tmp 21) (.tmp 22) 190 195 noForm rfl Try.underlying190 zform rfl HT.out _ rfl (by decide) (by decide) (.agg #[.nilFunc, .int .i64 0, .int .i64 0, .nilFunc]) false rfl rfl ?_)
        | fail)
      go_roundg 30
      case measure => have := ho.out; omega
      case rel => exact ⟨28, rfl, ⟨by omega, by omega, rfl⟩, ⟨((HT.out.below (below_alloc (Below.refl _ _) _)).congr (fun k k0 k1 => congrArg (Option.map formV) (upTo_same 27 (by decide) (by decide) (.inl rfl) k k0 k1).symm)).more (by decide)⟩, ⟨below_step HB.out (below_alloc (Below.refl _ _) _)⟩⟩
    · go_wp2_with (first
        | ((with_reducible refine gate_dst (N := 23) rfl ?_); refine at_look rfl (.tmp 21) (.tmp 22) 190 195 noForm rfl Try.underlying190 zform rfl HT.out _ rfl (by decide) (by decide) (.agg #[.nilFunc, .int .i64 0, .int .i64 0, .nilFunc]) false rfl rfl ?_)
        | fail)
      go_roundg 29
      case measure => have := ho.out; omega
      case rel => exact ⟨29, rfl, ⟨by omega, by omega, rfl⟩, ⟨((HT.out.below (below_alloc (Below.refl _ _) _)).congr (fun k k0 k1 => congrArg (Option.map formV) (upTo_same 28 (by decide) (by decide) (.inl rfl) k k0 k1).symm)).more (by decide)⟩, ⟨below_step HB.out (below_alloc (Below.refl _ _) _)⟩⟩
    · go_wp2_with (first
        | ((with_reducible refine gate_dst (N := 23) rfl ?_); refine at_look rfl (.tmp 21) (.tmp 22) 190 195 noForm rfl Try.underlying190 zform rfl HT.out _ rfl (by decide) (by decide) (.agg #[.nilFunc, .int .i64 0, .int .i64 0, .nilFunc]) false rfl rfl ?_)
        | fail)
      go_roundg 28
      case measure => have := ho.out; omega
      case rel => exact ⟨30, rfl, ⟨by omega, by omega, rfl⟩, ⟨((HT.out.below (below_alloc (Below.refl _ _) _)).congr (fun k k0 k1 => congrArg (Option.map formV) (upTo_same 29 (by decide) (by decide) (.inl rfl) k k0 k1).symm)).more (by decide)⟩, ⟨below_step HB.out (below_alloc (Below.refl _ _) _)⟩⟩
    · go_wp2_with (first
        | ((with_reducible refine gate_dst (N := 23) rfl ?_); refine at_look rfl (.tmp 21) (.tmp 22) 190 195 noForm rfl Try.underlying190 zform rfl HT.out _ rfl (by decide) (by decide) (.agg #[.nilFunc, .int .i64 0, .int .i64 0, .nilFunc]) false rfl rfl ?_)
        | ((with_reducible refine gate_ (.mapUpdate 190 (.tmp 78) (.tmp 79) (.tmp 80)) rfl ?_); refine at_put8 rfl (.tmp 78) (.tmp 79) (.tmp 80) 190 195 rfl Try.underlying190 rfl (HT.out.below (below_alloc (Below.refl _ _) _)) (by decide) _ rfl (by decide) (by decide) (formV ((183, 2, 2, 187) : Form)) rfl ?_; intro w2 h1 k1; have HT2 := Aside0.mk h1; have HK2 := Aside0.mk k1; clear h1 k1)
        | fail)
      go_roundg 27
      case measure => have := ho.out; omega
      case rel => exact ⟨31, rfl, ⟨by omega, by omega, rfl⟩, ⟨HT2.out.ins.congr (fun k k0 k1 => congrArg (Option.map formV) (upTo_next 30 (by decide) (by decide) k k0 k1).symm)⟩, ⟨(below_step HB.out (below_alloc (Below.refl _ _) _)).trans (HK2.out.to_below (below_step HB.out (below_alloc (Below.refl _ _) _)).size (fun q e => by have := HBE.out; omega))⟩⟩
    · go_wp2_with (first
        | ((with_reducible refine gate_dst (N := 23) rfl ?_); refine at_look rfl (.tmp 21) (.tmp 22) 190 195 noForm rfl Try.underlying190 zform rfl HT.out _ rfl (by decide) (by decide) (.agg #[.nilFunc, .int .i64 0, .int .i64 0, .nilFunc]) false rfl rfl ?_)
        | ((with_reducible refine gate_ (.mapUpdate 190 (.tmp 78) (.tmp 79) (.tmp 80)) rfl ?_); refine at_put8 rfl (.tmp 78) (.tmp 79) (.tmp 80) 190 195 rfl Try.underlying190 rfl (HT.out.below (below_alloc (Below.refl _ _) _)) (by decide) _ rfl (by decide) (by decide) (formV ((183, 2, 2, 187) : Form)) rfl ?_; intro w2 h1 k1; have HT2 := Aside0.mk h1; have HK2 := Aside0.mk k1; clear h1 k1)
        | fail)
      go_roundg 26
      case measure => have := ho.out; omega
      case rel => exact ⟨32, rfl, ⟨by omega, by omega, rfl⟩, ⟨HT2.out.ins.congr (fun k k0 k1 => congrArg (Option.map formV) (upTo_next 31 (by decide) (by decide) k k0 k1).symm)⟩, ⟨(below_step HB.out (below_alloc (Below.refl _ _) _)).trans (HK2.out.to_below (below_step HB.out (below_alloc (Below.refl _ _) _)).size (fun q e => by have := HBE.out; omega))⟩⟩
    · go_wp2_with (first
        | ((with_reducible refine gate_dst (N := 23) rfl ?_); refine at_look rfl (.tmp 21) (.tmp 22) 190 195 noForm rfl Try.underlying190 zform rfl HT.out _ rfl (by decide) (by decide) (.agg #[.nilFunc, .int .i64 0, .int .i64 0, .nilFunc]) false rfl rfl ?_)
        | ((with_reducible refine gate_ (.mapUpdate 190 (.tmp 78) (.tmp 79) (.tmp 80)) rfl ?_); refine at_put8 rfl (.tmp 78) (.tmp 79) (.tmp 80) 190 195 rfl Try.underlying190 rfl (HT.out.below (below_alloc (Below.refl _ _) _)) (by decide) _ rfl (by decide) (by decide) (formV ((183, 2, 2, 187) : Form)) rfl ?_; intro w2 h1 k1; have HT2 := Aside0.mk h1; have HK2 := Aside0.mk k1; clear h1 k1)
        | fail)
      go_roundg 25
      case measure => have := ho.out; omega
      case rel => exact ⟨33, rfl, ⟨by omega, by omega, rfl⟩, ⟨HT2.out.ins.congr (fun k k0 k1 => congrArg (Option.map formV) (upTo_next 32 (by decide) (by decide) k k0 k1).symm)⟩, ⟨(below_step HB.out (below_alloc (Below.refl _ _) _)).trans (HK2.out.to_below (below_step HB.out (below_alloc (Below.refl _ _) _)).size (fun q e => by have := HBE.out; omega))⟩⟩
    · go_wp2_with (first
        | ((with_reducible refine gate_dst (N := 23) rfl ?_); refine at_look rfl (.tmp 21) (.tmp 22) 190 195 noForm rfl Try.underlying190 zform rfl HT.out _ rfl (by decide) (by decide) (.agg #[.nilFunc, .int .i64 0, .int .i64 0, .nilFunc]) false rfl rfl ?_)
        | ((with_reducible refine gate_ (.mapUpdate 190 (.tmp 78) (.tmp 79) (.tmp 80)) rfl ?_); refine at_put8 rfl (.tmp 78) (.tmp 79) (.tmp 80) 190 195 rfl Try.underlying190 rfl (HT.out.below (below_alloc (Below.refl _ _) _)) (by decide) _ rfl (by decide) (by decide) (formV ((183, 2, 2, 187) : Form)) rfl ?_; intro w2 h1 k1; have HT2 := Aside0.mk h1; have HK2 := Aside0.mk k1; clear h1 k1)
        | fail)
      go_roundg 24
      case measure => have := ho.out; omega
      case rel => exact ⟨34, rfl, ⟨by omega, by omega, rfl⟩, ⟨HT2.out.ins.congr (fun k k0 k1 => congrArg (Option.map formV) (upTo_next 33 (by decide) (by decide) k k0 k1).symm)⟩, ⟨(below_step HB.out (below_alloc (Below.refl _ _) _)).trans (HK2.out.to_below (below_step HB.out (below_alloc (Below.refl _ _) _)).size (fun q e => by have := HBE.out; omega))⟩⟩
    · go_wp2_with (first
        | ((with_reducible refine gate_dst (N := 23) rfl ?_); refine at_look rfl (.tmp 21) (.tmp 22) 190 195 noForm rfl Try.underlying190 zform rfl HT.out _ rfl (by decide) (by decide) (.agg #[.nilFunc, .int .i64 0, .int .i64 0, .nilFunc]) false rfl rfl ?_)
        | ((with_reducible refine gate_ (.mapUpdate 190 (.tmp 78) (.tmp 79) (.tmp 80)) rfl ?_); refine at_put8 rfl (.tmp 78) (.tmp 79) (.tmp 80) 190 195 rfl Try.underlying190 rfl (HT.out.below (below_alloc (Below.refl _ _) _)) (by decide) _ rfl (by decide) (by decide) (formV ((183, 2, 2, 187) : Form)) rfl ?_; intro w2 h1 k1; have HT2 := Aside0.mk h1; have HK2 := Aside0.mk k1; clear h1 k1)
        | fail)
      go_roundg 23
      case measure => have := ho.out; omega
      case rel => exact ⟨35, rfl, ⟨by omega, by omega, rfl⟩, ⟨HT2.out.ins.congr (fun k k0 k1 => congrArg (Option.map formV) (upTo_next 34 (by decide) (by decide) k k0 k1).symm)⟩, ⟨(below_step HB.out (below_alloc (Below.refl _ _) _)).trans (HK2.out.to_below (below_step HB.out (below_alloc (Below.refl _ _) _)).size (fun q e => by have := HBE.out; omega))⟩⟩
    · go_wp2_with (first
        | ((with_reducible refine gate_dst (N := 23) rfl ?_); refine at_look rfl (.tmp 21) (.tmp 22) 190 195 noForm rfl Try.underlying190 zform rfl HT.out _ rfl (by decide) (by decide) (.agg #[.nilFunc, .int .i64 0, .int .i64 0, .nilFunc]) false rfl rfl ?_)
        | ((with_reducible refine gate_ (.mapUpdate 190 (.tmp 78) (.tmp 79) (.tmp 80)) rfl ?_); refine at_put8 rfl (.tmp 78) (.tmp 79) (.tmp 80) 190 195 rfl Try.underlying190 rfl (HT.out.below (below_alloc (Below.refl _ _) _)) (by decide) _ rfl (by decide) (by decide) (formV ((183, 2, 2, 187) : Form)) rfl ?_; intro w2 h1 k1; have HT2 := Aside0.mk h1; have HK2 := Aside0.mk k1; clear h1 k1)
        | fail)
      go_roundg 22
      case measure => have := ho.out; omega
      case rel => exact ⟨36, rfl, ⟨by omega, by omega, rfl⟩, ⟨HT2.out.ins.congr (fun k k0 k1 => congrArg (Option.map formV) (upTo_next 35 (by decide) (by decide) k k0 k1).symm)⟩, ⟨(below_step HB.out (below_alloc (Below.refl _ _) _)).trans (HK2.out.to_below (below_step HB.out (below_alloc (Below.refl _ _) _)).size (fun q e => by have := HBE.out; omega))⟩⟩
    · go_wp2_with (first
        | ((with_reducible refine gate_dst (N := 23) rfl ?_); refine at_look rfl (.tmp 21) (.tmp 22) 190 195 noForm rfl Try.underlying190 zform rfl HT.out _ rfl (by decide) (by decide) (.agg #[.nilFunc, .int .i64 0, .int .i64 0, .nilFunc]) false rfl rfl ?_)
        | ((with_reducible refine gate_ (.mapUpdate 190 (.tmp 78) (.tmp 79) (.tmp 80)) rfl ?_); refine at_put8 rfl (.tmp 78) (.tmp 79) (.tmp 80) 190 195 rfl Try.underlying190 rfl (HT.out.below (below_alloc (Below.refl _ _) _)) (by decide) _ rfl (by decide) (by decide) (formV ((183, 2, 2, 187) : Form)) rfl ?_; intro w2 h1 k1; have HT2 := Aside0.mk h1; have HK2 := Aside0.mk k1; clear h1 k1)
        | fail)
      go_roundg 21
      case measure => have := ho.out; omega
      case rel => exact ⟨37, rfl, ⟨by omega, by omega, rfl⟩, ⟨HT2.out.ins.congr (fun k k0 k1 => congrArg (Option.map formV) (upTo_next 36 (by decide) (by decide) k k0 k1).symm)⟩, ⟨(below_step HB.out (below_alloc (Below.refl _ _) _)).trans (HK2.out.to_below (below_step HB.out (below_alloc (Below.refl _ _) _)).size (fun q e => by have := HBE.out; omega))⟩⟩
    · go_wp2_with (first
        | ((with_reducible refine gate_dst (N := 23) rfl ?_); refine at_look rfl (.tmp 21) (.tmp 22) 190 195 noForm rfl Try.underlying190 zform rfl HT.out _ rfl (by decide) (by decide) (.agg #[.nilFunc, .int .i64 0, .int .i64 0, .nilFunc]) false rfl rfl ?_)
        | ((with_reducible refine gate_ (.mapUpdate 190 (.tmp 78) (.tmp 79) (.tmp 80)) rfl ?_); refine at_put8 rfl (.tmp 78) (.tmp 79) (.tmp 80) 190 195 rfl Try.underlying190 rfl (HT.out.below (below_alloc (Below.refl _ _) _)) (by decide) _ rfl (by decide) (by decide) (formV ((183, 2, 2, 187) : Form)) rfl ?_; intro w2 h1 k1; have HT2 := Aside0.mk h1; have HK2 := Aside0.mk k1; clear h1 k1)
        | fail)
      go_roundg 20
      case measure => have := ho.out; omega
      case rel => exact ⟨38, rfl, ⟨by omega, by omega, rfl⟩, ⟨HT2.out.ins.congr (fun k k0 k1 => congrArg (Option.map formV) (upTo_next 37 (by decide) (by decide) k k0 k1).symm)⟩, ⟨(below_step HB.out (below_alloc (Below.refl _ _) _)).trans (HK2.out.to_below (below_step HB.out (below_alloc (Below.refl _ _) _)).size (fun q e => by have := HBE.out; omega))⟩⟩
    · go_wp2_with (first
        | ((with_reducible refine gate_dst (N := 23) rfl ?_); refine at_look rfl (.tmp 21) (.tmp 22) 190 195 noForm rfl Try.underlying190 zform rfl HT.out _ rfl (by decide) (by decide) (.agg #[.nilFunc, .int .i64 0, .int .i64 0, .nilFunc]) false rfl rfl ?_)
        | ((with_reducible refine gate_ (.mapUpdate 190 (.tmp 78) (.tmp 79) (.tmp 80)) rfl ?_); refine at_put8 rfl (.tmp 78) (.tmp 79) (.tmp 80) 190 195 rfl Try.underlying190 rfl (HT.out.below (below_alloc (Below.refl _ _) _)) (by decide) _ rfl (by decide) (by decide) (formV ((183, 2, 2, 187) : Form)) rfl ?_; intro w2 h1 k1; have HT2 := Aside0.mk h1; have HK2 := Aside0.mk k1; clear h1 k1)
        | fail)
      go_roundg 19
      case measure => have := ho.out; omega
      case rel => exact ⟨39, rfl, ⟨by omega, by omega, rfl⟩, ⟨HT2.out.ins.congr (fun k k0 k1 => congrArg (Option.map formV) (upTo_next 38 (by decide) (by decide) k k0 k1).symm)⟩, ⟨(below_step HB.out (below_alloc (Below.refl _ _) _)).trans (HK2.out.to_below (below_step HB.out (below_alloc (Below.refl _ _) _)).size (fun q e => by have := HBE.out; omega))⟩⟩
    · go_wp2_with (first
        | ((with_reducible refine gate_dst (N := 23) rfl ?_); refine at_look rfl (.tmp 21) (.tmp 22) 190 195 noForm rfl Try.underlying190 zform rfl HT.out _ rfl (by decide) (by decide) (.agg #[.nilFunc, .int .i64 0, .int .i64 0, .nilFunc]) false rfl rfl ?_)
        | ((with_reducible refine gate_ (.mapUpdate 190 (.tmp 78) (.tmp 79) (.tmp 80)) rfl ?_); refine at_put8 rfl (.tmp 78) (.tmp 79) (.tmp 80) 190 195 rfl Try.underlying190 rfl (HT.out.below (below_alloc (Below.refl _ _) _)) (by decide) _ rfl (by decide) (by decide) (formV ((183, 2, 2, 187) : Form)) rfl ?_; intro w2 h1 k1; have HT2 := Aside0.mk h1; have HK2 := Aside0.mk k1; clear h1 k1)
        | fail)
      go_roundg 18
      case measure => have := ho.out; omega
      case rel => exact ⟨40, rfl, ⟨by omega, by omega, rfl⟩, ⟨HT2.out.ins.congr (fun k k0 k1 => congrArg (Option.map formV) (upTo_next 39 (by decide) (by decide) k k0 k1).symm)⟩, ⟨(below_step HB.out (below_alloc (Below.refl _ _) _)).trans (HK2.out.to_below (below_step HB.out (below_alloc (Below.refl _ _) _)).size (fun q e => by have := HBE.out; omega))⟩⟩
    · go_wp2_with (first
        | ((with_reducible refine gate_dst (N := 23) rfl ?_); refine at_look rfl (.tmp 21) (.tmp 22) 190 195 noForm rfl Try.underlying190 zform rfl HT.out _ rfl (by decide) (by decide) (.agg #[.nilFunc, .int .i64 0, .int .i64 0, .nilFunc]) false rfl rfl ?_)
        | ((with_reducible refine gate_ (.mapUpdate 190 (.tmp 78) (.tmp 79) (.tmp 80)) rfl ?_); refine at_put8 rfl (.tmp 78) (.tmp 79) (.tmp 80) 190 195 rfl Try.underlying190 rfl (HT.out.below (below_alloc (Below.refl _ _) _)) (by decide) _ rfl (by decide) (by decide) (formV ((183, 2, 2, 187) : Form)) rfl ?_; intro w2 h1 k1; have HT2 := Aside0.mk h1; have HK2 := Aside0.mk k1; clear h1 k1)
        | fail)
      go_roundg 17
      case measure => have := ho.out; omega
      case rel => exact ⟨41, rfl, ⟨by omega, by omega, rfl⟩, ⟨HT2.out.ins.congr (fun k k0 k1 => congrArg (Option.map formV) (upTo_next 40 (by decide) (by decide) k k0 k1).symm)⟩, ⟨(below_step HB.out (below_alloc (Below.refl _ _) _)).trans (HK2.out.to_below (below_step HB.out (below_alloc (Below.refl _ _) _)).size (fun q e => by have := HBE.out; omega))⟩⟩
    · go_wp2_with (first
        | ((with_reducible refine gate_dst (N := 23) rfl ?_); refine at_look rfl (.tmp 21) (.tmp 22) 190 195 noForm rfl Try.underlying190 zform rfl HT.out _ rfl (by decide) (by decide) (.agg #[.nilFunc, .int .i64 0, .int .i64 0, .nilFunc]) false rfl rfl ?_)
        | ((with_reducible refine gate_ (.mapUpdate 190 (.tmp 78) (.tmp 79) (.tmp 80)) rfl ?_); refine at_put8 rfl (.tmp 78) (.tmp 79) (.tmp 80) 190 195 rfl Try.underlying190 rfl (HT.out.below (below_alloc (Below.refl _ _) _)) (by decide) _ rfl (by decide) (by decide) (formV ((183, 2, 2, 187) : Form)) rfl ?_; intro w2 h1 k1; have HT2 := Aside0.mk h1; have HK2 := Aside0.mk k1; clear h1 k1)
        | fail)
      go_roundg 16
      case measure => have := ho.out; omega
      case rel => exact ⟨42, rfl, ⟨by omega, by omega, rfl⟩, ⟨HT2.out.ins.congr (fun k k0 k1 => congrArg (Option.map formV) (upTo_next 41 (by decide) (by decide) k k0 k1).symm)⟩, ⟨(below_step HB.out (below_alloc (Below.refl _ _) _)).trans (HK2.out.to_below (below_step HB.out (below_alloc (Below.refl _ _) _)).size (fun q e => by have := HBE.out; omega))⟩⟩
    · go_wp2_with (first
        | ((with_reducible refine gate_dst (N := 23) rfl ?_); refine at_look rfl (.tmp 21) (.tmp 22) 190 195 noForm rfl Try.underlying190 zform rfl HT.out _ rfl (by decide) (by decide) (.agg #[.nilFunc, .int .i64 0, .int .i64 0, .nilFunc]) false rfl rfl ?_)
        | ((with_reducible refine gate_ (.mapUpdate 190 (.tmp 78) (.tmp 79) (.tmp 80)) rfl ?_); refine at_put8 rfl (.tmp 78) (.tmp 79) (.tmp 80) 190 195 rfl Try.underlying190 rfl (HT.out.below (below_alloc (Below.refl _ _) _)) (by decide) _ rfl (by decide) (by decide) (formV ((183, 2, 2, 187) : Form)) rfl ?_; intro w2 h1 k1; have HT2 := Aside0.mk h1; have HK2 := Aside0.mk k1; clear h1 k1)
        | fail)
      go_roundg 15
      case measure => have := ho.out; omega
      case rel => exact ⟨43, rfl, ⟨by omega, by omega, rfl⟩, ⟨HT2.out.ins.congr (fun k k0 k1 => congrArg (Option.map formV) (upTo_next 42 (by decide) (by decide) k k0 k1).symm)⟩, ⟨(below_step HB.out (below_alloc (Below.refl _ _) _)).trans (HK2.out.to_below (below_step HB.out (below_alloc (Below.refl _ _) _)).size (fun q e => by have := HBE.out; omega))⟩⟩
    · go_wp2_with (first
        | ((with_reducible refine gate_dst (N := 23) rfl ?_); refine at_look rfl (.tmp 21) (.tmp 22) 190 195 noForm rfl Try.underlying190 zform rfl HT.out _ rfl (by decide) (by decide) (.agg #[.nilFunc, .int .i64 0, .int .i64 0, .nilFunc]) false rfl rfl ?_)
        | ((with_reducible refine gate_ (.mapUpdate 190 (.tmp 69) (.tmp 70) (.tmp 71)) rfl ?_); refine at_put8 rfl (.tmp 69) (.tmp 70) (.tmp 71) 190 195 rfl Try.underlying190 rfl (HT.out.below (below_alloc (Below.refl _ _) _)) (by decide) _ rfl (by decide) (by decide) (formV ((183, 1, 1, 187) : Form)) rfl ?_; intro w2 h1 k1; have HT2 := Aside0.mk h1; have HK2 := Aside0.mk k1; clear h1 k1)
        | fail)
      go_roundg 14
      case measure => have := ho.out; omega
      case rel => exact ⟨44, rfl, ⟨by omega, by omega, rfl⟩, ⟨HT2.out.ins.congr (fun k k0 k1 => congrArg (Option.map formV) (upTo_next 43 (by decide) (by decide) k k0 k1).symm)⟩, ⟨(below_step HB.out (below_alloc (Below.refl _ _) _)).trans (HK2.out.to_below (below_step HB.out (below_alloc (Below.refl _ _) _)).size (fun q e => by have := HBE.out; omega))⟩⟩
    · go_wp2_with (first
        | ((with_reducible refine gate_dst (N := 23) rfl ?_); refine at_look rfl (.tmp 21) (.tmp 22) 190 195 noForm rfl Try.underlying190 zform rfl HT.out _ rfl (by decide) (by decide) (.agg #[.nilFunc, .int .i64 0, .int .i64 0, .nilFunc]) false rfl rfl ?_)
        | ((with_reducible refine gate_ (.mapUpdate 190 (.tmp 69) (.tmp 70) (.tmp 71)) rfl ?_); refine at_put8 rfl (.tmp 69) (.tmp 70) (.tmp 71) 190 195 rfl Try.underlying190 rfl (HT.out.below (below_alloc (Below.refl _ _) _)) (by decide) _ rfl (by decide) (by decide) (formV ((183, 1, 1, 187) : Form)) rfl ?_; intro w2 h1 k1; have HT2 := Aside0.mk h1; have HK2 := Aside0.mk k1; clear h1 k1)
        | fail)
      go_roundg 13
      case measure => have := ho.out; omega
      case rel => exact ⟨45, rfl, ⟨by omega, by omega, rfl⟩, ⟨HT2.out.ins.congr (fun k k0 k1 => congrArg (Option.map formV) (upTo_next 44 (by decide) (by decide) k k0 k1).symm)⟩, ⟨(below_step HB.out (below_alloc (Below.refl _ _) _)).trans (HK2.out.to_below (below_step HB.out (below_alloc (Below.refl _ _) _)).size (fun q e => by have := HBE.out; omega))⟩⟩
    · go_wp2_with (first
        | ((with_reducible refine gate_dst (N := 23) rfl ?_); refine at_look rfl (.tmp 21) (.tmp 22) 190 195 noForm rfl Try.underlying190 zform rfl HT.out _ rfl (by decide) (by decide) (.agg #[.nilFunc, .int .i64 0, .int .i64 0, .nilFunc]) false rfl rfl ?_)
        | ((with_reducible refine gate_ (.mapUpdate 190 (.tmp 69) (.tmp 70) (.tmp 71)) rfl ?_); refine at_put8 rfl (.tmp 69) (.tmp 70) (.tmp 71) 190 195 rfl Try.underlying190 rfl (HT.out.below (below_alloc (Below.refl _ _) _)) (by decide) _ rfl (by decide) (by decide) (formV ((183, 1, 1, 187) : Form)) rfl ?_; intro w2 h1 k1; have HT2 := Aside0.mk h1; have HK2 := Aside0.mk k1; clear h1 k1)
        | fail)
      go_roundg 12
      case measure => have := ho.out; omega
      case rel => exact ⟨46, rfl, ⟨by omega, by omega, rfl⟩, ⟨HT2.out.ins.congr (fun k k0 k1 => congrArg (Option.map formV) (upTo_next 45 (by decide) (by decide) k k0 k1).symm)⟩, ⟨(below_step HB.out (below_alloc (Below.refl _ _) _)).trans (HK2.out.to_below (below_step HB.out (below_alloc (Below.refl _ _) _)).size (fun q e => by have := HBE.out; omega))⟩⟩
    · go_wp2_with (first
        | ((with_reducible refine gate_dst (N := 23) rfl ?_); refine at_look rfl (.tmp 21) (.tmp 22) 190 195 noForm rfl Try.underlying190 zform rfl HT.out _ rfl (by decide) (by decide) (.agg #[.nilFunc, .int .i64 0, .int .i64 0, .nilFunc]) false rfl rfl ?_)
        | ((with_reducible refine gate_ (.mapUpdate 190 (.tmp 69) (.tmp 70) (.tmp 71)) rfl ?_); refine at_put8 rfl (.tmp 69) (.tmp 70) (.tmp 71) 190 195 rfl Try.underlying190 rfl (HT.out.below (below_alloc (Below.refl _ _) _)) (by decide) _ rfl (by decide) (by decide) (formV ((183, 1, 1, 187) : Form)) rfl ?_; intro w2 h1 k1; have HT2 := Aside0.mk h1; have HK2 := Aside0.mk k1; clear h1 k1)
        | fail)
      go_roundg 11
      case measure => have := ho.out; omega
      case rel => exact ⟨47, rfl, ⟨by omega, by omega, rfl⟩, ⟨HT2.out.ins.congr (fun k k0 k1 => congrArg (Option.map formV) (upTo_next 46 (by decide) (by decide) k k0 k1).symm)⟩, ⟨(below_step HB.out (below_alloc (Below.refl _ _) _)).trans (HK2.out.to_below (below_step HB.out (below_alloc (Below.refl _ _) _)).size (fun q e => by have := HBE.out; omega))⟩⟩
    · go_wp2_with (first
        | ((with_reducible refine gate_dst (N := 23) rfl ?_); refine at_look rfl (.tmp 21) (.tmp 22) 190 195 noForm rfl Try.underlying190 zform rfl HT.out _ rfl (by decide) (by decide) (.agg #[.nilFunc, .int .i64 0, .int .i64 0, .nilFunc]) false rfl rfl ?_)
        | ((with_reducible refine gate_ (.mapUpdate 190 (.tmp 69) (.tmp 70) (.tmp 71)) rfl ?_); refine at_put8 rfl (.tmp 69) (.tmp 70) (.tmp 71) 190 195 rfl Try.underlying190 rfl (HT.out.below (below_alloc (Below.refl _ _) _)) (by decide) _ rfl (by decide) (by decide) (formV ((183, 1, 1, 187) : Form)) rfl ?_; intro w2 h1 k1; have HT2 := Aside0.mk h1; have HK2 := Aside0.mk k1; clear h1 k1)
        | fail)
      go_roundg 10
      case measure => have := ho.out; omega
      case rel => exact ⟨48, rfl, ⟨by omega, by omega, rfl⟩, ⟨HT2.out.ins.congr (fun k k0 k1 => congrArg (Option.map formV) (upTo_next 47 (by decide) (by decide) k k0 k1).symm)⟩, ⟨(below_step HB.out (below_alloc (Below.refl _ _) _)).trans (HK2.out.to_below (below_step HB.out (below_alloc (Below.refl _ _) _)).size (fun q e => by have := HBE.out; omega))⟩⟩
    · go_wp2_with (first
        | ((with_reducible refine gate_dst (N := 23) rfl ?_); refine at_look rfl (.tmp 21) (.tmp 22) 190 195 noForm rfl Try.underlying190 zform rfl HT.out _ rfl (by decide) (by decide) (.agg #[.nilFunc, .int .i64 0, .int .i64 0, .nilFunc]) false rfl rfl ?_)
        | ((with_reducible refine gate_ (.mapUpdate 190 (.tmp 69) (.tmp 70) (.tmp 71)) rfl ?_); refine at_put8 rfl (.tmp 69) (.tmp 70) (.tmp 71) 190 195 rfl Try.underlying190 rfl (HT.out.below (below_alloc (Below.refl _ _) _)) (by decide) _ rfl (by decide) (by decide) (formV ((183, 1, 1, 187) : Form)) rfl ?_; intro w2 h1 k1; have HT2 := Aside0.mk h1; have HK2 := Aside0.mk k1; clear h1 k1)
        | fail)
      go_roundg 9
      case measure => have := ho.out; omega
      case rel => exact ⟨49, rfl, ⟨by omega, by omega, rfl⟩, ⟨HT2.out.ins.congr (fun k k0 k1 => congrArg (Option.map formV) (upTo_next 48 (by decide) (by decide) k k0 k1).symm)⟩, ⟨(below_step HB.out (below_alloc (Below.refl _ _) _)).trans (HK2.out.to_below (below_step HB.out (below_alloc (Below.refl _ _) _)).size (fun q e => by have := HBE.out; omega))⟩⟩
    · go_wp2_with (first
        | ((with_reducible refine gate_dst (N := 23) rfl ?_); refine at_look rfl (.tmp 21) (.tmp 22) 190 195 noForm rfl Try.underlying190 zform rfl HT.out _ rfl (by decide) (by decide) (.agg #[.nilFunc, .int .i64 0, .int .i64 0, .nilFunc]) false rfl rfl ?_)
        | fail)
      go_roundg 8
      case measure => have := ho.out; omega
      case rel => exact ⟨50, rfl, ⟨by omega, by omega, rfl⟩, ⟨((HT.out.below (below_alloc (Below.refl _ _) _)).congr (fun k k0 k1 => congrArg (Option.map formV) (upTo_same 49 (by decide) (by decide) (.inl rfl) k k0 k1).symm)).more (by decide)⟩, ⟨below_step HB.out (below_alloc (Below.refl _ _) _)⟩⟩
    · go_wp2_with (first
        | ((with_reducible refine gate_dst (N := 23) rfl ?_); refine at_look rfl (.tmp 21) (.tmp 22) 190 195 noForm rfl Try.underlying190 zform rfl HT.out _ rfl (by decide) (by decide) (.agg #[.nilFunc, .int .i64 0, .int .i64 0, .nilFunc]) false rfl rfl ?_)
        | ((with_reducible refine gate_ (.mapUpdate 190 (.tmp 66) (.tmp 67) (.tmp 68)) rfl ?_); refine at_put8 rfl (.tmp 66) (.tmp 67) (.tmp 68) 190 195 rfl Try.underlying190 rfl (HT.out.below (below_alloc (Below.refl _ _) _)) (by decide) _ rfl (by decide) (by decide) (formV ((180, 0, 2048, 187) : Form)) rfl ?_; intro w2 h1 k1; have HT2 := Aside0.mk h1; have HK2 := Aside0.mk k1; clear h1 k1)
        | fail)
      go_roundg 7
      case measure => have := ho.out; omega
      case rel => exact ⟨51, rfl, ⟨by omega, by omega, rfl⟩, ⟨HT2.out.ins.congr (fun k k0 k1 => congrArg (Option.map formV) (upTo_next 50 (by decide) (by decide) k k0 k1).symm)⟩, ⟨(below_step HB.out (below_alloc (Below.refl _ _) _)).trans (HK2.out.to_below (below_step HB.out (below_alloc (Below.refl _ _) _)).size (fun q e => by have := HBE.out; omega))⟩⟩
    · go_wp2_with (first
        | ((with_reducible refine gate_dst (N := 23) rfl ?_); refine at_look rfl (.tmp 21) (.tmp 22) 190 195 noForm rfl Try.underlying190 zform rfl HT.out _ rfl (by decide) (by decide) (.agg #[.nilFunc, .int .i64 0, .int .i64 0, .nilFunc]) false rfl rfl ?_)
        | ((with_reducible refine gate_ (.mapUpdate 190 (.tmp 66) (.tmp 67) (.tmp 68)) rfl ?_); refine at_put8 rfl (.tmp 66) (.tmp 67) (.tmp 68) 190 195 rfl Try.underlying190 rfl (HT.out.below (below_alloc (Below.refl _ _) _)) (by decide) _ rfl (by decide) (by decide) (formV ((180, 0, 2048, 187) : Form)) rfl ?_; intro w2 h1 k1; have HT2 := Aside0.mk h1; have HK2 := Aside0.mk k1; clear h1 k1)
        | fail)
      go_roundg 6
      case measure => have := ho.out; omega
      case rel => exact ⟨52, rfl, ⟨by omega, by omega, rfl⟩, ⟨HT2.out.ins.congr (fun k k0 k1 => congrArg (Option.map formV) (upTo_next 51 (by decide) (by decide) k k0 k1).symm)⟩, ⟨(below_step HB.out (below_alloc (Below.refl _ _) _)).trans (HK2.out.to_below (below_step HB.out (below_alloc (Below.refl _ _) _)).size (fun q e => by have := HBE.out; omega))⟩⟩
    · go_wp2_with (first
        | ((with_reducible refine gate_dst (N := 23) rfl ?_); refine at_look rfl (.tmp 21) (.tmp 22) 190 195 noForm rfl Try.underlying190 zform rfl HT.out _ rfl (by decide) (by decide) (.agg #[.nilFunc, .int .i64 0, .int .i64 0, .nilFunc]) false rfl rfl ?_)
        | ((with_reducible refine gate_ (.mapUpdate 190 (.tmp 69) (.tmp 70) (.tmp 71)) rfl ?_); refine at_put8 rfl (.tmp 69) (.tmp 70) (.tmp 71) 190 195 rfl Try.underlying190 rfl (HT.out.below (below_alloc (Below.refl _ _) _)) (by decide) _ rfl (by decide) (by decide) (formV ((183, 1, 1, 187) : Form)) rfl ?_; intro w2 h1 k1; have HT2 := Aside0.mk h1; have HK2 := Aside0.mk k1; clear h1 k1)
        | fail)
      go_roundg 5
      case measure => have := ho.out; omega
      case rel => exact ⟨53, rfl, ⟨by omega, by omega, rfl⟩, ⟨HT2.out.ins.congr (fun k k0 k1 => congrArg (Option.map formV) (upTo_next 52 (by decide) (by decide) k k0 k1).symm)⟩, ⟨(below_step HB.out (below_alloc (Below.refl _ _) _)).trans (HK2.out.to_below (below_step HB.out (below_alloc (Below.refl _ _) _)).size (fun q e => by have := HBE.out; omega))⟩⟩
    · go_wp2_with (first
        | ((with_reducible refine gate_dst (N := 23) rfl ?_); refine at_look rfl (.tmp 21) (.tmp 22) 190 195 noForm rfl Try.underlying190 zform rfl HT.out _ rfl (by decide) (by decide) (.agg #[.func (.func 183) #[] #[], .int .i64 1, .int .i64 1, .func (.func 188) #[] #[]]) true rfl rfl ?_)
        | fail)
      go_roundg 4
      case measure => have := ho.out; omega
      case rel => exact ⟨54, rfl, ⟨by omega, by omega, rfl⟩, ⟨((HT.out.below (below_alloc (Below.refl _ _) _)).congr (fun k k0 k1 => congrArg (Option.map formV) (upTo_same 53 (by decide) (by decide) (.inr (by decide)) k k0 k1).symm)).more (by decide)⟩, ⟨below_step HB.out (below_alloc (Below.refl _ _) _)⟩⟩
    · go_wp2_with (first
        | ((with_reducible refine gate_dst (N := 23) rfl ?_); refine at_look rfl (.tmp 21) (.tmp 22) 190 195 noForm rfl Try.underlying190 zform rfl HT.out _ rfl (by decide) (by decide) (.agg #[.nilFunc, .int .i64 0, .int .i64 0, .nilFunc]) false rfl rfl ?_)
        | ((with_reducible refine gate_ (.mapUpdate 190 (.tmp 69) (.tmp 70) (.tmp 71)) rfl ?_); refine at_put8 rfl (.tmp 69) (.tmp 70) (.tmp 71) 190 195 rfl Try.underlying190 rfl (HT.out.below (below_alloc (Below.refl _ _) _)) (by decide) _ rfl (by decide) (by decide) (formV ((183, 1, 1, 187) : Form)) rfl ?_; intro w2 h1 k1; have HT2 := Aside0.mk h1; have HK2 := Aside0.mk k1; clear h1 k1)
        | fail)
      go_roundg 3
      case measure => have := ho.out; omega
      case rel => exact ⟨55, rfl, ⟨by omega, by omega, rfl⟩, ⟨HT2.out.ins.congr (fun k k0 k1 => congrArg (Option.map formV) (upTo_next 54 (by decide) (by decide) k k0 k1).symm)⟩, ⟨(below_step HB.out (below_alloc (Below.refl _ _) _)).trans (HK2.out.to_below (below_step HB.out (below_alloc (Below.refl _ _) _)).size (fun q e => by have := HBE.out; omega))⟩⟩
    · go_wp2_with (first
        | ((with_reducible refine gate_dst (N := 23) rfl ?_); refine at_look rfl (.tmp 21) (.tmp 22) 190 195 noForm rfl Try.underlying190 zform rfl HT.out _ rfl (by decide) (by decide) (.agg #[.nilFunc, .int .i64 0, .int .i64 0, .nilFunc]) false rfl rfl ?_)
        | ((with_reducible refine gate_ (.mapUpdate 190 (.tmp 69) (.tmp 70) (.tmp 71)) rfl ?_); refine at_put8 rfl (.tmp 69) (.tmp 70) (.tmp 71) 190 195 rfl Try.underlying190 rfl (HT.out.below (below_alloc (Below.refl _ _) _)) (by decide) _ rfl (by decide) (by decide) (formV ((183, 1, 1, 187) : Form)) rfl ?_; intro w2 h1 k1; have HT2 := Aside0.mk h1; have HK2 := Aside0.mk k1; clear h1 k1)
        | fail)
      go_roundg 2
      case measure => have := ho.out; omega
      case rel => exact ⟨56, rfl, ⟨by omega, by omega, rfl⟩, ⟨HT2.out.ins.congr (fun k k0 k1 => congrArg (Option.map formV) (upTo_next 55 (by decide) (by decide) k k0 k1).symm)⟩, ⟨(below_step HB.out (below_alloc (Below.refl _ _) _)).trans (HK2.out.to_below (below_step HB.out (below_alloc (Below.refl _ _) _)).size (fun q e => by have := HBE.out; omega))⟩⟩
    · go_wp2_with (first
        | ((with_reducible refine gate_dst (N := 23) rfl ?_); refine at_look rfl (.tmp 21) (.tmp 22) 190 195 noForm rfl Try.underlying190 zform rfl HT.out _ rfl (by decide) (by decide) (.agg #[.nilFunc, .int .i64 0, .int .i64 0, .nilFunc]) false rfl rfl ?_)
        | ((with_reducible refine gate_ (.mapUpdate 190 (.tmp 63) (.tmp 64) (.tmp 65)) rfl ?_); refine at_put8 rfl (.tmp 63) (.tmp 64) (.tmp 65) 190 195 rfl Try.underlying190 rfl (HT.out.below (below_alloc (Below.refl _ _) _)) (by decide) _ rfl (by decide) (by decide) (formV ((180, 0, 0, 182) : Form)) rfl ?_; intro w2 h1 k1; have HT2 := Aside0.mk h1; have HK2 := Aside0.mk k1; clear h1 k1)
        | fail)
      go_roundg 1
      case measure => have := ho.out; omega
      case rel => exact ⟨57, rfl, ⟨by omega, by omega, rfl⟩, ⟨HT2.out.ins.congr (fun k k0 k1 => congrArg (Option.map formV) (upTo_next 56 (by decide) (by decide) k k0 k1).symm)⟩, ⟨(below_step HB.out (below_alloc (Below.refl _ _) _)).trans (HK2.out.to_below (below_step HB.out (below_alloc (Below.refl _ _) _)).size (fun q e => by have := HBE.out; omega))⟩⟩
    · go_wp2_with (first
        | ((with_reducible refine gate_dst (N := 23) rfl ?_); refine at_look rfl (.tmp 21) (.tmp 22) 190 195 noForm rfl Try.underlying190 zform rfl HT.out _ rfl (by decide) (by decide) (.agg #[.nilFunc, .int .i64 0, .int .i64 0, .nilFunc]) false rfl rfl ?_)
        | ((with_reducible refine gate_ (.mapUpdate 190 (.tmp 60) (.tmp 61) (.tmp 62)) rfl ?_); refine at_put8 rfl (.tmp 60) (.tmp 61) (.tmp 62) 190 195 rfl Try.underlying190 rfl (HT.out.below (below_alloc (Below.refl _ _) _)) (by decide) _ rfl (by decide) (by decide) (formV ((183, 0, 0, 182) : Form)) rfl ?_; intro w2 h1 k1; have HT2 := Aside0.mk h1; have HK2 := Aside0.mk k1; clear h1 k1)
        | fail)
      go_roundg 0
      case measure => have := ho.out; omega
      case rel => exact ⟨58, rfl, ⟨by omega, by omega, rfl⟩, ⟨HT2.out.ins.congr (fun k k0 k1 => congrArg (Option.map formV) (upTo_next 57 (by decide) (by decide) k k0 k1).symm)⟩, ⟨(below_step HB.out (below_alloc (Below.refl _ _) _)).trans (HK2.out.to_below (below_step HB.out (below_alloc (Below.refl _ _) _)).size (fun q e => by have := HBE.out; omega))⟩⟩
    · go_wp2_with (fail)
      go_ret
      exact ⟨b, _, rfl, HT.out.congr (fun k k0 k1 => congrArg (Option.map formV) (upTo_full k k0 k1)), HB.out, HBE.out⟩
end Go.Proofs.Ytobgijpbfmpdaaa.Tb
