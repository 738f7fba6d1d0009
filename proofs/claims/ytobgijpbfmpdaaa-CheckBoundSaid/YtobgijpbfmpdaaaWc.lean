/- tree.Check: the walk. -/
import Derived.Test.YtobgijpbfmpdaaaFc
set_option linter.unusedVariables false
set_option linter.unusedSimpArgs false
set_option maxRecDepth 100000
namespace Go.Proofs.Ytobgijpbfmpdaaa.Tb
open Go.RowKit Go.Proofs.YtobgijpbfmpdaaaW.PrintWords Go.Proofs.YtobgijpbfmpdaaaW.PrintLast Go.Proofs.YtobgijpbfmpdaaaW.PrintMore
open Go.Proofs.Ytobgijpbfmpdaaa.Fm Go.Proofs.Ytobgijpbfmpdaaa.Mp Go.Proofs.Ytobgijpbfmpdaaa.PCk
set_option maxHeartbeats 16000000
theorem heap61 : Kd.Heap k61 := Kd.heap_iso _ (Kd.heap_pair (Kd.heap_int _) (Kd.heap_pair (Kd.heap_int _) (Kd.heap_pair (Kd.heap_int _) Kd.heap_string)))
def TwOk (x : S61) : Prop := (0 ≤ x.f0 ∧ x.f0 < 256) ∧ (-9223372036854775808 ≤ x.f1 ∧ x.f1 ≤ 9223372036854775807) ∧ (-9223372036854775808 ≤ x.f2 ∧ x.f2 ≤ 9223372036854775807)
/-- The walk's variables: the twigs' box, wrong's, the table's, deep's, the walk's own. -/
structure Cs (T P G D K b m : Nat) (A : Option Addr) (c : Nat) (ts : List S61) (W : World) (w d : Int) : Prop where
  t : W.heap[T]? = some (.cells #[.slice A ts.length c] 53 (0, 0))
  p : W.heap[P]? = some (.cells #[.int .i64 w] 3 (0, 0))
  g : W.heap[G]? = some (.cells #[.map (some b)] 190 (0, 0))
  d : W.heap[D]? = some (.cells #[.int .i64 d] 3 (0, 0))
  k : W.heap[K]? = some (.cells #[.func (.func 140) #[] #[.pointer (some ⟨T, 0, none⟩), .pointer (some ⟨P, 0, none⟩), .pointer (some ⟨G, 0, none⟩), .pointer (some ⟨D, 0, none⟩), .pointer (some ⟨K, 0, none⟩)]] 192 (0, 0))
  C : Kd.F k61 W (fun q => q ≠ P ∧ q ≠ D) A ts.length ts
  tab : Tab W b m (fun k => (formOf k).map formV)
  ne : P ≠ D ∧ (T ≠ P ∧ T ≠ D) ∧ (G ≠ P ∧ G ≠ D) ∧ (K ≠ P ∧ K ≠ D) ∧ (b ≠ P ∧ b ≠ D)
section
variable {T P G D K b m : Nat} {A : Option Addr} {c : Nat} {ts : List S61} {W W1 : World} {w d : Int}
theorem Cs.below (h : Cs T P G D K b m A c ts W w d) (hb : Below W.heap.size W W1) : Cs T P G D K b m A c ts W1 w d :=
  ⟨blk_below h.t hb, blk_below h.p hb, blk_below h.g hb, blk_below h.d hb, blk_below h.k hb, Kd.F_below h.C hb, h.tab.below hb, h.ne⟩
theorem Cs.lt (h : Cs T P G D K b m A c ts W w d) : T < W.heap.size ∧ P < W.heap.size ∧ G < W.heap.size ∧ D < W.heap.size ∧ K < W.heap.size ∧ b < W.heap.size := ⟨blk_lt h.t, blk_lt h.p, blk_lt h.g, blk_lt h.d, blk_lt h.k, h.tab.lt⟩
theorem kbP (W : World) (P D : Nat) (v : Value) : Kb (fun q => q = P ∨ q = D) W (W.setCell ⟨P, 0, none⟩ v) := Kb.set _ _ _ _ (.inl rfl)
theorem kbD (W : World) (P D : Nat) (v : Value) : Kb (fun q => q = P ∨ q = D) W (W.setCell ⟨D, 0, none⟩ v) := Kb.set _ _ _ _ (.inr rfl)
theorem Cs.setP (h : Cs T P G D K b m A c ts W w d) (w' : Int) : Cs T P G D K b m A c ts (W.setCell ⟨P, 0, none⟩ (.int .i64 w')) w' d := by
  have hk : Kb (fun q => q = P) W (W.setCell ⟨P, 0, none⟩ (.int .i64 w')) := Kb.set _ _ _ _ rfl
  obtain ⟨n1, n2, n3, n4, n5⟩ := h.ne
  exact ⟨hk.blk h.t n2.1, blk_put h.p 0 _ rfl, hk.blk h.g n3.1, hk.blk h.d (Ne.symm n1), hk.blk h.k n4.1, Kd.F_step h.C (fun q hq hlt => hk.block q hlt hq.1), h.tab.kb hk n5.1, h.ne⟩
theorem Cs.setD (h : Cs T P G D K b m A c ts W w d) (d' : Int) : Cs T P G D K b m A c ts (W.setCell ⟨D, 0, none⟩ (.int .i64 d')) w d' := by
  have hk : Kb (fun q => q = D) W (W.setCell ⟨D, 0, none⟩ (.int .i64 d')) := Kb.set _ _ _ _ rfl
  obtain ⟨n1, n2, n3, n4, n5⟩ := h.ne
  exact ⟨hk.blk h.t n2.2, hk.blk h.p n1, hk.blk h.g n3.2, blk_put h.d 0 _ rfl, hk.blk h.k n4.2, Kd.F_step h.C (fun q hq hlt => hk.block q hlt hq.2), h.tab.kb hk n5.2, h.ne⟩
end
/-- The loop's state. -/
structure Lo (T P G D K b m : Nat) (A : Option Addr) (c : Nat) (ts : List S61) (W : World) (x : S61) (tx : Nat) (le mo : Int) (pt : Nat) (xb fb ib : Nat) (j : Int) (wr : World) (w d : Int) : Prop where
  c : Cs T P G D K b m A c ts wr w d
  x : wr.heap[xb]? = some (.cells #[.int .u8 x.f0, .int .i64 x.f1, .int .i64 x.f2, .string x.f3] 61 (0, 0))
  f : wr.heap[fb]? = some (.cells #[.func (.func tx) #[] #[], .int .i64 le, .int .i64 mo, .func (.func pt) #[] #[]] 195 (0, 0))
  i : wr.heap[ib]? = some (.cells #[.int .i64 j] 3 (0, 0))
  n : W.heap.size ≤ xb ∧ W.heap.size ≤ fb ∧ W.heap.size ≤ ib
  lt : P < W.heap.size ∧ D < W.heap.size
  k : Kb (fun q => q = P ∨ q = D) W wr
theorem lo0 {T P G D K b m : Nat} {A : Option Addr} {c : Nat} {ts : List S61} {W W2 W4 : World} {w d : Int} {x : S61} {tx : Nat} {le mo : Int} {pt : Nat} (hc : Cs T P G D K b m A c ts W2 w d)
    (hx : W2.heap[W.heap.size]? = some (.cells #[.int .u8 x.f0, .int .i64 x.f1, .int .i64 x.f2, .string x.f3] 61 (0, 0)))
    (hf : W2.heap[W.heap.size + 1]? = some (.cells #[.func (.func tx) #[] #[], .int .i64 le, .int .i64 mo, .func (.func pt) #[] #[]] 195 (0, 0)))
    (hb2 : Below W.heap.size W W2) (hb4 : Below W2.heap.size W2 W4) (lP : P < W.heap.size) (lD : D < W.heap.size) :
    Lo T P G D K b m A c ts W x tx le mo pt W.heap.size (W.heap.size + 1) W4.heap.size 0 (W4.alloc (.cells #[.int .i64 0] 3)) w d := by
  have ha : Below W4.heap.size W4 (W4.alloc (.cells #[.int .i64 0] 3)) := below_alloc (Below.refl _ _) _
  have hb : Below W2.heap.size W2 (W4.alloc (.cells #[.int .i64 0] 3)) := below_step hb4 ha
  exact ⟨hc.below hb, blk_below hx hb, blk_below hf hb, blk_new _ _, ⟨Nat.le_refl _, by omega, by have := (below_step hb2 hb4).size; omega⟩, ⟨lP, lD⟩, Kb.of_below _ (below_step hb2 hb)⟩
theorem loD {T P G D K b m : Nat} {A : Option Addr} {c : Nat} {ts : List S61} {W W2 W4 : World} {w d : Int} {x : S61} {tx : Nat} {le mo : Int} {pt : Nat} (hc : Cs T P G D K b m A c ts W2 w d)
    (hx : W2.heap[W.heap.size]? = some (.cells #[.int .u8 x.f0, .int .i64 x.f1, .int .i64 x.f2, .string x.f3] 61 (0, 0)))
    (hf : W2.heap[W.heap.size + 1]? = some (.cells #[.func (.func tx) #[] #[], .int .i64 le, .int .i64 mo, .func (.func pt) #[] #[]] 195 (0, 0)))
    (hb2 : Below W.heap.size W W2) (hb4 : Below W2.heap.size W2 W4) (lP : P < W.heap.size) (lD : D < W.heap.size) (d' : Int) :
    Lo T P G D K b m A c ts W x tx le mo pt W.heap.size (W.heap.size + 1) W4.heap.size 0 ((W4.setCell ⟨D, 0, none⟩ (.int .i64 d')).alloc (.cells #[.int .i64 0] 3)) w d' := by
  have hk : Kb (fun q => q = P ∨ q = D) W4 (W4.setCell ⟨D, 0, none⟩ (.int .i64 d')) := kbD _ _ _ _
  obtain ⟨V, hV⟩ : ∃ V, V = W4.setCell ⟨D, 0, none⟩ (.int .i64 d') := ⟨_, rfl⟩
  have hs : W4.heap.size = V.heap.size := by rw [hV]; exact (World.size_setCell _ _ _).symm
  have hcD := (hc.below hb4).setD d'
  rw [hs]
  rw [← hV] at hk hcD ⊢
  have ha : Below V.heap.size V (V.alloc (.cells #[.int .i64 0] 3)) := below_alloc (Below.refl _ _) _
  have hb := below_step hb2 hb4
  exact ⟨hcD.below ha, blk_below (hk.blk (blk_below hx hb4) (by omega)) ha, blk_below (hk.blk (blk_below hf hb4) (by omega)) ha, blk_new _ _, ⟨Nat.le_refl _, by omega, by have := hb.size; omega⟩, ⟨lP, lD⟩, ((Kb.of_below _ hb).trans hk).trans (Kb.of_below _ ha)⟩
theorem Lo.next {T P G D K b m : Nat} {A : Option Addr} {c : Nat} {ts : List S61} {W : World} {w d w2 d2 : Int} {x : S61} {tx : Nat} {le mo : Int} {pt xb fb ib : Nat} {j : Int} {wr w6 : World}
    (h : Lo T P G D K b m A c ts W x tx le mo pt xb fb ib j wr w d) (hc : Cs T P G D K b m A c ts w6 w2 d2) (hk : Kb (fun q => q = P ∨ q = D) wr w6) (j' : Int) :
    Lo T P G D K b m A c ts W x tx le mo pt xb fb w6.heap.size j' (w6.alloc (.cells #[.int .i64 j'] 3)) w2 d2 := by
  have ha : Below w6.heap.size w6 (w6.alloc (.cells #[.int .i64 j'] 3)) := below_alloc (Below.refl _ _) _
  have hP := h.lt
  have hN := h.n
  exact ⟨hc.below ha, blk_below (hk.blk h.x (by omega)) ha, blk_below (hk.blk h.f (by omega)) ha, blk_new _ _, ⟨hN.1, hN.2.1, by have := (h.k.trans hk).size; omega⟩, h.lt, (h.k.trans hk).trans (Kb.of_below _ ha)⟩
theorem text_fn (tx : Nat) (ht : tx = 180 ∨ tx = 183 ∨ tx = 186) : ∃ fn, Try.prog.funcs[tx]? = some fn ∧ (fn.name == "runtime.NumGoroutine") = false ∧ fn.body.isSome = true := by
  rcases ht with rfl | rfl | rfl
  · exact ⟨Try.f180, Try.func180, by kernel_rfl, by kernel_rfl⟩
  · exact ⟨Try.f183, Try.func183, by kernel_rfl, by kernel_rfl⟩
  · exact ⟨Try.f186, Try.func186, by kernel_rfl, by kernel_rfl⟩
theorem tw_mem {ts : List S61} (h : ∀ x ∈ ts, TwOk x) {i : Int} (h0 : 0 ≤ i) (h1 : i < ts.length) : TwOk (rd_T61 ts i) := by
  unfold rd_T61
  rw [List.getD_eq_getElem?_getD, List.getElem?_eq_getElem (by omega)]
  exact h _ (List.getElem_mem _)
theorem walk_c {T P G D K b m : Nat} {A : Option Addr} {c : Nat} {ts : List S61} (hts : ∀ x ∈ ts, TwOk x) (hlen : ts.length ≤ 2048) : ∀ (f : Nat) (at_ lv : Int) (g : Nat) (caps : Array Value) (may : Int → Bool) (W : World) (w d : Int),
    Cs T P G D K b m A c ts W w d → MayC W g caps may → 0 ≤ at_ → InB ts at_ (at_, w, d) → (ts.length : Int) - at_ + 1 ≤ f → 0 ≤ lv → lv + f ≤ 100000 →
    Calls Try.prog 140 #[.int .i64 at_, .int .i64 lv, .func (.func g) #[] caps, .pointer (some ⟨T, 0, none⟩), .pointer (some ⟨P, 0, none⟩), .pointer (some ⟨G, 0, none⟩), .pointer (some ⟨D, 0, none⟩), .pointer (some ⟨K, 0, none⟩)] W fun e W' => e = .returned (.int .i64 (walkP ts f at_ lv may w d).1) ∧ Cs T P G D K b m A c ts W' (walkP ts f at_ lv may w d).2.1 (walkP ts f at_ lv may w d).2.2 ∧ Kb (fun q => q = P ∨ q = D) W W' := by
  intro f
  induction f with
  | zero =>
    intro at_ lv g caps may W w d _ _ h0 hb hf _ _
    have := hb.2.1
    dsimp only at this
    omega
  | succ f ih =>
    intro at_ lv g caps may W w d hc hm h0 hb hf hlv hlf
    have hbb := hb
    unfold InB at hbb
    dsimp only at hbb
    have HC := Aside0.mk hc
    have c0 : W.cell? ⟨T, 0, none⟩ = some (.slice A ts.length c) := by rw [blk_cell hc.t]; rfl
    have HLT := Aside0.mk hc.lt
    by_cases hge : (ts.length : Int) ≤ at_
    · have hw : walkP ts (f + 1) at_ lv may w d = (at_, (ts.length : Int), d) := by unfold walkP; rw [if_pos hge]
      rw [hw]
      have b0 : decide ((ts.length : Int) ≤ at_) = true := decide_eq_true hge
      have cp : W.cell? ⟨P, 0, none⟩ = some (.int .i64 w) := by rw [blk_cell hc.p]; rfl
      have fp := blk_frozen hc.p 0
      have HI := Aside0.mk ih
      clear hc hm hb hf hge hw hbb ih
      go_enter Try.func140, Try.ntmps140
      go_wp2_with (fail)
      go_ret
      exact ⟨rfl, HC.out.setP _, kbP _ _ _ _⟩
    · have b0 : decide ((ts.length : Int) ≤ at_) = false := decide_eq_false hge
      have hlt : at_ < (ts.length : Int) := by omega
      obtain ⟨x, hx⟩ : ∃ x, x = rd_T61 ts at_ := ⟨_, rfl⟩
      have hxo : TwOk x := by rw [hx]; exact tw_mem hts h0 hlt
      have hwk : walkP ts (f + 1) at_ lv may w d = (match formOf x.f0 with | none => (at_, at_, d) | some F => if badP F may x = true then (at_, at_, d) else loopP (walkP ts f) F.2.2.2 x.f1 lv x.f1.toNat 0 (at_ + 1) w (if lv > 40 ∧ d < 0 then at_ else d)) := by
        conv => lhs; unfold walkP
        rw [if_neg hge, ← hx]
        rfl
      obtain ⟨ad, eA, q0, q1, q2, q3⟩ := at_T61 (Kd.F_now hc.C) at_ h0 hlt
      rw [← hx] at q0 q1 q2 q3
      subst eA
      have hxx0 : 0 ≤ x.f0 := hxo.1.1
      have hxx1 : x.f0 < 256 := hxo.1.2
      have cg : W.cell? ⟨G, 0, none⟩ = some (.map (some b)) := by rw [blk_cell hc.g]; rfl
      have lT := hc.lt.1
      have lP := hc.lt.2.1
      have lG := hc.lt.2.2.1
      have lD := hc.lt.2.2.2.1
      have lK := hc.lt.2.2.2.2.1
      have HXO := Aside0.mk hxo
      have HI := Aside0.mk ih
      have HM := Aside0.mk hm
      have HX := Aside0.mk hx
      have HB := Aside0.mk hb
      clear hm hb hge hx hxo ih
      rw [hwk]
      clear hwk
      cases hF : formOf x.f0 with
      | none =>
        dsimp only
        have HF := Aside0.mk hF
        have cp : W.cell? ⟨P, 0, none⟩ = some (.int .i64 w) := by rw [blk_cell hc.p]; rfl
        have fp := blk_frozen hc.p 0
        clear hF hc
        go_enter Try.func140, Try.ntmps140
        go_wp2_with (first
          | ((with_reducible refine gate_dst (N := 32) rfl ?_); refine at_look rfl (.tmp 29) (.tmp 31) 190 195 noForm rfl Try.underlying190 zform rfl (HC.out.tab.below (below_alloc (Below.refl _ _) _)) x.f0 rfl hxx0 hxx1 (.agg #[.nilFunc, .int .i64 0, .int .i64 0, .nilFunc]) false (by rw [HF.out]; rfl) (by rw [HF.out]; rfl) ?_)
          | fail)
        go_ret
        exact ⟨rfl, ((HC.out.setP at_).below (below_alloc (Below.refl _ _) _)).below (below_alloc (Below.refl _ _) _), (kbP _ _ _ _).trans ((Kb.of_below _ (below_alloc (Below.refl _ _) _)).trans (Kb.of_below _ (below_alloc (Below.refl _ _) _)))⟩
      | some F =>
        obtain ⟨tx, le, mo, pt⟩ := F
        have hok := form_ok hxx0 hxx1 hF
        have htx : tx = 180 ∨ tx = 183 ∨ tx = 186 := by
          unfold FormOk at hok
          simp only [Bool.and_eq_true, Bool.or_eq_true, beq_iff_eq] at hok
          have := hok.1.1.1
          omega
        obtain ⟨ft, hft, hnt, hbt⟩ := text_fn tx htx
        obtain ⟨fn, hfn, hnm, hbd⟩ := HM.out.1
        have hmo : mo ≤ 2048 ∧ 0 ≤ le := by
          unfold FormOk at hok
          simp only [Bool.and_eq_true, decide_eq_true_eq] at hok
          exact ⟨hok.2, hok.1.2⟩
        dsimp only
        obtain ⟨R, hR⟩ : ∃ R, R = (if badP (tx, le, mo, pt) may x = true then (at_, at_, d) else loopP (walkP ts f) pt x.f1 lv x.f1.toNat 0 (at_ + 1) w (if lv > 40 ∧ d < 0 then at_ else d)) := ⟨_, rfl⟩
        rw [← hR]
        have HR := Aside0.mk hR
        clear hR
        have HF := Aside0.mk hF
        have HOK := Aside0.mk hok
        have HFT := Aside0.mk (And.intro hft (And.intro hnt hbt))
        have HFN := Aside0.mk (And.intro hfn (And.intro hnm hbd))
        have HTX := Aside0.mk htx
        have HMO := Aside0.mk hmo
        have HCP := Aside0.mk hc
        clear hF hc hok hft hnt hbt hfn hnm hbd htx hmo
        have HQ1 := Aside0.mk (blk_below (blk_new W (.cells #[.int .u8 x.f0, .int .i64 x.f1, .int .i64 x.f2, .string x.f3] 61)) (below_alloc (Below.refl _ _) (.cells #[.func (.func tx) #[] #[], .int .i64 le, .int .i64 mo, .func (.func pt) #[] #[]] 195)))
        have hq2 := blk_new (W.alloc (.cells #[.int .u8 x.f0, .int .i64 x.f1, .int .i64 x.f2, .string x.f3] 61)) (.cells #[.func (.func tx) #[] #[], .int .i64 le, .int .i64 mo, .func (.func pt) #[] #[]] 195)
        rw [World.size_alloc] at hq2
        have HQ2 := Aside0.mk hq2
        have HB2 := Aside0.mk (show Below W.heap.size W ((W.alloc (.cells #[.int .u8 x.f0, .int .i64 x.f1, .int .i64 x.f2, .string x.f3] 61)).alloc (.cells #[.func (.func tx) #[] #[], .int .i64 le, .int .i64 mo, .func (.func pt) #[] #[]] 195)) from below_alloc (below_alloc (Below.refl _ _) _) _)
        have HC2 := Aside0.mk (HC.out.below HB2.out)
        have HM2 := Aside0.mk (HM.out.below HB2.out)
        clear hq2
        cases hmy : may x.f0 with
        | false =>
          have hbad : badP (tx, le, mo, pt) may x = true := by unfold badP; rw [hmy]; rfl
          have hRv : R = (at_, at_, d) := by rw [HR.out, if_pos hbad]
          have HRV := Aside0.mk hRv
          clear hbad HI hRv
          go_enter Try.func140, Try.ntmps140
          go_wp2_with (first
            | ((with_reducible refine gate_dst (N := 32) rfl ?_); refine at_look rfl (.tmp 29) (.tmp 31) 190 195 noForm rfl Try.underlying190 zform rfl (HC.out.tab.below (below_alloc (Below.refl _ _) _)) x.f0 rfl hxx0 hxx1 (.agg #[.func (.func tx) #[] #[], .int .i64 le, .int .i64 mo, .func (.func pt) #[] #[]]) true (by rw [HF.out]; rfl) (by rw [HF.out]; rfl) ?_)
            | ((with_reducible refine gate_dst (N := 41) rfl ?_); (try (refine gate_guard (by rfl) ?_; dsimp only)); refine goesF_ (some 41) rfl rfl (.tmp 38) caps rfl HFN.out.1 HFN.out.2.1 HFN.out.2.2 (#[.int .u8 x.f0] ++ caps) rfl (by (try simp only [List.map_toArray, List.map_cons, List.map_nil]); first | done | rfl) ?_; refine (HM2.out.2 _ x.f0 (Below.refl _ _) hxx0 hxx1).mono ?_; rintro e w3 ⟨he, hd⟩; rw [hmy] at he; subst he; refine ⟨_, rfl, ?_⟩; have HB3 := Aside0.mk hd.below; clear hd; have cp3 : w3.cell? ⟨P, 0, none⟩ = some (.int .i64 w) := (by rw [blk_cell (blk_below HC2.out.p HB3.out)]; rfl); have fp3 := blk_frozen (blk_below HC2.out.p HB3.out) 0; skip)
            | fail)
          go_ret
          exact ⟨by rw [HRV.out]; rfl, by rw [HRV.out]; exact (HC2.out.below HB3.out).setP _, ((Kb.of_below _ HB2.out).trans (Kb.of_below _ HB3.out)).trans (kbP _ _ _ _)⟩
        | true =>
          cases htp : textP tx x.f3 with
          | false =>
            have hbad : badP (tx, le, mo, pt) may x = true := by unfold badP; rw [show textP (tx, le, mo, pt).1 x.f3 = false from htp, hmy]; rfl
            have hRv : R = (at_, at_, d) := by rw [HR.out, if_pos hbad]
            have HRV := Aside0.mk hRv
            clear hbad HI hRv
            go_enter Try.func140, Try.ntmps140
            go_wp2_with (first
              | ((with_reducible refine gate_dst (N := 32) rfl ?_); refine at_look rfl (.tmp 29) (.tmp 31) 190 195 noForm rfl Try.underlying190 zform rfl (HC.out.tab.below (below_alloc (Below.refl _ _) _)) x.f0 rfl hxx0 hxx1 (.agg #[.func (.func tx) #[] #[], .int .i64 le, .int .i64 mo, .func (.func pt) #[] #[]]) true (by rw [HF.out]; rfl) (by rw [HF.out]; rfl) ?_)
              | ((with_reducible refine gate_dst (N := 41) rfl ?_); (try (refine gate_guard (by rfl) ?_; dsimp only)); refine goesF_ (some 41) rfl rfl (.tmp 38) caps rfl HFN.out.1 HFN.out.2.1 HFN.out.2.2 (#[.int .u8 x.f0] ++ caps) rfl (by (try simp only [List.map_toArray, List.map_cons, List.map_nil]); first | done | rfl) ?_; refine (HM2.out.2 _ x.f0 (Below.refl _ _) hxx0 hxx1).mono ?_; rintro e w3 ⟨he, hd⟩; rw [hmy] at he; subst he; refine ⟨_, rfl, ?_⟩; have HB3 := Aside0.mk hd.below; clear hd; have t33 : w3.cell? ⟨W.heap.size, 3, none⟩ = some (.string x.f3) := (by rw [blk_cell (blk_below HQ1.out HB3.out)]; rfl); have u03 : w3.cell? ⟨W.heap.size + 1, 0, none⟩ = some (.func (.func tx) #[] #[]) := (by rw [blk_cell (blk_below HQ2.out HB3.out)]; rfl); skip)
              | ((with_reducible refine gate_dst (N := 49) rfl ?_); (try (refine gate_guard (by rfl) ?_; dsimp only)); refine goesF_ (some 49) rfl rfl (.tmp 46) #[] rfl HFT.out.1 HFT.out.2.1 HFT.out.2.2 #[.string x.f3] rfl (by (try simp only [List.map_toArray, List.map_cons, List.map_nil]); first | done | rfl) ?_; refine (text_c tx HTX.out x.f3 _).mono ?_; rintro e w4 ⟨he, hd⟩; rw [htp] at he; subst he; refine ⟨_, rfl, ?_⟩; have HB4 := Aside0.mk (below_step HB3.out hd.below); clear hd; have t04 : w4.cell? ⟨W.heap.size, 0, none⟩ = some (.int .u8 x.f0) := (by rw [blk_cell (blk_below HQ1.out HB4.out)]; rfl); have t14 : w4.cell? ⟨W.heap.size, 1, none⟩ = some (.int .i64 x.f1) := (by rw [blk_cell (blk_below HQ1.out HB4.out)]; rfl); have t24 : w4.cell? ⟨W.heap.size, 2, none⟩ = some (.int .i64 x.f2) := (by rw [blk_cell (blk_below HQ1.out HB4.out)]; rfl); have u14 : w4.cell? ⟨W.heap.size + 1, 1, none⟩ = some (.int .i64 le) := (by rw [blk_cell (blk_below HQ2.out HB4.out)]; rfl); have u24 : w4.cell? ⟨W.heap.size + 1, 2, none⟩ = some (.int .i64 mo) := (by rw [blk_cell (blk_below HQ2.out HB4.out)]; rfl); have cp4 : w4.cell? ⟨P, 0, none⟩ = some (.int .i64 w) := (by rw [blk_cell (blk_below HC2.out.p HB4.out)]; rfl); have fp4 := blk_frozen (blk_below HC2.out.p HB4.out) 0; have cd4 : w4.cell? ⟨D, 0, none⟩ = some (.int .i64 d) := (by rw [blk_cell (blk_below HC2.out.d HB4.out)]; rfl); have fd4 := blk_frozen (blk_below HC2.out.d HB4.out) 0; have lP4 : P < w4.heap.size := blk_lt (blk_below HC2.out.p HB4.out); have lX4 : W.heap.size < w4.heap.size := blk_lt (blk_below HQ1.out HB4.out); have lD4 : D < w4.heap.size := blk_lt (blk_below HC2.out.d HB4.out); skip)
              | fail)
            go_ret
            exact ⟨by rw [HRV.out]; rfl, by rw [HRV.out]; exact (HC2.out.below HB4.out).setP _, ((Kb.of_below _ HB2.out).trans (Kb.of_below _ HB4.out)).trans (kbP _ _ _ _)⟩
          | true =>
            have HMY := Aside0.mk hmy
            have HTP := Aside0.mk htp
            clear hmy htp
            by_cases hd1 : x.f1 < le
            · have b1 : decide (x.f1 < le) = true := decide_eq_true hd1
              have hbad : badP (tx, le, mo, pt) may x = true := by unfold badP; rw [show textP (tx, le, mo, pt).1 x.f3 = true from HTP.out, HMY.out]; simp only [Bool.not_true, Bool.false_or]; rw [b1]; rfl
              have hRv : R = (at_, at_, d) := by rw [HR.out, if_pos hbad]
              have HRV := Aside0.mk hRv
              clear hbad HI hRv
              go_enter Try.func140, Try.ntmps140
              go_wp2_with (first
                | ((with_reducible refine gate_dst (N := 32) rfl ?_); refine at_look rfl (.tmp 29) (.tmp 31) 190 195 noForm rfl Try.underlying190 zform rfl (HC.out.tab.below (below_alloc (Below.refl _ _) _)) x.f0 rfl hxx0 hxx1 (.agg #[.func (.func tx) #[] #[], .int .i64 le, .int .i64 mo, .func (.func pt) #[] #[]]) true (by rw [HF.out]; rfl) (by rw [HF.out]; rfl) ?_)
                | ((with_reducible refine gate_dst (N := 41) rfl ?_); (try (refine gate_guard (by rfl) ?_; dsimp only)); refine goesF_ (some 41) rfl rfl (.tmp 38) caps rfl HFN.out.1 HFN.out.2.1 HFN.out.2.2 (#[.int .u8 x.f0] ++ caps) rfl (by (try simp only [List.map_toArray, List.map_cons, List.map_nil]); first | done | rfl) ?_; refine (HM2.out.2 _ x.f0 (Below.refl _ _) hxx0 hxx1).mono ?_; rintro e w3 ⟨he, hd⟩; rw [HMY.out] at he; subst he; refine ⟨_, rfl, ?_⟩; have HB3 := Aside0.mk hd.below; clear hd; have t33 : w3.cell? ⟨W.heap.size, 3, none⟩ = some (.string x.f3) := (by rw [blk_cell (blk_below HQ1.out HB3.out)]; rfl); have u03 : w3.cell? ⟨W.heap.size + 1, 0, none⟩ = some (.func (.func tx) #[] #[]) := (by rw [blk_cell (blk_below HQ2.out HB3.out)]; rfl); skip)
                | ((with_reducible refine gate_dst (N := 49) rfl ?_); (try (refine gate_guard (by rfl) ?_; dsimp only)); refine goesF_ (some 49) rfl rfl (.tmp 46) #[] rfl HFT.out.1 HFT.out.2.1 HFT.out.2.2 #[.string x.f3] rfl (by (try simp only [List.map_toArray, List.map_cons, List.map_nil]); first | done | rfl) ?_; refine (text_c tx HTX.out x.f3 _).mono ?_; rintro e w4 ⟨he, hd⟩; rw [HTP.out] at he; subst he; refine ⟨_, rfl, ?_⟩; have HB4 := Aside0.mk (below_step HB3.out hd.below); clear hd; have t04 : w4.cell? ⟨W.heap.size, 0, none⟩ = some (.int .u8 x.f0) := (by rw [blk_cell (blk_below HQ1.out HB4.out)]; rfl); have t14 : w4.cell? ⟨W.heap.size, 1, none⟩ = some (.int .i64 x.f1) := (by rw [blk_cell (blk_below HQ1.out HB4.out)]; rfl); have t24 : w4.cell? ⟨W.heap.size, 2, none⟩ = some (.int .i64 x.f2) := (by rw [blk_cell (blk_below HQ1.out HB4.out)]; rfl); have u14 : w4.cell? ⟨W.heap.size + 1, 1, none⟩ = some (.int .i64 le) := (by rw [blk_cell (blk_below HQ2.out HB4.out)]; rfl); have u24 : w4.cell? ⟨W.heap.size + 1, 2, none⟩ = some (.int .i64 mo) := (by rw [blk_cell (blk_below HQ2.out HB4.out)]; rfl); have cp4 : w4.cell? ⟨P, 0, none⟩ = some (.int .i64 w) := (by rw [blk_cell (blk_below HC2.out.p HB4.out)]; rfl); have fp4 := blk_frozen (blk_below HC2.out.p HB4.out) 0; have cd4 : w4.cell? ⟨D, 0, none⟩ = some (.int .i64 d) := (by rw [blk_cell (blk_below HC2.out.d HB4.out)]; rfl); have fd4 := blk_frozen (blk_below HC2.out.d HB4.out) 0; have lP4 : P < w4.heap.size := blk_lt (blk_below HC2.out.p HB4.out); have lX4 : W.heap.size < w4.heap.size := blk_lt (blk_below HQ1.out HB4.out); have lD4 : D < w4.heap.size := blk_lt (blk_below HC2.out.d HB4.out); skip)
                | fail)
              go_ret
              exact ⟨by rw [HRV.out]; rfl, by rw [HRV.out]; exact (HC2.out.below HB4.out).setP _, ((Kb.of_below _ HB2.out).trans (Kb.of_below _ HB4.out)).trans (kbP _ _ _ _)⟩
            have b1 : decide (x.f1 < le) = false := decide_eq_false hd1
            by_cases hd2 : mo < x.f1
            · have b2 : decide (mo < x.f1) = true := decide_eq_true hd2
              have hbad : badP (tx, le, mo, pt) may x = true := by unfold badP; rw [show textP (tx, le, mo, pt).1 x.f3 = true from HTP.out, HMY.out]; simp only [Bool.not_true, Bool.false_or]; rw [b1, show decide (x.f1 > mo) = true from b2]; rfl
              have hRv : R = (at_, at_, d) := by rw [HR.out, if_pos hbad]
              have HRV := Aside0.mk hRv
              clear hbad HI hRv
              go_enter Try.func140, Try.ntmps140
              go_wp2_with (first
                | ((with_reducible refine gate_dst (N := 32) rfl ?_); refine at_look rfl (.tmp 29) (.tmp 31) 190 195 noForm rfl Try.underlying190 zform rfl (HC.out.tab.below (below_alloc (Below.refl _ _) _)) x.f0 rfl hxx0 hxx1 (.agg #[.func (.func tx) #[] #[], .int .i64 le, .int .i64 mo, .func (.func pt) #[] #[]]) true (by rw [HF.out]; rfl) (by rw [HF.out]; rfl) ?_)
                | ((with_reducible refine gate_dst (N := 41) rfl ?_); (try (refine gate_guard (by rfl) ?_; dsimp only)); refine goesF_ (some 41) rfl rfl (.tmp 38) caps rfl HFN.out.1 HFN.out.2.1 HFN.out.2.2 (#[.int .u8 x.f0] ++ caps) rfl (by (try simp only [List.map_toArray, List.map_cons, List.map_nil]); first | done | rfl) ?_; refine (HM2.out.2 _ x.f0 (Below.refl _ _) hxx0 hxx1).mono ?_; rintro e w3 ⟨he, hd⟩; rw [HMY.out] at he; subst he; refine ⟨_, rfl, ?_⟩; have HB3 := Aside0.mk hd.below; clear hd; have t33 : w3.cell? ⟨W.heap.size, 3, none⟩ = some (.string x.f3) := (by rw [blk_cell (blk_below HQ1.out HB3.out)]; rfl); have u03 : w3.cell? ⟨W.heap.size + 1, 0, none⟩ = some (.func (.func tx) #[] #[]) := (by rw [blk_cell (blk_below HQ2.out HB3.out)]; rfl); skip)
                | ((with_reducible refine gate_dst (N := 49) rfl ?_); (try (refine gate_guard (by rfl) ?_; dsimp only)); refine goesF_ (some 49) rfl rfl (.tmp 46) #[] rfl HFT.out.1 HFT.out.2.1 HFT.out.2.2 #[.string x.f3] rfl (by (try simp only [List.map_toArray, List.map_cons, List.map_nil]); first | done | rfl) ?_; refine (text_c tx HTX.out x.f3 _).mono ?_; rintro e w4 ⟨he, hd⟩; rw [HTP.out] at he; subst he; refine ⟨_, rfl, ?_⟩; have HB4 := Aside0.mk (below_step HB3.out hd.below); clear hd; have t04 : w4.cell? ⟨W.heap.size, 0, none⟩ = some (.int .u8 x.f0) := (by rw [blk_cell (blk_below HQ1.out HB4.out)]; rfl); have t14 : w4.cell? ⟨W.heap.size, 1, none⟩ = some (.int .i64 x.f1) := (by rw [blk_cell (blk_below HQ1.out HB4.out)]; rfl); have t24 : w4.cell? ⟨W.heap.size, 2, none⟩ = some (.int .i64 x.f2) := (by rw [blk_cell (blk_below HQ1.out HB4.out)]; rfl); have u14 : w4.cell? ⟨W.heap.size + 1, 1, none⟩ = some (.int .i64 le) := (by rw [blk_cell (blk_below HQ2.out HB4.out)]; rfl); have u24 : w4.cell? ⟨W.heap.size + 1, 2, none⟩ = some (.int .i64 mo) := (by rw [blk_cell (blk_below HQ2.out HB4.out)]; rfl); have cp4 : w4.cell? ⟨P, 0, none⟩ = some (.int .i64 w) := (by rw [blk_cell (blk_below HC2.out.p HB4.out)]; rfl); have fp4 := blk_frozen (blk_below HC2.out.p HB4.out) 0; have cd4 : w4.cell? ⟨D, 0, none⟩ = some (.int .i64 d) := (by rw [blk_cell (blk_below HC2.out.d HB4.out)]; rfl); have fd4 := blk_frozen (blk_below HC2.out.d HB4.out) 0; have lP4 : P < w4.heap.size := blk_lt (blk_below HC2.out.p HB4.out); have lX4 : W.heap.size < w4.heap.size := blk_lt (blk_below HQ1.out HB4.out); have lD4 : D < w4.heap.size := blk_lt (blk_below HC2.out.d HB4.out); skip)
                | fail)
              go_ret
              exact ⟨by rw [HRV.out]; rfl, by rw [HRV.out]; exact (HC2.out.below HB4.out).setP _, ((Kb.of_below _ HB2.out).trans (Kb.of_below _ HB4.out)).trans (kbP _ _ _ _)⟩
            have b2 : decide (mo < x.f1) = false := decide_eq_false hd2
            by_cases hd3 : x.f0 = 23
            · have b3 : (x.f0 != 23) = false := by rw [hd3]; rfl
              by_cases hd5 : x.f2 < 0
              · have b5 : decide (x.f2 < 0) = true := decide_eq_true hd5
                have HD3 := Aside0.mk hd3
                clear hd3
                have hbad : badP (tx, le, mo, pt) may x = true := by unfold badP; rw [show textP (tx, le, mo, pt).1 x.f3 = true from HTP.out, HMY.out]; simp only [Bool.not_true, Bool.false_or]; rw [b1, show decide (x.f1 > mo) = false from b2, b3, b5]; rfl
                have hRv : R = (at_, at_, d) := by rw [HR.out, if_pos hbad]
                have HRV := Aside0.mk hRv
                clear hbad HI hRv
                go_enter Try.func140, Try.ntmps140
                go_wp2_with (first
                  | ((with_reducible refine gate_dst (N := 32) rfl ?_); refine at_look rfl (.tmp 29) (.tmp 31) 190 195 noForm rfl Try.underlying190 zform rfl (HC.out.tab.below (below_alloc (Below.refl _ _) _)) x.f0 rfl hxx0 hxx1 (.agg #[.func (.func tx) #[] #[], .int .i64 le, .int .i64 mo, .func (.func pt) #[] #[]]) true (by rw [HF.out]; rfl) (by rw [HF.out]; rfl) ?_)
                  | ((with_reducible refine gate_dst (N := 41) rfl ?_); (try (refine gate_guard (by rfl) ?_; dsimp only)); refine goesF_ (some 41) rfl rfl (.tmp 38) caps rfl HFN.out.1 HFN.out.2.1 HFN.out.2.2 (#[.int .u8 x.f0] ++ caps) rfl (by (try simp only [List.map_toArray, List.map_cons, List.map_nil]); first | done | rfl) ?_; refine (HM2.out.2 _ x.f0 (Below.refl _ _) hxx0 hxx1).mono ?_; rintro e w3 ⟨he, hd⟩; rw [HMY.out] at he; subst he; refine ⟨_, rfl, ?_⟩; have HB3 := Aside0.mk hd.below; clear hd; have t33 : w3.cell? ⟨W.heap.size, 3, none⟩ = some (.string x.f3) := (by rw [blk_cell (blk_below HQ1.out HB3.out)]; rfl); have u03 : w3.cell? ⟨W.heap.size + 1, 0, none⟩ = some (.func (.func tx) #[] #[]) := (by rw [blk_cell (blk_below HQ2.out HB3.out)]; rfl); skip)
                  | ((with_reducible refine gate_dst (N := 49) rfl ?_); (try (refine gate_guard (by rfl) ?_; dsimp only)); refine goesF_ (some 49) rfl rfl (.tmp 46) #[] rfl HFT.out.1 HFT.out.2.1 HFT.out.2.2 #[.string x.f3] rfl (by (try simp only [List.map_toArray, List.map_cons, List.map_nil]); first | done | rfl) ?_; refine (text_c tx HTX.out x.f3 _).mono ?_; rintro e w4 ⟨he, hd⟩; rw [HTP.out] at he; subst he; refine ⟨_, rfl, ?_⟩; have HB4 := Aside0.mk (below_step HB3.out hd.below); clear hd; have t04 : w4.cell? ⟨W.heap.size, 0, none⟩ = some (.int .u8 x.f0) := (by rw [blk_cell (blk_below HQ1.out HB4.out)]; rfl); have t14 : w4.cell? ⟨W.heap.size, 1, none⟩ = some (.int .i64 x.f1) := (by rw [blk_cell (blk_below HQ1.out HB4.out)]; rfl); have t24 : w4.cell? ⟨W.heap.size, 2, none⟩ = some (.int .i64 x.f2) := (by rw [blk_cell (blk_below HQ1.out HB4.out)]; rfl); have u14 : w4.cell? ⟨W.heap.size + 1, 1, none⟩ = some (.int .i64 le) := (by rw [blk_cell (blk_below HQ2.out HB4.out)]; rfl); have u24 : w4.cell? ⟨W.heap.size + 1, 2, none⟩ = some (.int .i64 mo) := (by rw [blk_cell (blk_below HQ2.out HB4.out)]; rfl); have cp4 : w4.cell? ⟨P, 0, none⟩ = some (.int .i64 w) := (by rw [blk_cell (blk_below HC2.out.p HB4.out)]; rfl); have fp4 := blk_frozen (blk_below HC2.out.p HB4.out) 0; have cd4 : w4.cell? ⟨D, 0, none⟩ = some (.int .i64 d) := (by rw [blk_cell (blk_below HC2.out.d HB4.out)]; rfl); have fd4 := blk_frozen (blk_below HC2.out.d HB4.out) 0; have lP4 : P < w4.heap.size := blk_lt (blk_below HC2.out.p HB4.out); have lX4 : W.heap.size < w4.heap.size := blk_lt (blk_below HQ1.out HB4.out); have lD4 : D < w4.heap.size := blk_lt (blk_below HC2.out.d HB4.out); skip)
                  | fail)
                go_ret
                exact ⟨by rw [HRV.out]; rfl, by rw [HRV.out]; exact (HC2.out.below HB4.out).setP _, ((Kb.of_below _ HB2.out).trans (Kb.of_below _ HB4.out)).trans (kbP _ _ _ _)⟩
              have b5 : decide (x.f2 < 0) = false := decide_eq_false hd5
              have hbad : badP (tx, le, mo, pt) may x = false := by unfold badP; rw [show textP (tx, le, mo, pt).1 x.f3 = true from HTP.out, HMY.out]; simp only [Bool.not_true, Bool.false_or]; rw [b1, show decide (x.f1 > mo) = false from b2, b3, b5]; rfl
              have hRv : R = loopP (walkP ts f) pt x.f1 lv x.f1.toNat 0 (at_ + 1) w (if lv > 40 ∧ d < 0 then at_ else d) := by rw [HR.out, if_neg (by rw [hbad]; decide)]
              have HRV := Aside0.mk hRv
              have HD34 := Aside0.mk hd3
              have hn : 0 ≤ x.f1 ∧ x.f1 ≤ 2048 := by have := HMO.out; omega
              have hn0 := hn.1
              have hn1 := hn.2
              clear hbad hRv hd3 hn
              rcases (show 40 < lv ∧ d < 0 ∨ 40 < lv ∧ ¬ d < 0 ∨ ¬ 40 < lv by omega) with ⟨hl, hdd⟩ | ⟨hl, hdd⟩ | hl
              · have b7 : decide (40 < lv) = true := decide_eq_true hl
                have b8 : decide (d < 0) = true := decide_eq_true hdd
                have HDE : Aside0 ((if lv > 40 ∧ d < 0 then at_ else d) = at_) := ⟨if_pos ⟨hl, hdd⟩⟩
                have HDL := Aside0.mk hl
                clear hl hdd
                go_enter Try.func140, Try.ntmps140
                go_wp2_with (first
                  | ((with_reducible refine gate_dst (N := 32) rfl ?_); refine at_look rfl (.tmp 29) (.tmp 31) 190 195 noForm rfl Try.underlying190 zform rfl (HC.out.tab.below (below_alloc (Below.refl _ _) _)) x.f0 rfl hxx0 hxx1 (.agg #[.func (.func tx) #[] #[], .int .i64 le, .int .i64 mo, .func (.func pt) #[] #[]]) true (by rw [HF.out]; rfl) (by rw [HF.out]; rfl) ?_)
                  | ((with_reducible refine gate_dst (N := 41) rfl ?_); (try (refine gate_guard (by rfl) ?_; dsimp only)); refine goesF_ (some 41) rfl rfl (.tmp 38) caps rfl HFN.out.1 HFN.out.2.1 HFN.out.2.2 (#[.int .u8 x.f0] ++ caps) rfl (by (try simp only [List.map_toArray, List.map_cons, List.map_nil]); first | done | rfl) ?_; refine (HM2.out.2 _ x.f0 (Below.refl _ _) hxx0 hxx1).mono ?_; rintro e w3 ⟨he, hd⟩; rw [HMY.out] at he; subst he; refine ⟨_, rfl, ?_⟩; have HB3 := Aside0.mk hd.below; clear hd; have t33 : w3.cell? ⟨W.heap.size, 3, none⟩ = some (.string x.f3) := (by rw [blk_cell (blk_below HQ1.out HB3.out)]; rfl); have u03 : w3.cell? ⟨W.heap.size + 1, 0, none⟩ = some (.func (.func tx) #[] #[]) := (by rw [blk_cell (blk_below HQ2.out HB3.out)]; rfl); skip)
                  | ((with_reducible refine gate_dst (N := 49) rfl ?_); (try (refine gate_guard (by rfl) ?_; dsimp only)); refine goesF_ (some 49) rfl rfl (.tmp 46) #[] rfl HFT.out.1 HFT.out.2.1 HFT.out.2.2 #[.string x.f3] rfl (by (try simp only [List.map_toArray, List.map_cons, List.map_nil]); first | done | rfl) ?_; refine (text_c tx HTX.out x.f3 _).mono ?_; rintro e w4 ⟨he, hd⟩; rw [HTP.out] at he; subst he; refine ⟨_, rfl, ?_⟩; have HB4 := Aside0.mk (below_step HB3.out hd.below); clear hd; have t04 : w4.cell? ⟨W.heap.size, 0, none⟩ = some (.int .u8 x.f0) := (by rw [blk_cell (blk_below HQ1.out HB4.out)]; rfl); have t14 : w4.cell? ⟨W.heap.size, 1, none⟩ = some (.int .i64 x.f1) := (by rw [blk_cell (blk_below HQ1.out HB4.out)]; rfl); have t24 : w4.cell? ⟨W.heap.size, 2, none⟩ = some (.int .i64 x.f2) := (by rw [blk_cell (blk_below HQ1.out HB4.out)]; rfl); have u14 : w4.cell? ⟨W.heap.size + 1, 1, none⟩ = some (.int .i64 le) := (by rw [blk_cell (blk_below HQ2.out HB4.out)]; rfl); have u24 : w4.cell? ⟨W.heap.size + 1, 2, none⟩ = some (.int .i64 mo) := (by rw [blk_cell (blk_below HQ2.out HB4.out)]; rfl); have cp4 : w4.cell? ⟨P, 0, none⟩ = some (.int .i64 w) := (by rw [blk_cell (blk_below HC2.out.p HB4.out)]; rfl); have fp4 := blk_frozen (blk_below HC2.out.p HB4.out) 0; have cd4 : w4.cell? ⟨D, 0, none⟩ = some (.int .i64 d) := (by rw [blk_cell (blk_below HC2.out.d HB4.out)]; rfl); have fd4 := blk_frozen (blk_below HC2.out.d HB4.out) 0; have lP4 : P < w4.heap.size := blk_lt (blk_below HC2.out.p HB4.out); have lX4 : W.heap.size < w4.heap.size := blk_lt (blk_below HQ1.out HB4.out); have lD4 : D < w4.heap.size := blk_lt (blk_below HC2.out.d HB4.out); skip)
                  | fail)
                have HL := Aside0.mk (loD HC2.out HQ1.out HQ2.out HB2.out HB4.out lP lD at_)
                have hRV : loopP (walkP ts f) pt x.f1 lv x.f1.toNat ((0 : Nat) : Int) (at_ + 1) w at_ = R := by rw [HRV.out, HDE.out]; rfl
                have HBA : Aside0 (InB ts (at_ + 1) (at_ + 1, w, at_)) := ⟨by unfold InB; dsimp only; omega⟩
                have HRW := Aside0.mk hRV
                obtain ⟨xb, hxb⟩ : ∃ xb, xb = W.heap.size := ⟨_, rfl⟩
                obtain ⟨fb, hfb⟩ : ∃ fb, fb = xb + 1 := ⟨_, rfl⟩
                obtain ⟨ib, hib⟩ : ∃ ib, ib = w4.heap.size := ⟨_, rfl⟩
                rw [← hib, ← hxb, ← hfb] at HL
                rw [← hib, ← hxb, ← hfb]
                clear hib hfb hxb hRV HB4 t04 t14 t24 u14 u24 cp4 fp4 cd4 fd4 lP4 lX4 lD4 t33 u03 HB3 HQ1 HQ2 HB2 HC2 HM2 c0 cg q0 q1 q2 q3 HRV HR HDE
                go_loopg [15, 16] x.f1.toNat (fun kk v15 v16 wr => ∃ (j : Nat) (nx w1 d1 : Int) (ib : Nat), v15 = .int .i64 nx ∧ v16 = .pointer (some ⟨ib, 0, none⟩) ∧ Aside0 (j ≤ x.f1.toNat ∧ kk = x.f1.toNat - j) ∧ Aside0 (loopP (walkP ts f) pt x.f1 lv kk j nx w1 d1 = R) ∧ Aside0 (InB ts (at_ + 1) (nx, w1, d1)) ∧ Aside0 (Lo T P G D K b m (some ad) c ts W x tx le mo pt xb fb ib j wr w1 d1))
                case atStart => exact ⟨0, at_ + 1, w, at_, ib, rfl, rfl, ⟨Nat.zero_le _, rfl⟩, HRW, HBA, HL⟩
                case round =>
                  clear HL HBA HRW ib
                  obtain ⟨j, nx, w1, d1, ib, rfl, rfl, hj, HRW, HBA, HL⟩ := hrel
                  have t11 : wr.cell? ⟨xb, 1, none⟩ = some (.int .i64 x.f1) := by rw [blk_cell HL.out.x]; rfl
                  have ti : wr.cell? ⟨ib, 0, none⟩ = some (.int .i64 j) := by rw [blk_cell HL.out.i]; rfl
                  have tp : wr.cell? ⟨P, 0, none⟩ = some (.int .i64 w1) := by rw [blk_cell HL.out.c.p]; rfl
                  by_cases hjl : (j : Int) < x.f1
                  · have e1 : decide ((j : Int) < x.f1) = true := decide_eq_true hjl
                    by_cases hw1 : w1 < 0
                    · have e2 : decide (w1 < 0) = true := decide_eq_true hw1
                      have tk : wr.cell? ⟨K, 0, none⟩ = some (.func (.func 140) #[] #[.pointer (some ⟨T, 0, none⟩), .pointer (some ⟨P, 0, none⟩), .pointer (some ⟨G, 0, none⟩), .pointer (some ⟨D, 0, none⟩), .pointer (some ⟨K, 0, none⟩)]) := by rw [blk_cell HL.out.c.k]; rfl
                      obtain ⟨r, hr⟩ : ∃ r, r = walkP ts f nx (lv + 1) (partP pt j x.f1) w1 d1 := ⟨_, rfl⟩
                      obtain ⟨n2, w2, d2⟩ := r
                      have hbo := HBA.out
                      unfold InB at hbo
                      dsimp only at hbo
                      have hw := walk_bd ts f nx (lv + 1) (partP pt j x.f1) w1 d1 (by omega) (show InB ts nx (nx, w1, d1) by unfold InB; dsimp only; omega)
                      have HIH := Aside0.mk (HI.out nx (lv + 1) 141 #[.pointer (some ⟨fb, 0, none⟩), .pointer (some ⟨ib, 0, none⟩), .pointer (some ⟨xb, 0, none⟩)] (partP pt j x.f1) wr w1 d1 HL.out.c
                        (may_part wr fb ib xb (tx, le, mo, pt) j x HOK.out ⟨by omega, by omega⟩ HL.out.f HL.out.i HL.out.x) (by omega) (show InB ts nx (nx, w1, d1) by unfold InB; dsimp only; omega) (by omega) (by omega) (by omega))
                      rw [← hr] at HIH hw
                      unfold InB at hw
                      dsimp only at hw HIH
                      have hstep : loopP (walkP ts f) pt x.f1 lv (x.f1.toNat - (j + 1)) ((j + 1 : Nat) : Int) n2 w2 d2 = R := by
                        rw [← HRW.out, hj.out.2, show x.f1.toNat - j = (x.f1.toNat - (j + 1)) + 1 by omega]
                        conv => rhs; unfold loopP
                        rw [if_pos hw1, ← hr]
                        rfl
                      have HST := Aside0.mk hstep
                      have HBN : Aside0 (InB ts (at_ + 1) (n2, w2, d2)) := ⟨by unfold InB; dsimp only; omega⟩
                      have hmf : ∀ fn first cap w, (Instr.makeFunc fn first cap).run Try.prog w = .ok (.func fn first cap) w := fun _ _ _ _ => rfl
                      have HHR := Aside0.mk hr
                      clear hr hw hbo hstep
                      go_wp2_with (first
                        | ((with_reducible refine gate_dst (N := 107) rfl ?_); refine goesF_ (some 107) rfl rfl (.tmp 102) #[.pointer (some ⟨T, 0, none⟩), .pointer (some ⟨P, 0, none⟩), .pointer (some ⟨G, 0, none⟩), .pointer (some ⟨D, 0, none⟩), .pointer (some ⟨K, 0, none⟩)] rfl Try.func140 (by kernel_rfl) rfl #[.int .i64 nx, .int .i64 (lv + 1), .func (.func 141) #[] #[.pointer (some ⟨fb, 0, none⟩), .pointer (some ⟨ib, 0, none⟩), .pointer (some ⟨xb, 0, none⟩)], .pointer (some ⟨T, 0, none⟩), .pointer (some ⟨P, 0, none⟩), .pointer (some ⟨G, 0, none⟩), .pointer (some ⟨D, 0, none⟩), .pointer (some ⟨K, 0, none⟩)] rfl (by (try simp only [List.map_toArray, List.map_cons, List.map_nil]); first | done | rfl) ?_; refine HIH.out.mono ?_; rintro e w6 ⟨he, hc6, hk6⟩; subst he; refine ⟨_, rfl, ?_⟩; have HLN := Aside0.mk (HL.out.next hc6 hk6 ((j + 1 : Nat) : Int)); have tiN := (show w6.cell? ⟨ib, 0, none⟩ = some (.int .i64 j) by rw [blk_cell (hk6.blk HL.out.i (by have := HL.out.n; have := HL.out.lt; omega))]; rfl); clear hc6 hk6; skip)
                        | fail)
                      go_roundg (x.f1.toNat - (j + 1))
                      case measure => have := hj.out; omega
                      case rel => exact ⟨j + 1, n2, w2, d2, w6.heap.size, rfl, rfl, ⟨by omega, rfl⟩, HST, HBN, HLN⟩
                    · have e2 : decide (w1 < 0) = false := decide_eq_false hw1
                      have hRE : R = (nx, w1, d1) := by
                        rw [← HRW.out, hj.out.2, show x.f1.toNat - j = (x.f1.toNat - (j + 1)) + 1 by omega]
                        unfold loopP
                        rw [if_neg hw1]
                      have HRE := Aside0.mk hRE
                      clear hRE
                      go_wp2_with (fail)
                      go_ret
                      exact ⟨by rw [HRE.out]; rfl, by rw [HRE.out]; exact HL.out.c, HL.out.k⟩
                  · have e1 : decide ((j : Int) < x.f1) = false := decide_eq_false hjl
                    have hRE : R = (nx, w1, d1) := by
                      rw [← HRW.out, hj.out.2, show x.f1.toNat - j = 0 by omega]
                      rfl
                    have HRE := Aside0.mk hRE
                    clear hRE
                    go_wp2_with (fail)
                    go_ret
                    exact ⟨by rw [HRE.out]; rfl, by rw [HRE.out]; exact HL.out.c, HL.out.k⟩
              · have b7 : decide (40 < lv) = true := decide_eq_true hl
                have b8 : decide (d < 0) = false := decide_eq_false hdd
                have HDE : Aside0 ((if lv > 40 ∧ d < 0 then at_ else d) = d) := ⟨if_neg (fun h => hdd h.2)⟩
                have HDL := Aside0.mk hl
                clear hl hdd
                go_enter Try.func140, Try.ntmps140
                go_wp2_with (first
                  | ((with_reducible refine gate_dst (N := 32) rfl ?_); refine at_look rfl (.tmp 29) (.tmp 31) 190 195 noForm rfl Try.underlying190 zform rfl (HC.out.tab.below (below_alloc (Below.refl _ _) _)) x.f0 rfl hxx0 hxx1 (.agg #[.func (.func tx) #[] #[], .int .i64 le, .int .i64 mo, .func (.func pt) #[] #[]]) true (by rw [HF.out]; rfl) (by rw [HF.out]; rfl) ?_)
                  | ((with_reducible refine gate_dst (N := 41) rfl ?_); (try (refine gate_guard (by rfl) ?_; dsimp only)); refine goesF_ (some 41) rfl rfl (.tmp 38) caps rfl HFN.out.1 HFN.out.2.1 HFN.out.2.2 (#[.int .u8 x.f0] ++ caps) rfl (by (try simp only [List.map_toArray, List.map_cons, List.map_nil]); first | done | rfl) ?_; refine (HM2.out.2 _ x.f0 (Below.refl _ _) hxx0 hxx1).mono ?_; rintro e w3 ⟨he, hd⟩; rw [HMY.out] at he; subst he; refine ⟨_, rfl, ?_⟩; have HB3 := Aside0.mk hd.below; clear hd; have t33 : w3.cell? ⟨W.heap.size, 3, none⟩ = some (.string x.f3) := (by rw [blk_cell (blk_below HQ1.out HB3.out)]; rfl); have u03 : w3.cell? ⟨W.heap.size + 1, 0, none⟩ = some (.func (.func tx) #[] #[]) := (by rw [blk_cell (blk_below HQ2.out HB3.out)]; rfl); skip)
                  | ((with_reducible refine gate_dst (N := 49) rfl ?_); (try (refine gate_guard (by rfl) ?_; dsimp only)); refine goesF_ (some 49) rfl rfl (.tmp 46) #[] rfl HFT.out.1 HFT.out.2.1 HFT.out.2.2 #[.string x.f3] rfl (by (try simp only [List.map_toArray, List.map_cons, List.map_nil]); first | done | rfl) ?_; refine (text_c tx HTX.out x.f3 _).mono ?_; rintro e w4 ⟨he, hd⟩; rw [HTP.out] at he; subst he; refine ⟨_, rfl, ?_⟩; have HB4 := Aside0.mk (below_step HB3.out hd.below); clear hd; have t04 : w4.cell? ⟨W.heap.size, 0, none⟩ = some (.int .u8 x.f0) := (by rw [blk_cell (blk_below HQ1.out HB4.out)]; rfl); have t14 : w4.cell? ⟨W.heap.size, 1, none⟩ = some (.int .i64 x.f1) := (by rw [blk_cell (blk_below HQ1.out HB4.out)]; rfl); have t24 : w4.cell? ⟨W.heap.size, 2, none⟩ = some (.int .i64 x.f2) := (by rw [blk_cell (blk_below HQ1.out HB4.out)]; rfl); have u14 : w4.cell? ⟨W.heap.size + 1, 1, none⟩ = some (.int .i64 le) := (by rw [blk_cell (blk_below HQ2.out HB4.out)]; rfl); have u24 : w4.cell? ⟨W.heap.size + 1, 2, none⟩ = some (.int .i64 mo) := (by rw [blk_cell (blk_below HQ2.out HB4.out)]; rfl); have cp4 : w4.cell? ⟨P, 0, none⟩ = some (.int .i64 w) := (by rw [blk_cell (blk_below HC2.out.p HB4.out)]; rfl); have fp4 := blk_frozen (blk_below HC2.out.p HB4.out) 0; have cd4 : w4.cell? ⟨D, 0, none⟩ = some (.int .i64 d) := (by rw [blk_cell (blk_below HC2.out.d HB4.out)]; rfl); have fd4 := blk_frozen (blk_below HC2.out.d HB4.out) 0; have lP4 : P < w4.heap.size := blk_lt (blk_below HC2.out.p HB4.out); have lX4 : W.heap.size < w4.heap.size := blk_lt (blk_below HQ1.out HB4.out); have lD4 : D < w4.heap.size := blk_lt (blk_below HC2.out.d HB4.out); skip)
                  | fail)
                have HL := Aside0.mk (lo0 HC2.out HQ1.out HQ2.out HB2.out HB4.out lP lD)
                have hRV : loopP (walkP ts f) pt x.f1 lv x.f1.toNat ((0 : Nat) : Int) (at_ + 1) w d = R := by rw [HRV.out, HDE.out]; rfl
                have HBA : Aside0 (InB ts (at_ + 1) (at_ + 1, w, d)) := ⟨by unfold InB; dsimp only; omega⟩
                have HRW := Aside0.mk hRV
                obtain ⟨xb, hxb⟩ : ∃ xb, xb = W.heap.size := ⟨_, rfl⟩
                obtain ⟨fb, hfb⟩ : ∃ fb, fb = xb + 1 := ⟨_, rfl⟩
                obtain ⟨ib, hib⟩ : ∃ ib, ib = w4.heap.size := ⟨_, rfl⟩
                rw [← hib, ← hxb, ← hfb] at HL
                rw [← hib, ← hxb, ← hfb]
                clear hib hfb hxb hRV HB4 t04 t14 t24 u14 u24 cp4 fp4 cd4 fd4 lP4 lX4 lD4 t33 u03 HB3 HQ1 HQ2 HB2 HC2 HM2 c0 cg q0 q1 q2 q3 HRV HR HDE
                go_loopg [15, 16] x.f1.toNat (fun kk v15 v16 wr => ∃ (j : Nat) (nx w1 d1 : Int) (ib : Nat), v15 = .int .i64 nx ∧ v16 = .pointer (some ⟨ib, 0, none⟩) ∧ Aside0 (j ≤ x.f1.toNat ∧ kk = x.f1.toNat - j) ∧ Aside0 (loopP (walkP ts f) pt x.f1 lv kk j nx w1 d1 = R) ∧ Aside0 (InB ts (at_ + 1) (nx, w1, d1)) ∧ Aside0 (Lo T P G D K b m (some ad) c ts W x tx le mo pt xb fb ib j wr w1 d1))
                case atStart => exact ⟨0, at_ + 1, w, d, ib, rfl, rfl, ⟨Nat.zero_le _, rfl⟩, HRW, HBA, HL⟩
                case round =>
                  clear HL HBA HRW ib
                  obtain ⟨j, nx, w1, d1, ib, rfl, rfl, hj, HRW, HBA, HL⟩ := hrel
                  have t11 : wr.cell? ⟨xb, 1, none⟩ = some (.int .i64 x.f1) := by rw [blk_cell HL.out.x]; rfl
                  have ti : wr.cell? ⟨ib, 0, none⟩ = some (.int .i64 j) := by rw [blk_cell HL.out.i]; rfl
                  have tp : wr.cell? ⟨P, 0, none⟩ = some (.int .i64 w1) := by rw [blk_cell HL.out.c.p]; rfl
                  by_cases hjl : (j : Int) < x.f1
                  · have e1 : decide ((j : Int) < x.f1) = true := decide_eq_true hjl
                    by_cases hw1 : w1 < 0
                    · have e2 : decide (w1 < 0) = true := decide_eq_true hw1
                      have tk : wr.cell? ⟨K, 0, none⟩ = some (.func (.func 140) #[] #[.pointer (some ⟨T, 0, none⟩), .pointer (some ⟨P, 0, none⟩), .pointer (some ⟨G, 0, none⟩), .pointer (some ⟨D, 0, none⟩), .pointer (some ⟨K, 0, none⟩)]) := by rw [blk_cell HL.out.c.k]; rfl
                      obtain ⟨r, hr⟩ : ∃ r, r = walkP ts f nx (lv + 1) (partP pt j x.f1) w1 d1 := ⟨_, rfl⟩
                      obtain ⟨n2, w2, d2⟩ := r
                      have hbo := HBA.out
                      unfold InB at hbo
                      dsimp only at hbo
                      have hw := walk_bd ts f nx (lv + 1) (partP pt j x.f1) w1 d1 (by omega) (show InB ts nx (nx, w1, d1) by unfold InB; dsimp only; omega)
                      have HIH := Aside0.mk (HI.out nx (lv + 1) 141 #[.pointer (some ⟨fb, 0, none⟩), .pointer (some ⟨ib, 0, none⟩), .pointer (some ⟨xb, 0, none⟩)] (partP pt j x.f1) wr w1 d1 HL.out.c
                        (may_part wr fb ib xb (tx, le, mo, pt) j x HOK.out ⟨by omega, by omega⟩ HL.out.f HL.out.i HL.out.x) (by omega) (show InB ts nx (nx, w1, d1) by unfold InB; dsimp only; omega) (by omega) (by omega) (by omega))
                      rw [← hr] at HIH hw
                      unfold InB at hw
                      dsimp only at hw HIH
                      have hstep : loopP (walkP ts f) pt x.f1 lv (x.f1.toNat - (j + 1)) ((j + 1 : Nat) : Int) n2 w2 d2 = R := by
                        rw [← HRW.out, hj.out.2, show x.f1.toNat - j = (x.f1.toNat - (j + 1)) + 1 by omega]
                        conv => rhs; unfold loopP
                        rw [if_pos hw1, ← hr]
                        rfl
                      have HST := Aside0.mk hstep
                      have HBN : Aside0 (InB ts (at_ + 1) (n2, w2, d2)) := ⟨by unfold InB; dsimp only; omega⟩
                      have hmf : ∀ fn first cap w, (Instr.makeFunc fn first cap).run Try.prog w = .ok (.func fn first cap) w := fun _ _ _ _ => rfl
                      have HHR := Aside0.mk hr
                      clear hr hw hbo hstep
                      go_wp2_with (first
                        | ((with_reducible refine gate_dst (N := 107) rfl ?_); refine goesF_ (some 107) rfl rfl (.tmp 102) #[.pointer (some ⟨T, 0, none⟩), .pointer (some ⟨P, 0, none⟩), .pointer (some ⟨G, 0, none⟩), .pointer (some ⟨D, 0, none⟩), .pointer (some ⟨K, 0, none⟩)] rfl Try.func140 (by kernel_rfl) rfl #[.int .i64 nx, .int .i64 (lv + 1), .func (.func 141) #[] #[.pointer (some ⟨fb, 0, none⟩), .pointer (some ⟨ib, 0, none⟩), .pointer (some ⟨xb, 0, none⟩)], .pointer (some ⟨T, 0, none⟩), .pointer (some ⟨P, 0, none⟩), .pointer (some ⟨G, 0, none⟩), .pointer (some ⟨D, 0, none⟩), .pointer (some ⟨K, 0, none⟩)] rfl (by (try simp only [List.map_toArray, List.map_cons, List.map_nil]); first | done | rfl) ?_; refine HIH.out.mono ?_; rintro e w6 ⟨he, hc6, hk6⟩; subst he; refine ⟨_, rfl, ?_⟩; have HLN := Aside0.mk (HL.out.next hc6 hk6 ((j + 1 : Nat) : Int)); have tiN := (show w6.cell? ⟨ib, 0, none⟩ = some (.int .i64 j) by rw [blk_cell (hk6.blk HL.out.i (by have := HL.out.n; have := HL.out.lt; omega))]; rfl); clear hc6 hk6; skip)
                        | fail)
                      go_roundg (x.f1.toNat - (j + 1))
                      case measure => have := hj.out; omega
                      case rel => exact ⟨j + 1, n2, w2, d2, w6.heap.size, rfl, rfl, ⟨by omega, rfl⟩, HST, HBN, HLN⟩
                    · have e2 : decide (w1 < 0) = false := decide_eq_false hw1
                      have hRE : R = (nx, w1, d1) := by
                        rw [← HRW.out, hj.out.2, show x.f1.toNat - j = (x.f1.toNat - (j + 1)) + 1 by omega]
                        unfold loopP
                        rw [if_neg hw1]
                      have HRE := Aside0.mk hRE
                      clear hRE
                      go_wp2_with (fail)
                      go_ret
                      exact ⟨by rw [HRE.out]; rfl, by rw [HRE.out]; exact HL.out.c, HL.out.k⟩
                  · have e1 : decide ((j : Int) < x.f1) = false := decide_eq_false hjl
                    have hRE : R = (nx, w1, d1) := by
                      rw [← HRW.out, hj.out.2, show x.f1.toNat - j = 0 by omega]
                      rfl
                    have HRE := Aside0.mk hRE
                    clear hRE
                    go_wp2_with (fail)
                    go_ret
                    exact ⟨by rw [HRE.out]; rfl, by rw [HRE.out]; exact HL.out.c, HL.out.k⟩
              · have b7 : decide (40 < lv) = false := decide_eq_false hl
                have HDE : Aside0 ((if lv > 40 ∧ d < 0 then at_ else d) = d) := ⟨if_neg (fun h => hl h.1)⟩
                have HDL := Aside0.mk hl
                clear hl 
                go_enter Try.func140, Try.ntmps140
                go_wp2_with (first
                  | ((with_reducible refine gate_dst (N := 32) rfl ?_); refine at_look rfl (.tmp 29) (.tmp 31) 190 195 noForm rfl Try.underlying190 zform rfl (HC.out.tab.below (below_alloc (Below.refl _ _) _)) x.f0 rfl hxx0 hxx1 (.agg #[.func (.func tx) #[] #[], .int .i64 le, .int .i64 mo, .func (.func pt) #[] #[]]) true (by rw [HF.out]; rfl) (by rw [HF.out]; rfl) ?_)
                  | ((with_reducible refine gate_dst (N := 41) rfl ?_); (try (refine gate_guard (by rfl) ?_; dsimp only)); refine goesF_ (some 41) rfl rfl (.tmp 38) caps rfl HFN.out.1 HFN.out.2.1 HFN.out.2.2 (#[.int .u8 x.f0] ++ caps) rfl (by (try simp only [List.map_toArray, List.map_cons, List.map_nil]); first | done | rfl) ?_; refine (HM2.out.2 _ x.f0 (Below.refl _ _) hxx0 hxx1).mono ?_; rintro e w3 ⟨he, hd⟩; rw [HMY.out] at he; subst he; refine ⟨_, rfl, ?_⟩; have HB3 := Aside0.mk hd.below; clear hd; have t33 : w3.cell? ⟨W.heap.size, 3, none⟩ = some (.string x.f3) := (by rw [blk_cell (blk_below HQ1.out HB3.out)]; rfl); have u03 : w3.cell? ⟨W.heap.size + 1, 0, none⟩ = some (.func (.func tx) #[] #[]) := (by rw [blk_cell (blk_below HQ2.out HB3.out)]; rfl); skip)
                  | ((with_reducible refine gate_dst (N := 49) rfl ?_); (try (refine gate_guard (by rfl) ?_; dsimp only)); refine goesF_ (some 49) rfl rfl (.tmp 46) #[] rfl HFT.out.1 HFT.out.2.1 HFT.out.2.2 #[.string x.f3] rfl (by (try simp only [List.map_toArray, List.map_cons, List.map_nil]); first | done | rfl) ?_; refine (text_c tx HTX.out x.f3 _).mono ?_; rintro e w4 ⟨he, hd⟩; rw [HTP.out] at he; subst he; refine ⟨_, rfl, ?_⟩; have HB4 := Aside0.mk (below_step HB3.out hd.below); clear hd; have t04 : w4.cell? ⟨W.heap.size, 0, none⟩ = some (.int .u8 x.f0) := (by rw [blk_cell (blk_below HQ1.out HB4.out)]; rfl); have t14 : w4.cell? ⟨W.heap.size, 1, none⟩ = some (.int .i64 x.f1) := (by rw [blk_cell (blk_below HQ1.out HB4.out)]; rfl); have t24 : w4.cell? ⟨W.heap.size, 2, none⟩ = some (.int .i64 x.f2) := (by rw [blk_cell (blk_below HQ1.out HB4.out)]; rfl); have u14 : w4.cell? ⟨W.heap.size + 1, 1, none⟩ = some (.int .i64 le) := (by rw [blk_cell (blk_below HQ2.out HB4.out)]; rfl); have u24 : w4.cell? ⟨W.heap.size + 1, 2, none⟩ = some (.int .i64 mo) := (by rw [blk_cell (blk_below HQ2.out HB4.out)]; rfl); have cp4 : w4.cell? ⟨P, 0, none⟩ = some (.int .i64 w) := (by rw [blk_cell (blk_below HC2.out.p HB4.out)]; rfl); have fp4 := blk_frozen (blk_below HC2.out.p HB4.out) 0; have cd4 : w4.cell? ⟨D, 0, none⟩ = some (.int .i64 d) := (by rw [blk_cell (blk_below HC2.out.d HB4.out)]; rfl); have fd4 := blk_frozen (blk_below HC2.out.d HB4.out) 0; have lP4 : P < w4.heap.size := blk_lt (blk_below HC2.out.p HB4.out); have lX4 : W.heap.size < w4.heap.size := blk_lt (blk_below HQ1.out HB4.out); have lD4 : D < w4.heap.size := blk_lt (blk_below HC2.out.d HB4.out); skip)
                  | fail)
                have HL := Aside0.mk (lo0 HC2.out HQ1.out HQ2.out HB2.out HB4.out lP lD)
                have hRV : loopP (walkP ts f) pt x.f1 lv x.f1.toNat ((0 : Nat) : Int) (at_ + 1) w d = R := by rw [HRV.out, HDE.out]; rfl
                have HBA : Aside0 (InB ts (at_ + 1) (at_ + 1, w, d)) := ⟨by unfold InB; dsimp only; omega⟩
                have HRW := Aside0.mk hRV
                obtain ⟨xb, hxb⟩ : ∃ xb, xb = W.heap.size := ⟨_, rfl⟩
                obtain ⟨fb, hfb⟩ : ∃ fb, fb = xb + 1 := ⟨_, rfl⟩
                obtain ⟨ib, hib⟩ : ∃ ib, ib = w4.heap.size := ⟨_, rfl⟩
                rw [← hib, ← hxb, ← hfb] at HL
                rw [← hib, ← hxb, ← hfb]
                clear hib hfb hxb hRV HB4 t04 t14 t24 u14 u24 cp4 fp4 cd4 fd4 lP4 lX4 lD4 t33 u03 HB3 HQ1 HQ2 HB2 HC2 HM2 c0 cg q0 q1 q2 q3 HRV HR HDE
                go_loopg [15, 16] x.f1.toNat (fun kk v15 v16 wr => ∃ (j : Nat) (nx w1 d1 : Int) (ib : Nat), v15 = .int .i64 nx ∧ v16 = .pointer (some ⟨ib, 0, none⟩) ∧ Aside0 (j ≤ x.f1.toNat ∧ kk = x.f1.toNat - j) ∧ Aside0 (loopP (walkP ts f) pt x.f1 lv kk j nx w1 d1 = R) ∧ Aside0 (InB ts (at_ + 1) (nx, w1, d1)) ∧ Aside0 (Lo T P G D K b m (some ad) c ts W x tx le mo pt xb fb ib j wr w1 d1))
                case atStart => exact ⟨0, at_ + 1, w, d, ib, rfl, rfl, ⟨Nat.zero_le _, rfl⟩, HRW, HBA, HL⟩
                case round =>
                  clear HL HBA HRW ib
                  obtain ⟨j, nx, w1, d1, ib, rfl, rfl, hj, HRW, HBA, HL⟩ := hrel
                  have t11 : wr.cell? ⟨xb, 1, none⟩ = some (.int .i64 x.f1) := by rw [blk_cell HL.out.x]; rfl
                  have ti : wr.cell? ⟨ib, 0, none⟩ = some (.int .i64 j) := by rw [blk_cell HL.out.i]; rfl
                  have tp : wr.cell? ⟨P, 0, none⟩ = some (.int .i64 w1) := by rw [blk_cell HL.out.c.p]; rfl
                  by_cases hjl : (j : Int) < x.f1
                  · have e1 : decide ((j : Int) < x.f1) = true := decide_eq_true hjl
                    by_cases hw1 : w1 < 0
                    · have e2 : decide (w1 < 0) = true := decide_eq_true hw1
                      have tk : wr.cell? ⟨K, 0, none⟩ = some (.func (.func 140) #[] #[.pointer (some ⟨T, 0, none⟩), .pointer (some ⟨P, 0, none⟩), .pointer (some ⟨G, 0, none⟩), .pointer (some ⟨D, 0, none⟩), .pointer (some ⟨K, 0, none⟩)]) := by rw [blk_cell HL.out.c.k]; rfl
                      obtain ⟨r, hr⟩ : ∃ r, r = walkP ts f nx (lv + 1) (partP pt j x.f1) w1 d1 := ⟨_, rfl⟩
                      obtain ⟨n2, w2, d2⟩ := r
                      have hbo := HBA.out
                      unfold InB at hbo
                      dsimp only at hbo
                      have hw := walk_bd ts f nx (lv + 1) (partP pt j x.f1) w1 d1 (by omega) (show InB ts nx (nx, w1, d1) by unfold InB; dsimp only; omega)
                      have HIH := Aside0.mk (HI.out nx (lv + 1) 141 #[.pointer (some ⟨fb, 0, none⟩), .pointer (some ⟨ib, 0, none⟩), .pointer (some ⟨xb, 0, none⟩)] (partP pt j x.f1) wr w1 d1 HL.out.c
                        (may_part wr fb ib xb (tx, le, mo, pt) j x HOK.out ⟨by omega, by omega⟩ HL.out.f HL.out.i HL.out.x) (by omega) (show InB ts nx (nx, w1, d1) by unfold InB; dsimp only; omega) (by omega) (by omega) (by omega))
                      rw [← hr] at HIH hw
                      unfold InB at hw
                      dsimp only at hw HIH
                      have hstep : loopP (walkP ts f) pt x.f1 lv (x.f1.toNat - (j + 1)) ((j + 1 : Nat) : Int) n2 w2 d2 = R := by
                        rw [← HRW.out, hj.out.2, show x.f1.toNat - j = (x.f1.toNat - (j + 1)) + 1 by omega]
                        conv => rhs; unfold loopP
                        rw [if_pos hw1, ← hr]
                        rfl
                      have HST := Aside0.mk hstep
                      have HBN : Aside0 (InB ts (at_ + 1) (n2, w2, d2)) := ⟨by unfold InB; dsimp only; omega⟩
                      have hmf : ∀ fn first cap w, (Instr.makeFunc fn first cap).run Try.prog w = .ok (.func fn first cap) w := fun _ _ _ _ => rfl
                      have HHR := Aside0.mk hr
                      clear hr hw hbo hstep
                      go_wp2_with (first
                        | ((with_reducible refine gate_dst (N := 107) rfl ?_); refine goesF_ (some 107) rfl rfl (.tmp 102) #[.pointer (some ⟨T, 0, none⟩), .pointer (some ⟨P, 0, none⟩), .pointer (some ⟨G, 0, none⟩), .pointer (some ⟨D, 0, none⟩), .pointer (some ⟨K, 0, none⟩)] rfl Try.func140 (by kernel_rfl) rfl #[.int .i64 nx, .int .i64 (lv + 1), .func (.func 141) #[] #[.pointer (some ⟨fb, 0, none⟩), .pointer (some ⟨ib, 0, none⟩), .pointer (some ⟨xb, 0, none⟩)], .pointer (some ⟨T, 0, none⟩), .pointer (some ⟨P, 0, none⟩), .pointer (some ⟨G, 0, none⟩), .pointer (some ⟨D, 0, none⟩), .pointer (some ⟨K, 0, none⟩)] rfl (by (try simp only [List.map_toArray, List.map_cons, List.map_nil]); first | done | rfl) ?_; refine HIH.out.mono ?_; rintro e w6 ⟨he, hc6, hk6⟩; subst he; refine ⟨_, rfl, ?_⟩; have HLN := Aside0.mk (HL.out.next hc6 hk6 ((j + 1 : Nat) : Int)); have tiN := (show w6.cell? ⟨ib, 0, none⟩ = some (.int .i64 j) by rw [blk_cell (hk6.blk HL.out.i (by have := HL.out.n; have := HL.out.lt; omega))]; rfl); clear hc6 hk6; skip)
                        | fail)
                      go_roundg (x.f1.toNat - (j + 1))
                      case measure => have := hj.out; omega
                      case rel => exact ⟨j + 1, n2, w2, d2, w6.heap.size, rfl, rfl, ⟨by omega, rfl⟩, HST, HBN, HLN⟩
                    · have e2 : decide (w1 < 0) = false := decide_eq_false hw1
                      have hRE : R = (nx, w1, d1) := by
                        rw [← HRW.out, hj.out.2, show x.f1.toNat - j = (x.f1.toNat - (j + 1)) + 1 by omega]
                        unfold loopP
                        rw [if_neg hw1]
                      have HRE := Aside0.mk hRE
                      clear hRE
                      go_wp2_with (fail)
                      go_ret
                      exact ⟨by rw [HRE.out]; rfl, by rw [HRE.out]; exact HL.out.c, HL.out.k⟩
                  · have e1 : decide ((j : Int) < x.f1) = false := decide_eq_false hjl
                    have hRE : R = (nx, w1, d1) := by
                      rw [← HRW.out, hj.out.2, show x.f1.toNat - j = 0 by omega]
                      rfl
                    have HRE := Aside0.mk hRE
                    clear hRE
                    go_wp2_with (fail)
                    go_ret
                    exact ⟨by rw [HRE.out]; rfl, by rw [HRE.out]; exact HL.out.c, HL.out.k⟩
            · have b3 : (x.f0 != 23) = true := by simpa using hd3
              by_cases hd4 : x.f2 = 0
              · have b4 : (x.f2 != 0) = false := by rw [hd4]; rfl
                have b5 : decide (x.f2 < 0) = false := decide_eq_false (by omega)
                have hbad : badP (tx, le, mo, pt) may x = false := by unfold badP; rw [show textP (tx, le, mo, pt).1 x.f3 = true from HTP.out, HMY.out]; simp only [Bool.not_true, Bool.false_or]; rw [b1, show decide (x.f1 > mo) = false from b2, b3, b4, b5]; rfl
                have hRv : R = loopP (walkP ts f) pt x.f1 lv x.f1.toNat 0 (at_ + 1) w (if lv > 40 ∧ d < 0 then at_ else d) := by rw [HR.out, if_neg (by rw [hbad]; decide)]
                have HRV := Aside0.mk hRv
                have HD34 := Aside0.mk hd4
                have hn : 0 ≤ x.f1 ∧ x.f1 ≤ 2048 := by have := HMO.out; omega
                have hn0 := hn.1
                have hn1 := hn.2
                clear hbad hRv hd3 hd4 hn
                rcases (show 40 < lv ∧ d < 0 ∨ 40 < lv ∧ ¬ d < 0 ∨ ¬ 40 < lv by omega) with ⟨hl, hdd⟩ | ⟨hl, hdd⟩ | hl
                · have b7 : decide (40 < lv) = true := decide_eq_true hl
                  have b8 : decide (d < 0) = true := decide_eq_true hdd
                  have HDE : Aside0 ((if lv > 40 ∧ d < 0 then at_ else d) = at_) := ⟨if_pos ⟨hl, hdd⟩⟩
                  have HDL := Aside0.mk hl
                  clear hl hdd
                  go_enter Try.func140, Try.ntmps140
                  go_wp2_with (first
                    | ((with_reducible refine gate_dst (N := 32) rfl ?_); refine at_look rfl (.tmp 29) (.tmp 31) 190 195 noForm rfl Try.underlying190 zform rfl (HC.out.tab.below (below_alloc (Below.refl _ _) _)) x.f0 rfl hxx0 hxx1 (.agg #[.func (.func tx) #[] #[], .int .i64 le, .int .i64 mo, .func (.func pt) #[] #[]]) true (by rw [HF.out]; rfl) (by rw [HF.out]; rfl) ?_)
                    | ((with_reducible refine gate_dst (N := 41) rfl ?_); (try (refine gate_guard (by rfl) ?_; dsimp only)); refine goesF_ (some 41) rfl rfl (.tmp 38) caps rfl HFN.out.1 HFN.out.2.1 HFN.out.2.2 (#[.int .u8 x.f0] ++ caps) rfl (by (try simp only [List.map_toArray, List.map_cons, List.map_nil]); first | done | rfl) ?_; refine (HM2.out.2 _ x.f0 (Below.refl _ _) hxx0 hxx1).mono ?_; rintro e w3 ⟨he, hd⟩; rw [HMY.out] at he; subst he; refine ⟨_, rfl, ?_⟩; have HB3 := Aside0.mk hd.below; clear hd; have t33 : w3.cell? ⟨W.heap.size, 3, none⟩ = some (.string x.f3) := (by rw [blk_cell (blk_below HQ1.out HB3.out)]; rfl); have u03 : w3.cell? ⟨W.heap.size + 1, 0, none⟩ = some (.func (.func tx) #[] #[]) := (by rw [blk_cell (blk_below HQ2.out HB3.out)]; rfl); skip)
                    | ((with_reducible refine gate_dst (N := 49) rfl ?_); (try (refine gate_guard (by rfl) ?_; dsimp only)); refine goesF_ (some 49) rfl rfl (.tmp 46) #[] rfl HFT.out.1 HFT.out.2.1 HFT.out.2.2 #[.string x.f3] rfl (by (try simp only [List.map_toArray, List.map_cons, List.map_nil]); first | done | rfl) ?_; refine (text_c tx HTX.out x.f3 _).mono ?_; rintro e w4 ⟨he, hd⟩; rw [HTP.out] at he; subst he; refine ⟨_, rfl, ?_⟩; have HB4 := Aside0.mk (below_step HB3.out hd.below); clear hd; have t04 : w4.cell? ⟨W.heap.size, 0, none⟩ = some (.int .u8 x.f0) := (by rw [blk_cell (blk_below HQ1.out HB4.out)]; rfl); have t14 : w4.cell? ⟨W.heap.size, 1, none⟩ = some (.int .i64 x.f1) := (by rw [blk_cell (blk_below HQ1.out HB4.out)]; rfl); have t24 : w4.cell? ⟨W.heap.size, 2, none⟩ = some (.int .i64 x.f2) := (by rw [blk_cell (blk_below HQ1.out HB4.out)]; rfl); have u14 : w4.cell? ⟨W.heap.size + 1, 1, none⟩ = some (.int .i64 le) := (by rw [blk_cell (blk_below HQ2.out HB4.out)]; rfl); have u24 : w4.cell? ⟨W.heap.size + 1, 2, none⟩ = some (.int .i64 mo) := (by rw [blk_cell (blk_below HQ2.out HB4.out)]; rfl); have cp4 : w4.cell? ⟨P, 0, none⟩ = some (.int .i64 w) := (by rw [blk_cell (blk_below HC2.out.p HB4.out)]; rfl); have fp4 := blk_frozen (blk_below HC2.out.p HB4.out) 0; have cd4 : w4.cell? ⟨D, 0, none⟩ = some (.int .i64 d) := (by rw [blk_cell (blk_below HC2.out.d HB4.out)]; rfl); have fd4 := blk_frozen (blk_below HC2.out.d HB4.out) 0; have lP4 : P < w4.heap.size := blk_lt (blk_below HC2.out.p HB4.out); have lX4 : W.heap.size < w4.heap.size := blk_lt (blk_below HQ1.out HB4.out); have lD4 : D < w4.heap.size := blk_lt (blk_below HC2.out.d HB4.out); skip)
                    | fail)
                  have HL := Aside0.mk (loD HC2.out HQ1.out HQ2.out HB2.out HB4.out lP lD at_)
                  have hRV : loopP (walkP ts f) pt x.f1 lv x.f1.toNat ((0 : Nat) : Int) (at_ + 1) w at_ = R := by rw [HRV.out, HDE.out]; rfl
                  have HBA : Aside0 (InB ts (at_ + 1) (at_ + 1, w, at_)) := ⟨by unfold InB; dsimp only; omega⟩
                  have HRW := Aside0.mk hRV
                  obtain ⟨xb, hxb⟩ : ∃ xb, xb = W.heap.size := ⟨_, rfl⟩
                  obtain ⟨fb, hfb⟩ : ∃ fb, fb = xb + 1 := ⟨_, rfl⟩
                  obtain ⟨ib, hib⟩ : ∃ ib, ib = w4.heap.size := ⟨_, rfl⟩
                  rw [← hib, ← hxb, ← hfb] at HL
                  rw [← hib, ← hxb, ← hfb]
                  clear hib hfb hxb hRV HB4 t04 t14 t24 u14 u24 cp4 fp4 cd4 fd4 lP4 lX4 lD4 t33 u03 HB3 HQ1 HQ2 HB2 HC2 HM2 c0 cg q0 q1 q2 q3 HRV HR HDE
                  go_loopg [15, 16] x.f1.toNat (fun kk v15 v16 wr => ∃ (j : Nat) (nx w1 d1 : Int) (ib : Nat), v15 = .int .i64 nx ∧ v16 = .pointer (some ⟨ib, 0, none⟩) ∧ Aside0 (j ≤ x.f1.toNat ∧ kk = x.f1.toNat - j) ∧ Aside0 (loopP (walkP ts f) pt x.f1 lv kk j nx w1 d1 = R) ∧ Aside0 (InB ts (at_ + 1) (nx, w1, d1)) ∧ Aside0 (Lo T P G D K b m (some ad) c ts W x tx le mo pt xb fb ib j wr w1 d1))
                  case atStart => exact ⟨0, at_ + 1, w, at_, ib, rfl, rfl, ⟨Nat.zero_le _, rfl⟩, HRW, HBA, HL⟩
                  case round =>
                    clear HL HBA HRW ib
                    obtain ⟨j, nx, w1, d1, ib, rfl, rfl, hj, HRW, HBA, HL⟩ := hrel
                    have t11 : wr.cell? ⟨xb, 1, none⟩ = some (.int .i64 x.f1) := by rw [blk_cell HL.out.x]; rfl
                    have ti : wr.cell? ⟨ib, 0, none⟩ = some (.int .i64 j) := by rw [blk_cell HL.out.i]; rfl
                    have tp : wr.cell? ⟨P, 0, none⟩ = some (.int .i64 w1) := by rw [blk_cell HL.out.c.p]; rfl
                    by_cases hjl : (j : Int) < x.f1
                    · have e1 : decide ((j : Int) < x.f1) = true := decide_eq_true hjl
                      by_cases hw1 : w1 < 0
                      · have e2 : decide (w1 < 0) = true := decide_eq_true hw1
                        have tk : wr.cell? ⟨K, 0, none⟩ = some (.func (.func 140) #[] #[.pointer (some ⟨T, 0, none⟩), .pointer (some ⟨P, 0, none⟩), .pointer (some ⟨G, 0, none⟩), .pointer (some ⟨D, 0, none⟩), .pointer (some ⟨K, 0, none⟩)]) := by rw [blk_cell HL.out.c.k]; rfl
                        obtain ⟨r, hr⟩ : ∃ r, r = walkP ts f nx (lv + 1) (partP pt j x.f1) w1 d1 := ⟨_, rfl⟩
                        obtain ⟨n2, w2, d2⟩ := r
                        have hbo := HBA.out
                        unfold InB at hbo
                        dsimp only at hbo
                        have hw := walk_bd ts f nx (lv + 1) (partP pt j x.f1) w1 d1 (by omega) (show InB ts nx (nx, w1, d1) by unfold InB; dsimp only; omega)
                        have HIH := Aside0.mk (HI.out nx (lv + 1) 141 #[.pointer (some ⟨fb, 0, none⟩), .pointer (some ⟨ib, 0, none⟩), .pointer (some ⟨xb, 0, none⟩)] (partP pt j x.f1) wr w1 d1 HL.out.c
                          (may_part wr fb ib xb (tx, le, mo, pt) j x HOK.out ⟨by omega, by omega⟩ HL.out.f HL.out.i HL.out.x) (by omega) (show InB ts nx (nx, w1, d1) by unfold InB; dsimp only; omega) (by omega) (by omega) (by omega))
                        rw [← hr] at HIH hw
                        unfold InB at hw
                        dsimp only at hw HIH
                        have hstep : loopP (walkP ts f) pt x.f1 lv (x.f1.toNat - (j + 1)) ((j + 1 : Nat) : Int) n2 w2 d2 = R := by
                          rw [← HRW.out, hj.out.2, show x.f1.toNat - j = (x.f1.toNat - (j + 1)) + 1 by omega]
                          conv => rhs; unfold loopP
                          rw [if_pos hw1, ← hr]
                          rfl
                        have HST := Aside0.mk hstep
                        have HBN : Aside0 (InB ts (at_ + 1) (n2, w2, d2)) := ⟨by unfold InB; dsimp only; omega⟩
                        have hmf : ∀ fn first cap w, (Instr.makeFunc fn first cap).run Try.prog w = .ok (.func fn first cap) w := fun _ _ _ _ => rfl
                        have HHR := Aside0.mk hr
                        clear hr hw hbo hstep
                        go_wp2_with (first
                          | ((with_reducible refine gate_dst (N := 107) rfl ?_); refine goesF_ (some 107) rfl rfl (.tmp 102) #[.pointer (some ⟨T, 0, none⟩), .pointer (some ⟨P, 0, none⟩), .pointer (some ⟨G, 0, none⟩), .pointer (some ⟨D, 0, none⟩), .pointer (some ⟨K, 0, none⟩)] rfl Try.func140 (by kernel_rfl) rfl #[.int .i64 nx, .int .i64 (lv + 1), .func (.func 141) #[] #[.pointer (some ⟨fb, 0, none⟩), .pointer (some ⟨ib, 0, none⟩), .pointer (some ⟨xb, 0, none⟩)], .pointer (some ⟨T, 0, none⟩), .pointer (some ⟨P, 0, none⟩), .pointer (some ⟨G, 0, none⟩), .pointer (some ⟨D, 0, none⟩), .pointer (some ⟨K, 0, none⟩)] rfl (by (try simp only [List.map_toArray, List.map_cons, List.map_nil]); first | done | rfl) ?_; refine HIH.out.mono ?_; rintro e w6 ⟨he, hc6, hk6⟩; subst he; refine ⟨_, rfl, ?_⟩; have HLN := Aside0.mk (HL.out.next hc6 hk6 ((j + 1 : Nat) : Int)); have tiN := (show w6.cell? ⟨ib, 0, none⟩ = some (.int .i64 j) by rw [blk_cell (hk6.blk HL.out.i (by have := HL.out.n; have := HL.out.lt; omega))]; rfl); clear hc6 hk6; skip)
                          | fail)
                        go_roundg (x.f1.toNat - (j + 1))
                        case measure => have := hj.out; omega
                        case rel => exact ⟨j + 1, n2, w2, d2, w6.heap.size, rfl, rfl, ⟨by omega, rfl⟩, HST, HBN, HLN⟩
                      · have e2 : decide (w1 < 0) = false := decide_eq_false hw1
                        have hRE : R = (nx, w1, d1) := by
                          rw [← HRW.out, hj.out.2, show x.f1.toNat - j = (x.f1.toNat - (j + 1)) + 1 by omega]
                          unfold loopP
                          rw [if_neg hw1]
                        have HRE := Aside0.mk hRE
                        clear hRE
                        go_wp2_with (fail)
                        go_ret
                        exact ⟨by rw [HRE.out]; rfl, by rw [HRE.out]; exact HL.out.c, HL.out.k⟩
                    · have e1 : decide ((j : Int) < x.f1) = false := decide_eq_false hjl
                      have hRE : R = (nx, w1, d1) := by
                        rw [← HRW.out, hj.out.2, show x.f1.toNat - j = 0 by omega]
                        rfl
                      have HRE := Aside0.mk hRE
                      clear hRE
                      go_wp2_with (fail)
                      go_ret
                      exact ⟨by rw [HRE.out]; rfl, by rw [HRE.out]; exact HL.out.c, HL.out.k⟩
                · have b7 : decide (40 < lv) = true := decide_eq_true hl
                  have b8 : decide (d < 0) = false := decide_eq_false hdd
                  have HDE : Aside0 ((if lv > 40 ∧ d < 0 then at_ else d) = d) := ⟨if_neg (fun h => hdd h.2)⟩
                  have HDL := Aside0.mk hl
                  clear hl hdd
                  go_enter Try.func140, Try.ntmps140
                  go_wp2_with (first
                    | ((with_reducible refine gate_dst (N := 32) rfl ?_); refine at_look rfl (.tmp 29) (.tmp 31) 190 195 noForm rfl Try.underlying190 zform rfl (HC.out.tab.below (below_alloc (Below.refl _ _) _)) x.f0 rfl hxx0 hxx1 (.agg #[.func (.func tx) #[] #[], .int .i64 le, .int .i64 mo, .func (.func pt) #[] #[]]) true (by rw [HF.out]; rfl) (by rw [HF.out]; rfl) ?_)
                    | ((with_reducible refine gate_dst (N := 41) rfl ?_); (try (refine gate_guard (by rfl) ?_; dsimp only)); refine goesF_ (some 41) rfl rfl (.tmp 38) caps rfl HFN.out.1 HFN.out.2.1 HFN.out.2.2 (#[.int .u8 x.f0] ++ caps) rfl (by (try simp only [List.map_toArray, List.map_cons, List.map_nil]); first | done | rfl) ?_; refine (HM2.out.2 _ x.f0 (Below.refl _ _) hxx0 hxx1).mono ?_; rintro e w3 ⟨he, hd⟩; rw [HMY.out] at he; subst he; refine ⟨_, rfl, ?_⟩; have HB3 := Aside0.mk hd.below; clear hd; have t33 : w3.cell? ⟨W.heap.size, 3, none⟩ = some (.string x.f3) := (by rw [blk_cell (blk_below HQ1.out HB3.out)]; rfl); have u03 : w3.cell? ⟨W.heap.size + 1, 0, none⟩ = some (.func (.func tx) #[] #[]) := (by rw [blk_cell (blk_below HQ2.out HB3.out)]; rfl); skip)
                    | ((with_reducible refine gate_dst (N := 49) rfl ?_); (try (refine gate_guard (by rfl) ?_; dsimp only)); refine goesF_ (some 49) rfl rfl (.tmp 46) #[] rfl HFT.out.1 HFT.out.2.1 HFT.out.2.2 #[.string x.f3] rfl (by (try simp only [List.map_toArray, List.map_cons, List.map_nil]); first | done | rfl) ?_; refine (text_c tx HTX.out x.f3 _).mono ?_; rintro e w4 ⟨he, hd⟩; rw [HTP.out] at he; subst he; refine ⟨_, rfl, ?_⟩; have HB4 := Aside0.mk (below_step HB3.out hd.below); clear hd; have t04 : w4.cell? ⟨W.heap.size, 0, none⟩ = some (.int .u8 x.f0) := (by rw [blk_cell (blk_below HQ1.out HB4.out)]; rfl); have t14 : w4.cell? ⟨W.heap.size, 1, none⟩ = some (.int .i64 x.f1) := (by rw [blk_cell (blk_below HQ1.out HB4.out)]; rfl); have t24 : w4.cell? ⟨W.heap.size, 2, none⟩ = some (.int .i64 x.f2) := (by rw [blk_cell (blk_below HQ1.out HB4.out)]; rfl); have u14 : w4.cell? ⟨W.heap.size + 1, 1, none⟩ = some (.int .i64 le) := (by rw [blk_cell (blk_below HQ2.out HB4.out)]; rfl); have u24 : w4.cell? ⟨W.heap.size + 1, 2, none⟩ = some (.int .i64 mo) := (by rw [blk_cell (blk_below HQ2.out HB4.out)]; rfl); have cp4 : w4.cell? ⟨P, 0, none⟩ = some (.int .i64 w) := (by rw [blk_cell (blk_below HC2.out.p HB4.out)]; rfl); have fp4 := blk_frozen (blk_below HC2.out.p HB4.out) 0; have cd4 : w4.cell? ⟨D, 0, none⟩ = some (.int .i64 d) := (by rw [blk_cell (blk_below HC2.out.d HB4.out)]; rfl); have fd4 := blk_frozen (blk_below HC2.out.d HB4.out) 0; have lP4 : P < w4.heap.size := blk_lt (blk_below HC2.out.p HB4.out); have lX4 : W.heap.size < w4.heap.size := blk_lt (blk_below HQ1.out HB4.out); have lD4 : D < w4.heap.size := blk_lt (blk_below HC2.out.d HB4.out); skip)
                    | fail)
                  have HL := Aside0.mk (lo0 HC2.out HQ1.out HQ2.out HB2.out HB4.out lP lD)
                  have hRV : loopP (walkP ts f) pt x.f1 lv x.f1.toNat ((0 : Nat) : Int) (at_ + 1) w d = R := by rw [HRV.out, HDE.out]; rfl
                  have HBA : Aside0 (InB ts (at_ + 1) (at_ + 1, w, d)) := ⟨by unfold InB; dsimp only; omega⟩
                  have HRW := Aside0.mk hRV
                  obtain ⟨xb, hxb⟩ : ∃ xb, xb = W.heap.size := ⟨_, rfl⟩
                  obtain ⟨fb, hfb⟩ : ∃ fb, fb = xb + 1 := ⟨_, rfl⟩
                  obtain ⟨ib, hib⟩ : ∃ ib, ib = w4.heap.size := ⟨_, rfl⟩
                  rw [← hib, ← hxb, ← hfb] at HL
                  rw [← hib, ← hxb, ← hfb]
                  clear hib hfb hxb hRV HB4 t04 t14 t24 u14 u24 cp4 fp4 cd4 fd4 lP4 lX4 lD4 t33 u03 HB3 HQ1 HQ2 HB2 HC2 HM2 c0 cg q0 q1 q2 q3 HRV HR HDE
                  go_loopg [15, 16] x.f1.toNat (fun kk v15 v16 wr => ∃ (j : Nat) (nx w1 d1 : Int) (ib : Nat), v15 = .int .i64 nx ∧ v16 = .pointer (some ⟨ib, 0, none⟩) ∧ Aside0 (j ≤ x.f1.toNat ∧ kk = x.f1.toNat - j) ∧ Aside0 (loopP (walkP ts f) pt x.f1 lv kk j nx w1 d1 = R) ∧ Aside0 (InB ts (at_ + 1) (nx, w1, d1)) ∧ Aside0 (Lo T P G D K b m (some ad) c ts W x tx le mo pt xb fb ib j wr w1 d1))
                  case atStart => exact ⟨0, at_ + 1, w, d, ib, rfl, rfl, ⟨Nat.zero_le _, rfl⟩, HRW, HBA, HL⟩
                  case round =>
                    clear HL HBA HRW ib
                    obtain ⟨j, nx, w1, d1, ib, rfl, rfl, hj, HRW, HBA, HL⟩ := hrel
                    have t11 : wr.cell? ⟨xb, 1, none⟩ = some (.int .i64 x.f1) := by rw [blk_cell HL.out.x]; rfl
                    have ti : wr.cell? ⟨ib, 0, none⟩ = some (.int .i64 j) := by rw [blk_cell HL.out.i]; rfl
                    have tp : wr.cell? ⟨P, 0, none⟩ = some (.int .i64 w1) := by rw [blk_cell HL.out.c.p]; rfl
                    by_cases hjl : (j : Int) < x.f1
                    · have e1 : decide ((j : Int) < x.f1) = true := decide_eq_true hjl
                      by_cases hw1 : w1 < 0
                      · have e2 : decide (w1 < 0) = true := decide_eq_true hw1
                        have tk : wr.cell? ⟨K, 0, none⟩ = some (.func (.func 140) #[] #[.pointer (some ⟨T, 0, none⟩), .pointer (some ⟨P, 0, none⟩), .pointer (some ⟨G, 0, none⟩), .pointer (some ⟨D, 0, none⟩), .pointer (some ⟨K, 0, none⟩)]) := by rw [blk_cell HL.out.c.k]; rfl
                        obtain ⟨r, hr⟩ : ∃ r, r = walkP ts f nx (lv + 1) (partP pt j x.f1) w1 d1 := ⟨_, rfl⟩
                        obtain ⟨n2, w2, d2⟩ := r
                        have hbo := HBA.out
                        unfold InB at hbo
                        dsimp only at hbo
                        have hw := walk_bd ts f nx (lv + 1) (partP pt j x.f1) w1 d1 (by omega) (show InB ts nx (nx, w1, d1) by unfold InB; dsimp only; omega)
                        have HIH := Aside0.mk (HI.out nx (lv + 1) 141 #[.pointer (some ⟨fb, 0, none⟩), .pointer (some ⟨ib, 0, none⟩), .pointer (some ⟨xb, 0, none⟩)] (partP pt j x.f1) wr w1 d1 HL.out.c
                          (may_part wr fb ib xb (tx, le, mo, pt) j x HOK.out ⟨by omega, by omega⟩ HL.out.f HL.out.i HL.out.x) (by omega) (show InB ts nx (nx, w1, d1) by unfold InB; dsimp only; omega) (by omega) (by omega) (by omega))
                        rw [← hr] at HIH hw
                        unfold InB at hw
                        dsimp only at hw HIH
                        have hstep : loopP (walkP ts f) pt x.f1 lv (x.f1.toNat - (j + 1)) ((j + 1 : Nat) : Int) n2 w2 d2 = R := by
                          rw [← HRW.out, hj.out.2, show x.f1.toNat - j = (x.f1.toNat - (j + 1)) + 1 by omega]
                          conv => rhs; unfold loopP
                          rw [if_pos hw1, ← hr]
                          rfl
                        have HST := Aside0.mk hstep
                        have HBN : Aside0 (InB ts (at_ + 1) (n2, w2, d2)) := ⟨by unfold InB; dsimp only; omega⟩
                        have hmf : ∀ fn first cap w, (Instr.makeFunc fn first cap).run Try.prog w = .ok (.func fn first cap) w := fun _ _ _ _ => rfl
                        have HHR := Aside0.mk hr
                        clear hr hw hbo hstep
                        go_wp2_with (first
                          | ((with_reducible refine gate_dst (N := 107) rfl ?_); refine goesF_ (some 107) rfl rfl (.tmp 102) #[.pointer (some ⟨T, 0, none⟩), .pointer (some ⟨P, 0, none⟩), .pointer (some ⟨G, 0, none⟩), .pointer (some ⟨D, 0, none⟩), .pointer (some ⟨K, 0, none⟩)] rfl Try.func140 (by kernel_rfl) rfl #[.int .i64 nx, .int .i64 (lv + 1), .func (.func 141) #[] #[.pointer (some ⟨fb, 0, none⟩), .pointer (some ⟨ib, 0, none⟩), .pointer (some ⟨xb, 0, none⟩)], .pointer (some ⟨T, 0, none⟩), .pointer (some ⟨P, 0, none⟩), .pointer (some ⟨G, 0, none⟩), .pointer (some ⟨D, 0, none⟩), .pointer (some ⟨K, 0, none⟩)] rfl (by (try simp only [List.map_toArray, List.map_cons, List.map_nil]); first | done | rfl) ?_; refine HIH.out.mono ?_; rintro e w6 ⟨he, hc6, hk6⟩; subst he; refine ⟨_, rfl, ?_⟩; have HLN := Aside0.mk (HL.out.next hc6 hk6 ((j + 1 : Nat) : Int)); have tiN := (show w6.cell? ⟨ib, 0, none⟩ = some (.int .i64 j) by rw [blk_cell (hk6.blk HL.out.i (by have := HL.out.n; have := HL.out.lt; omega))]; rfl); clear hc6 hk6; skip)
                          | fail)
                        go_roundg (x.f1.toNat - (j + 1))
                        case measure => have := hj.out; omega
                        case rel => exact ⟨j + 1, n2, w2, d2, w6.heap.size, rfl, rfl, ⟨by omega, rfl⟩, HST, HBN, HLN⟩
                      · have e2 : decide (w1 < 0) = false := decide_eq_false hw1
                        have hRE : R = (nx, w1, d1) := by
                          rw [← HRW.out, hj.out.2, show x.f1.toNat - j = (x.f1.toNat - (j + 1)) + 1 by omega]
                          unfold loopP
                          rw [if_neg hw1]
                        have HRE := Aside0.mk hRE
                        clear hRE
                        go_wp2_with (fail)
                        go_ret
                        exact ⟨by rw [HRE.out]; rfl, by rw [HRE.out]; exact HL.out.c, HL.out.k⟩
                    · have e1 : decide ((j : Int) < x.f1) = false := decide_eq_false hjl
                      have hRE : R = (nx, w1, d1) := by
                        rw [← HRW.out, hj.out.2, show x.f1.toNat - j = 0 by omega]
                        rfl
                      have HRE := Aside0.mk hRE
                      clear hRE
                      go_wp2_with (fail)
                      go_ret
                      exact ⟨by rw [HRE.out]; rfl, by rw [HRE.out]; exact HL.out.c, HL.out.k⟩
                · have b7 : decide (40 < lv) = false := decide_eq_false hl
                  have HDE : Aside0 ((if lv > 40 ∧ d < 0 then at_ else d) = d) := ⟨if_neg (fun h => hl h.1)⟩
                  have HDL := Aside0.mk hl
                  clear hl 
                  go_enter Try.func140, Try.ntmps140
                  go_wp2_with (first
                    | ((with_reducible refine gate_dst (N := 32) rfl ?_); refine at_look rfl (.tmp 29) (.tmp 31) 190 195 noForm rfl Try.underlying190 zform rfl (HC.out.tab.below (below_alloc (Below.refl _ _) _)) x.f0 rfl hxx0 hxx1 (.agg #[.func (.func tx) #[] #[], .int .i64 le, .int .i64 mo, .func (.func pt) #[] #[]]) true (by rw [HF.out]; rfl) (by rw [HF.out]; rfl) ?_)
                    | ((with_reducible refine gate_dst (N := 41) rfl ?_); (try (refine gate_guard (by rfl) ?_; dsimp only)); refine goesF_ (some 41) rfl rfl (.tmp 38) caps rfl HFN.out.1 HFN.out.2.1 HFN.out.2.2 (#[.int .u8 x.f0] ++ caps) rfl (by (try simp only [List.map_toArray, List.map_cons, List.map_nil]); first | done | rfl) ?_; refine (HM2.out.2 _ x.f0 (Below.refl _ _) hxx0 hxx1).mono ?_; rintro e w3 ⟨he, hd⟩; rw [HMY.out] at he; subst he; refine ⟨_, rfl, ?_⟩; have HB3 := Aside0.mk hd.below; clear hd; have t33 : w3.cell? ⟨W.heap.size, 3, none⟩ = some (.string x.f3) := (by rw [blk_cell (blk_below HQ1.out HB3.out)]; rfl); have u03 : w3.cell? ⟨W.heap.size + 1, 0, none⟩ = some (.func (.func tx) #[] #[]) := (by rw [blk_cell (blk_below HQ2.out HB3.out)]; rfl); skip)
                    | ((with_reducible refine gate_dst (N := 49) rfl ?_); (try (refine gate_guard (by rfl) ?_; dsimp only)); refine goesF_ (some 49) rfl rfl (.tmp 46) #[] rfl HFT.out.1 HFT.out.2.1 HFT.out.2.2 #[.string x.f3] rfl (by (try simp only [List.map_toArray, List.map_cons, List.map_nil]); first | done | rfl) ?_; refine (text_c tx HTX.out x.f3 _).mono ?_; rintro e w4 ⟨he, hd⟩; rw [HTP.out] at he; subst he; refine ⟨_, rfl, ?_⟩; have HB4 := Aside0.mk (below_step HB3.out hd.below); clear hd; have t04 : w4.cell? ⟨W.heap.size, 0, none⟩ = some (.int .u8 x.f0) := (by rw [blk_cell (blk_below HQ1.out HB4.out)]; rfl); have t14 : w4.cell? ⟨W.heap.size, 1, none⟩ = some (.int .i64 x.f1) := (by rw [blk_cell (blk_below HQ1.out HB4.out)]; rfl); have t24 : w4.cell? ⟨W.heap.size, 2, none⟩ = some (.int .i64 x.f2) := (by rw [blk_cell (blk_below HQ1.out HB4.out)]; rfl); have u14 : w4.cell? ⟨W.heap.size + 1, 1, none⟩ = some (.int .i64 le) := (by rw [blk_cell (blk_below HQ2.out HB4.out)]; rfl); have u24 : w4.cell? ⟨W.heap.size + 1, 2, none⟩ = some (.int .i64 mo) := (by rw [blk_cell (blk_below HQ2.out HB4.out)]; rfl); have cp4 : w4.cell? ⟨P, 0, none⟩ = some (.int .i64 w) := (by rw [blk_cell (blk_below HC2.out.p HB4.out)]; rfl); have fp4 := blk_frozen (blk_below HC2.out.p HB4.out) 0; have cd4 : w4.cell? ⟨D, 0, none⟩ = some (.int .i64 d) := (by rw [blk_cell (blk_below HC2.out.d HB4.out)]; rfl); have fd4 := blk_frozen (blk_below HC2.out.d HB4.out) 0; have lP4 : P < w4.heap.size := blk_lt (blk_below HC2.out.p HB4.out); have lX4 : W.heap.size < w4.heap.size := blk_lt (blk_below HQ1.out HB4.out); have lD4 : D < w4.heap.size := blk_lt (blk_below HC2.out.d HB4.out); skip)
                    | fail)
                  have HL := Aside0.mk (lo0 HC2.out HQ1.out HQ2.out HB2.out HB4.out lP lD)
                  have hRV : loopP (walkP ts f) pt x.f1 lv x.f1.toNat ((0 : Nat) : Int) (at_ + 1) w d = R := by rw [HRV.out, HDE.out]; rfl
                  have HBA : Aside0 (InB ts (at_ + 1) (at_ + 1, w, d)) := ⟨by unfold InB; dsimp only; omega⟩
                  have HRW := Aside0.mk hRV
                  obtain ⟨xb, hxb⟩ : ∃ xb, xb = W.heap.size := ⟨_, rfl⟩
                  obtain ⟨fb, hfb⟩ : ∃ fb, fb = xb + 1 := ⟨_, rfl⟩
                  obtain ⟨ib, hib⟩ : ∃ ib, ib = w4.heap.size := ⟨_, rfl⟩
                  rw [← hib, ← hxb, ← hfb] at HL
                  rw [← hib, ← hxb, ← hfb]
                  clear hib hfb hxb hRV HB4 t04 t14 t24 u14 u24 cp4 fp4 cd4 fd4 lP4 lX4 lD4 t33 u03 HB3 HQ1 HQ2 HB2 HC2 HM2 c0 cg q0 q1 q2 q3 HRV HR HDE
                  go_loopg [15, 16] x.f1.toNat (fun kk v15 v16 wr => ∃ (j : Nat) (nx w1 d1 : Int) (ib : Nat), v15 = .int .i64 nx ∧ v16 = .pointer (some ⟨ib, 0, none⟩) ∧ Aside0 (j ≤ x.f1.toNat ∧ kk = x.f1.toNat - j) ∧ Aside0 (loopP (walkP ts f) pt x.f1 lv kk j nx w1 d1 = R) ∧ Aside0 (InB ts (at_ + 1) (nx, w1, d1)) ∧ Aside0 (Lo T P G D K b m (some ad) c ts W x tx le mo pt xb fb ib j wr w1 d1))
                  case atStart => exact ⟨0, at_ + 1, w, d, ib, rfl, rfl, ⟨Nat.zero_le _, rfl⟩, HRW, HBA, HL⟩
                  case round =>
                    clear HL HBA HRW ib
                    obtain ⟨j, nx, w1, d1, ib, rfl, rfl, hj, HRW, HBA, HL⟩ := hrel
                    have t11 : wr.cell? ⟨xb, 1, none⟩ = some (.int .i64 x.f1) := by rw [blk_cell HL.out.x]; rfl
                    have ti : wr.cell? ⟨ib, 0, none⟩ = some (.int .i64 j) := by rw [blk_cell HL.out.i]; rfl
                    have tp : wr.cell? ⟨P, 0, none⟩ = some (.int .i64 w1) := by rw [blk_cell HL.out.c.p]; rfl
                    by_cases hjl : (j : Int) < x.f1
                    · have e1 : decide ((j : Int) < x.f1) = true := decide_eq_true hjl
                      by_cases hw1 : w1 < 0
                      · have e2 : decide (w1 < 0) = true := decide_eq_true hw1
                        have tk : wr.cell? ⟨K, 0, none⟩ = some (.func (.func 140) #[] #[.pointer (some ⟨T, 0, none⟩), .pointer (some ⟨P, 0, none⟩), .pointer (some ⟨G, 0, none⟩), .pointer (some ⟨D, 0, none⟩), .pointer (some ⟨K, 0, none⟩)]) := by rw [blk_cell HL.out.c.k]; rfl
                        obtain ⟨r, hr⟩ : ∃ r, r = walkP ts f nx (lv + 1) (partP pt j x.f1) w1 d1 := ⟨_, rfl⟩
                        obtain ⟨n2, w2, d2⟩ := r
                        have hbo := HBA.out
                        unfold InB at hbo
                        dsimp only at hbo
                        have hw := walk_bd ts f nx (lv + 1) (partP pt j x.f1) w1 d1 (by omega) (show InB ts nx (nx, w1, d1) by unfold InB; dsimp only; omega)
                        have HIH := Aside0.mk (HI.out nx (lv + 1) 141 #[.pointer (some ⟨fb, 0, none⟩), .pointer (some ⟨ib, 0, none⟩), .pointer (some ⟨xb, 0, none⟩)] (partP pt j x.f1) wr w1 d1 HL.out.c
                          (may_part wr fb ib xb (tx, le, mo, pt) j x HOK.out ⟨by omega, by omega⟩ HL.out.f HL.out.i HL.out.x) (by omega) (show InB ts nx (nx, w1, d1) by unfold InB; dsimp only; omega) (by omega) (by omega) (by omega))
                        rw [← hr] at HIH hw
                        unfold InB at hw
                        dsimp only at hw HIH
                        have hstep : loopP (walkP ts f) pt x.f1 lv (x.f1.toNat - (j + 1)) ((j + 1 : Nat) : Int) n2 w2 d2 = R := by
                          rw [← HRW.out, hj.out.2, show x.f1.toNat - j = (x.f1.toNat - (j + 1)) + 1 by omega]
                          conv => rhs; unfold loopP
                          rw [if_pos hw1, ← hr]
                          rfl
                        have HST := Aside0.mk hstep
                        have HBN : Aside0 (InB ts (at_ + 1) (n2, w2, d2)) := ⟨by unfold InB; dsimp only; omega⟩
                        have hmf : ∀ fn first cap w, (Instr.makeFunc fn first cap).run Try.prog w = .ok (.func fn first cap) w := fun _ _ _ _ => rfl
                        have HHR := Aside0.mk hr
                        clear hr hw hbo hstep
                        go_wp2_with (first
                          | ((with_reducible refine gate_dst (N := 107) rfl ?_); refine goesF_ (some 107) rfl rfl (.tmp 102) #[.pointer (some ⟨T, 0, none⟩), .pointer (some ⟨P, 0, none⟩), .pointer (some ⟨G, 0, none⟩), .pointer (some ⟨D, 0, none⟩), .pointer (some ⟨K, 0, none⟩)] rfl Try.func140 (by kernel_rfl) rfl #[.int .i64 nx, .int .i64 (lv + 1), .func (.func 141) #[] #[.pointer (some ⟨fb, 0, none⟩), .pointer (some ⟨ib, 0, none⟩), .pointer (some ⟨xb, 0, none⟩)], .pointer (some ⟨T, 0, none⟩), .pointer (some ⟨P, 0, none⟩), .pointer (some ⟨G, 0, none⟩), .pointer (some ⟨D, 0, none⟩), .pointer (some ⟨K, 0, none⟩)] rfl (by (try simp only [List.map_toArray, List.map_cons, List.map_nil]); first | done | rfl) ?_; refine HIH.out.mono ?_; rintro e w6 ⟨he, hc6, hk6⟩; subst he; refine ⟨_, rfl, ?_⟩; have HLN := Aside0.mk (HL.out.next hc6 hk6 ((j + 1 : Nat) : Int)); have tiN := (show w6.cell? ⟨ib, 0, none⟩ = some (.int .i64 j) by rw [blk_cell (hk6.blk HL.out.i (by have := HL.out.n; have := HL.out.lt; omega))]; rfl); clear hc6 hk6; skip)
                          | fail)
                        go_roundg (x.f1.toNat - (j + 1))
                        case measure => have := hj.out; omega
                        case rel => exact ⟨j + 1, n2, w2, d2, w6.heap.size, rfl, rfl, ⟨by omega, rfl⟩, HST, HBN, HLN⟩
                      · have e2 : decide (w1 < 0) = false := decide_eq_false hw1
                        have hRE : R = (nx, w1, d1) := by
                          rw [← HRW.out, hj.out.2, show x.f1.toNat - j = (x.f1.toNat - (j + 1)) + 1 by omega]
                          unfold loopP
                          rw [if_neg hw1]
                        have HRE := Aside0.mk hRE
                        clear hRE
                        go_wp2_with (fail)
                        go_ret
                        exact ⟨by rw [HRE.out]; rfl, by rw [HRE.out]; exact HL.out.c, HL.out.k⟩
                    · have e1 : decide ((j : Int) < x.f1) = false := decide_eq_false hjl
                      have hRE : R = (nx, w1, d1) := by
                        rw [← HRW.out, hj.out.2, show x.f1.toNat - j = 0 by omega]
                        rfl
                      have HRE := Aside0.mk hRE
                      clear hRE
                      go_wp2_with (fail)
                      go_ret
                      exact ⟨by rw [HRE.out]; rfl, by rw [HRE.out]; exact HL.out.c, HL.out.k⟩
              · have b4 : (x.f2 != 0) = true := by simpa using hd4
                have hbad : badP (tx, le, mo, pt) may x = true := by unfold badP; rw [show textP (tx, le, mo, pt).1 x.f3 = true from HTP.out, HMY.out]; simp only [Bool.not_true, Bool.false_or]; rw [b1, show decide (x.f1 > mo) = false from b2, b3, b4]; rfl
                have hRv : R = (at_, at_, d) := by rw [HR.out, if_pos hbad]
                have HRV := Aside0.mk hRv
                clear hbad HI hRv
                go_enter Try.func140, Try.ntmps140
                go_wp2_with (first
                  | ((with_reducible refine gate_dst (N := 32) rfl ?_); refine at_look rfl (.tmp 29) (.tmp 31) 190 195 noForm rfl Try.underlying190 zform rfl (HC.out.tab.below (below_alloc (Below.refl _ _) _)) x.f0 rfl hxx0 hxx1 (.agg #[.func (.func tx) #[] #[], .int .i64 le, .int .i64 mo, .func (.func pt) #[] #[]]) true (by rw [HF.out]; rfl) (by rw [HF.out]; rfl) ?_)
                  | ((with_reducible refine gate_dst (N := 41) rfl ?_); (try (refine gate_guard (by rfl) ?_; dsimp only)); refine goesF_ (some 41) rfl rfl (.tmp 38) caps rfl HFN.out.1 HFN.out.2.1 HFN.out.2.2 (#[.int .u8 x.f0] ++ caps) rfl (by (try simp only [List.map_toArray, List.map_cons, List.map_nil]); first | done | rfl) ?_; refine (HM2.out.2 _ x.f0 (Below.refl _ _) hxx0 hxx1).mono ?_; rintro e w3 ⟨he, hd⟩; rw [HMY.out] at he; subst he; refine ⟨_, rfl, ?_⟩; have HB3 := Aside0.mk hd.below; clear hd; have t33 : w3.cell? ⟨W.heap.size, 3, none⟩ = some (.string x.f3) := (by rw [blk_cell (blk_below HQ1.out HB3.out)]; rfl); have u03 : w3.cell? ⟨W.heap.size + 1, 0, none⟩ = some (.func (.func tx) #[] #[]) := (by rw [blk_cell (blk_below HQ2.out HB3.out)]; rfl); skip)
                  | ((with_reducible refine gate_dst (N := 49) rfl ?_); (try (refine gate_guard (by rfl) ?_; dsimp only)); refine goesF_ (some 49) rfl rfl (.tmp 46) #[] rfl HFT.out.1 HFT.out.2.1 HFT.out.2.2 #[.string x.f3] rfl (by (try simp only [List.map_toArray, List.map_cons, List.map_nil]); first | done | rfl) ?_; refine (text_c tx HTX.out x.f3 _).mono ?_; rintro e w4 ⟨he, hd⟩; rw [HTP.out] at he; subst he; refine ⟨_, rfl, ?_⟩; have HB4 := Aside0.mk (below_step HB3.out hd.below); clear hd; have t04 : w4.cell? ⟨W.heap.size, 0, none⟩ = some (.int .u8 x.f0) := (by rw [blk_cell (blk_below HQ1.out HB4.out)]; rfl); have t14 : w4.cell? ⟨W.heap.size, 1, none⟩ = some (.int .i64 x.f1) := (by rw [blk_cell (blk_below HQ1.out HB4.out)]; rfl); have t24 : w4.cell? ⟨W.heap.size, 2, none⟩ = some (.int .i64 x.f2) := (by rw [blk_cell (blk_below HQ1.out HB4.out)]; rfl); have u14 : w4.cell? ⟨W.heap.size + 1, 1, none⟩ = some (.int .i64 le) := (by rw [blk_cell (blk_below HQ2.out HB4.out)]; rfl); have u24 : w4.cell? ⟨W.heap.size + 1, 2, none⟩ = some (.int .i64 mo) := (by rw [blk_cell (blk_below HQ2.out HB4.out)]; rfl); have cp4 : w4.cell? ⟨P, 0, none⟩ = some (.int .i64 w) := (by rw [blk_cell (blk_below HC2.out.p HB4.out)]; rfl); have fp4 := blk_frozen (blk_below HC2.out.p HB4.out) 0; have cd4 : w4.cell? ⟨D, 0, none⟩ = some (.int .i64 d) := (by rw [blk_cell (blk_below HC2.out.d HB4.out)]; rfl); have fd4 := blk_frozen (blk_below HC2.out.d HB4.out) 0; have lP4 : P < w4.heap.size := blk_lt (blk_below HC2.out.p HB4.out); have lX4 : W.heap.size < w4.heap.size := blk_lt (blk_below HQ1.out HB4.out); have lD4 : D < w4.heap.size := blk_lt (blk_below HC2.out.d HB4.out); skip)
                  | fail)
                go_ret
                exact ⟨by rw [HRV.out]; rfl, by rw [HRV.out]; exact (HC2.out.below HB4.out).setP _, ((Kb.of_below _ HB2.out).trans (Kb.of_below _ HB4.out)).trans (kbP _ _ _ _)⟩
end Go.Proofs.Ytobgijpbfmpdaaa.Tb
