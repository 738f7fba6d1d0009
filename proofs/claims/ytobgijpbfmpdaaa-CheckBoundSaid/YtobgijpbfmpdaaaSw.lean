/- check.Slots: the walk over the twigs. -/
import Derived.Test.YtobgijpbfmpdaaaSf
set_option linter.unusedVariables false
set_option linter.unusedSimpArgs false
set_option maxRecDepth 100000
namespace Go.Proofs.Ytobgijpbfmpdaaa.Ck
open Go.RowKit Go.Proofs.YtobgijpbfmpdaaaW.PrintWords Go.Proofs.YtobgijpbfmpdaaaW.PrintLast Go.Proofs.YtobgijpbfmpdaaaW.PrintMore
open Go.Proofs.Ytobgijpbfmpdaaa.Fm Go.Proofs.Ytobgijpbfmpdaaa.Mp Go.Proofs.Ytobgijpbfmpdaaa.PCk Go.Proofs.Ytobgijpbfmpdaaa.Tb
set_option maxHeartbeats 16000000
def Pin (s : St) : Prop := s.made ≤ s.out.length ∧ s.out.length ≤ s.next + 1 ∧ (s.fault = 0 → s.out.length ≤ s.next)
theorem head_pin (x : S61) {s : St} (h : Pin s) (hf : s.fault = 0) : (headS x s).made ≤ (headS x s).out.length ∧ (headS x s).out.length ≤ s.next + 1 := by
  obtain ⟨h1, h2, h3⟩ := h
  have h3 := h3 hf
  unfold headS enterS
  split
  · dsimp only; rw [List.length_append]; simp only [List.length_cons, List.length_nil]; omega
  · split
    · dsimp only; rw [List.length_append]; simp only [List.length_cons, List.length_nil]; omega
    · dsimp only; rw [List.length_append]; simp only [List.length_cons, List.length_nil]; omega
mutual
theorem slT_pin : ∀ (Tn : Tr) (s : St), Pin s → s.fault = 0 → Pin (slT Tn s).1 ∧ ((slT Tn s).1.fault = 0 → (slT Tn s).1.next = s.next + (flat Tn).length)
  | .node x ks, s, h, hf => by
    have hp := head_pin x h hf
    unfold slT
    by_cases hh : (headS x s).fault ≠ 0
    · rw [if_pos hh]
      refine ⟨⟨hp.1, by rw [head_next]; exact hp.2, fun e => absurd e hh⟩, fun e => absurd e hh⟩
    · rw [if_neg hh]
      have hk := slK_pin ks { headS x s with next := s.next + 1 } [] ⟨hp.1, by have := hp.2; dsimp only; omega, fun _ => hp.2⟩
      refine ⟨hk.1, fun e => ?_⟩
      have := hk.2 e
      dsimp only at this ⊢
      rw [this]
      simp only [flat, List.length_cons]
      omega
theorem slK_pin : ∀ (l : List Tr) (s : St) (mine : List Ky), Pin s → Pin (slK l s mine).1 ∧ ((slK l s mine).1.fault = 0 → (slK l s mine).1.next = s.next + (flats l).length)
  | [], s, mine, h => ⟨h, fun _ => rfl⟩
  | k :: r, s, mine, h => by
    unfold slK
    by_cases hz : s.fault ≠ 0
    · rw [if_pos hz]
      exact ⟨h, fun e => absurd e hz⟩
    · rw [if_neg hz]
      have hT := slT_pin k s h (Decidable.not_not.1 hz)
      have hl : (flats (k :: r)).length = (flat k).length + (flats r).length := by simp [flats]
      rw [hl]
      by_cases hn : (slT k s).2.1 ≠ [] ∧ (slT k s).1.fault = 0
      · rw [if_pos hn]
        have hR := slK_pin r { (slT k s).1 with seen := put (slT k s).1.seen (slT k s).2.1 (slT k s).2.2 } (mine ++ [(slT k s).2.1]) hT.1
        refine ⟨hR.1, fun e => ?_⟩
        have h1 := (hR.2 e).trans (congrArg (· + (flats r).length) (hT.2 hn.2))
        exact h1.trans (by omega)
      · rw [if_neg hn]
        have hR := slK_pin r (slT k s).1 mine hT.1
        refine ⟨hR.1, fun e => ?_⟩
        have h1 := hR.2 e
        by_cases hz2 : (slT k s).1.fault = 0
        · have h2 := hT.2 hz2
          omega
        · exfalso
          cases r with
          | nil => exact hz2 e
          | cons k2 r2 =>
            unfold slK at e
            rw [if_pos hz2] at e
            exact hz2 e
end
theorem slT_name (Tn : Tr) (s : St) : (slT Tn s).2.1 = [] ∨ (slT Tn s).2.1 = key Tn.top := by
  cases Tn with
  | node x ks =>
    unfold slT tellS
    split
    · exact .inl rfl
    · split
      · exact .inr rfl
      · exact .inl rfl
theorem flats_len : ∀ l : List Tr, l.length ≤ (flats l).length
  | [] => Nat.le_refl _
  | k :: r => by
    have h1 := flat_pos k
    have h2 := flats_len r
    simp only [flats, List.length_cons, List.length_append]
    omega
theorem rd_drop {ts : List S61} {n : Nat} {x : S61} {l : List S61} (h : ts.drop n = x :: l) : n < ts.length ∧ rd_T61 ts (n : Int) = x ∧ ts.drop (n + 1) = l ∧ x ∈ ts := by
  have hl : n < ts.length := by
    by_cases hl : n < ts.length
    · exact hl
    · rw [List.drop_of_length_le (by omega)] at h; cases h
  rw [List.drop_eq_getElem_cons hl] at h
  injection h with h1 h2
  refine ⟨hl, ?_, h2, by rw [← h1]; exact List.getElem_mem hl⟩
  unfold rd_T61
  rw [Int.toNat_natCast, List.getD_eq_getElem?_getD, List.getElem?_eq_getElem hl, ← h1]
  rfl
theorem fr_start {B0 T b S M O N F E K : Nat} {A : Option Addr} {c : Nat} {ts : List S61} {W0 W W2 : World} {s s2 : St} {v v2 : Value} {cnt cnt2 : Nat} {x : S61} (hs : Sv B0 T b S M O N F E K A c ts W0 W s v cnt) (h2 : Sv B0 T b S M O N F E K A c ts W0 W2 s2 v2 cnt2) (hk : Kb (Chg M O N F b v) W W2) (hv : Mv v W v2)
    (hx : W2.heap[W.heap.size]? = some (.cells #[.int .u8 x.f0, .int .i64 x.f1, .int .i64 x.f2, .string x.f3] 61 (0, 0))) : Fr B0 T b S M O N F E K A c ts W0 W v x W.heap.size W2 s2 v2 cnt2 (.slice none 0 0) [] :=
  ⟨h2, hx, Kd.R_nil _ _ _ _ _, Nat.le_refl _, hs.lt.1, hk, hv⟩
theorem Fr.more {B0 T b S M O N F E K : Nat} {A : Option Addr} {c : Nat} {ts : List S61} {W0 We : World} {v0 : Value} {x : S61} {xb : Nat} {wr : World} {s : St} {v : Value} {cnt cnt' : Nat} {vm : Value} {mine : List Ky}
    (h : Fr B0 T b S M O N F E K A c ts W0 We v0 x xb wr s v cnt vm mine) (hc : cnt ≤ cnt') : Fr B0 T b S M O N F E K A c ts W0 We v0 x xb wr s v cnt' vm mine := ⟨h.sv.more hc, h.x, h.mi, h.xb, h.lt, h.kb, h.V⟩
theorem Fr.cS {B0 T b S M O N F E K : Nat} {A : Option Addr} {c : Nat} {ts : List S61} {W0 We : World} {v0 : Value} {x : S61} {xb : Nat} {wr : World} {s : St} {v : Value} {cnt : Nat} {vm : Value} {mine : List Ky}
    (h : Fr B0 T b S M O N F E K A c ts W0 We v0 x xb wr s v cnt vm mine) : wr.cell? ⟨S, 0, none⟩ = some (.map (some b)) := by rw [blk_cell h.sv.sm]; rfl
theorem dels_take (m : List (Ky × Int)) (l : List Ky) (i : Nat) (h : i < l.length) : dels m (l.take (i + 1)) = del (dels m (l.take i)) l[i] := by
  unfold dels
  rw [List.take_succ_eq_append_getElem h, List.foldl_append]
  rfl
theorem strK_get (l : List Ky) (i : Nat) (h : i < l.length) : (strK l).getD i ByteArray.empty = ⟨l[i].toArray⟩ := by
  unfold strK
  rw [List.getD_eq_getElem?_getD, List.getElem?_map, List.getElem?_eq_getElem h]
  rfl
theorem strK_len (l : List Ky) : (strK l).length = l.length := List.length_map _
theorem key_str (x : S61) : (⟨(key x).toArray⟩ : ByteArray) = x.f3 := by
  unfold key
  rw [Array.toArray_toList]
theorem mv_alloc {v v1 : Value} {W : World} {o : Obj} (h : v1.ownBlock = v.ownBlock ∨ ∃ q, v1.ownBlock = some q ∧ (W.alloc o).heap.size ≤ q) : Mv v W v1 := by
  rcases h with h | ⟨q, h1, h2⟩
  · exact .inl h
  · rw [World.size_alloc] at h2
    exact .inr ⟨q, h1, by omega⟩
/-- What a walk needs of its tree. -/
def Arity : Nat → Tr → Prop
  | 0, _ => False
  | f + 1, .node x ks => x.f1 = (ks.length : Int) ∧ ∀ k ∈ ks, Arity f k
theorem slots2_c {B0 T b S M O N F E K : Nat} {A : Option Addr} {c : Nat} {ts : List S61} {W0 : World} (hlen : ts.length ≤ 2048) (hts : ∀ x ∈ ts, TwOk x) (hsz : ∀ x ∈ ts, x.f3.size ≤ maxLen) :
    ∀ (f : Nat) (Tn : Tr) (s : St) (W : World) (v : Value) (cnt : Nat) (rest : List S61), Arity f Tn → ts.drop s.next = flat Tn ++ rest → Sv B0 T b S M O N F E K A c ts W0 W s v cnt → s.fault = 0 → Pin s → cnt + (flat Tn).length ≤ 5000 →
    Calls Try.prog 90 #[.pointer (some ⟨T, 0, none⟩), .pointer (some ⟨N, 0, none⟩), .pointer (some ⟨M, 0, none⟩), .pointer (some ⟨E, 0, none⟩), .pointer (some ⟨S, 0, none⟩), .pointer (some ⟨F, 0, none⟩), .pointer (some ⟨O, 0, none⟩), .pointer (some ⟨K, 0, none⟩)] W fun e W' => e = .returned (.tuple #[.string ⟨(slT Tn s).2.1.toArray⟩, .int .i64 (slT Tn s).2.2]) ∧ Aft B0 T b S M O N F E K A c ts W0 W v (slT Tn s).1 (cnt + (flat Tn).length - 1) W' := by
  intro f
  induction f with
  | zero => intro Tn s W v cnt rest ha; exact ha.elim
  | succ f ih =>
    intro Tn s W v cnt rest ha hd hs hf0 hpin hcnt
    obtain ⟨x, ks⟩ := Tn
    have hd1 : ts.drop s.next = x :: (flats ks ++ rest) := by rw [hd]; rfl
    obtain ⟨hnl, hrd, hd2, hxm⟩ := rd_drop hd1
    have hxo := hts x hxm
    have hxs := hsz x hxm
    have hx0 : 0 ≤ x.f0 ∧ x.f0 < 256 := hxo.1
    have hkl : (ks.length : Int) = x.f1 := ha.1.symm
    have hkn : ks.length ≤ 2048 := by
      have h1 := flats_len ks
      have h2 := congrArg List.length hd2
      rw [List.length_drop, List.length_append] at h2
      omega
    obtain ⟨s1, hs1⟩ : ∃ s1, s1 = headS x s := ⟨_, rfl⟩
    have hfl : cnt + (flat (.node x ks)).length - 1 = cnt + (flats ks).length := by simp only [flat, List.length_cons]; omega
    rw [hfl]
    have hcn2 : cnt + (flats ks).length ≤ 5000 := by have h9 : (flat (.node x ks)).length = (flats ks).length + 1 := rfl; omega
    obtain ⟨R, hR⟩ : ∃ R, R = slK ks { s1 with next := s.next + 1 } [] := ⟨_, rfl⟩
    have hsl : slT (.node x ks) s = if s1.fault ≠ 0 then (s1, ([], -1)) else ({ R.1 with seen := dels R.1.seen R.2 }, tellS x s) := by
      rw [hR, hs1]; conv => lhs; unfold slT
    obtain ⟨Z, hZ⟩ : ∃ Z, Z = slT (.node x ks) s := ⟨_, rfl⟩
    rw [← hZ]
    rw [← hZ] at hsl
    obtain ⟨ad, eA, q0, q1, q2, q3⟩ := at_T61 (Kd.F_now hs.C) (s.next : Int) (by omega) (by omega)
    rw [hrd, Int.toNat_natCast] at q0 q1 q2 q3
    subst eA
    have hp := head_pin x hpin hf0
    rw [← hs1] at hp
    have cT : W.cell? ⟨T, 0, none⟩ = some (.slice (some ad) ts.length c) := by rw [blk_cell hs.t]; rfl
    have cN : W.cell? ⟨N, 0, none⟩ = some (.int .i64 s.next) := by rw [blk_cell hs.n]; rfl
    obtain ⟨s2, hs2⟩ : ∃ s2 : St, s2 = { s1 with next := s.next + 1 } := ⟨_, rfl⟩
    have HS2 := Aside0.mk hs2
    clear hs2
    have nn0 : (0 : Int) ≤ (s.next : Int) := by omega
    have nn1 : (s.next : Int) < (ts.length : Int) := by omega
    have nn2 : s.next < 2048 := by omega
    have hne := hs.ne
    have hlt := hs.lt
    have nNO : N ≠ O := by omega
    have nFO : F ≠ O := by omega
    have nFN : F ≠ N := by omega
    have hoL : s.out.length ≤ 10000 := by have := hpin.2.1; omega
    have hmL : s.made ≤ 10000 := by have := hpin.1; have := hpin.2.1; omega
    have HS := Aside0.mk hs
    have HSX := Aside0.mk (hs.below (below_alloc (Below.refl _ _) (.cells #[.int .u8 x.f0, .int .i64 x.f1, .int .i64 x.f2, .string x.f3] 61)))
    have HQX := Aside0.mk (blk_new W (.cells #[.int .u8 x.f0, .int .i64 x.f1, .int .i64 x.f2, .string x.f3] 61))
    have HA := Aside0.mk ha.2
    have HI := Aside0.mk ih
    have HXS := Aside0.mk hxs
    have HPI := Aside0.mk hpin
    have HP := Aside0.mk hp
    have HD2 := Aside0.mk hd2
    have HR := Aside0.mk hR
    have HSL := Aside0.mk hsl
    have HNE := Aside0.mk hne
    have HLT := Aside0.mk hlt
    have HSZ := Aside0.mk hsz
    have HF0 := Aside0.mk hf0
    have HKL := Aside0.mk hkl
    have HC := Aside0.mk hcn2
    clear hd hd1 hrd hxo hxs hs ha ih hpin hp hd2 hR hsl hZ hts hsz hxm hne hlt hf0 hcnt hfl hkl hcn2
    have hcase : (x.f0 = 2 ∨ x.f0 = 4) ∨ (x.f0 = 5 ∨ x.f0 = 26) ∨ (x.f0 ≠ 2 ∧ x.f0 ≠ 4 ∧ x.f0 ≠ 5 ∧ x.f0 ≠ 26) := by omega
    rcases hcase with h | h | ⟨h2, h4, h5, h26⟩
    · by_cases hf1 : s1.fault = 0
      · have HF1 := Aside0.mk hf1
        have HFQ := HF1
        clear hf1
        rcases h with h | h
        · have e2 : (x.f0 == 2) = true := by rw [h]; rfl
          have e4 : (x.f0 == 4) = false := by rw [h]; rfl
          have hm : makes x = true := by unfold makes; rw [e2, e4]; rfl
          have HTE : Aside0 (tellS x s = (key x, (s.made : Int))) := ⟨by unfold tellS; rw [hm]; rfl⟩
          have hh : s1 = enterS s (key x) := by rw [hs1]; unfold headS; rw [hm]; rfl
          have HH := Aside0.mk hh
          clear h hm hh hs1
          have cM : (W.alloc (.cells #[.int .u8 x.f0, .int .i64 x.f1, .int .i64 x.f2, .string x.f3] 61)).cell? ⟨M, 0, none⟩ = some (.int .i64 s.made) := by rw [blk_cell HSX.out.m]; rfl
          have tx3 : (W.alloc (.cells #[.int .u8 x.f0, .int .i64 x.f1, .int .i64 x.f2, .string x.f3] 61)).cell? ⟨W.heap.size, 3, none⟩ = some (.string x.f3) := by rw [blk_cell HQX.out]; rfl
          have lX : W.heap.size < (W.alloc (.cells #[.int .u8 x.f0, .int .i64 x.f1, .int .i64 x.f2, .string x.f3] 61)).heap.size := by rw [World.size_alloc]; omega
          have lM := blk_lt HSX.out.m
          go_enter Try.func90, Try.ntmps90
          go_wp2_with (fail)
          go_region
          have HSD := Aside0.mk (HSX.out.below (below_drew (Below.refl _ _)))
          have HQD := Aside0.mk (blk_below HQX.out (below_drew (Below.refl _ _)))
          have HBD := Aside0.mk (below_drew (below_alloc (Below.refl _ W) (.cells #[.int .u8 x.f0, .int .i64 x.f1, .int .i64 x.f2, .string x.f3] 61)))
          obtain ⟨wd, hwd⟩ : ∃ wd, wd = (W.alloc (.cells #[.int .u8 x.f0, .int .i64 x.f1, .int .i64 x.f2, .string x.f3] 61)).drew := ⟨_, rfl⟩
          rw [← hwd] at HSD HQD HBD
          rw [← hwd]
          clear hwd cM tx3 lX lM
          have cE : wd.cell? ⟨E, 0, none⟩ = some (.func (.func 89) #[] #[.pointer (some ⟨S, 0, none⟩), .pointer (some ⟨F, 0, none⟩), .pointer (some ⟨M, 0, none⟩), .pointer (some ⟨O, 0, none⟩)]) := by rw [blk_cell HSD.out.e]; rfl
          go_wp2_with (first
            | ((with_reducible refine gate_dst (N := 38) rfl ?_); refine goesF_ (some 38) rfl rfl (.tmp 36) #[.pointer (some ⟨S, 0, none⟩), .pointer (some ⟨F, 0, none⟩), .pointer (some ⟨M, 0, none⟩), .pointer (some ⟨O, 0, none⟩)] rfl Try.func89 (by kernel_rfl) rfl #[.string x.f3, .pointer (some ⟨S, 0, none⟩), .pointer (some ⟨F, 0, none⟩), .pointer (some ⟨M, 0, none⟩), .pointer (some ⟨O, 0, none⟩)] rfl (by (try simp only [List.map_toArray, List.map_cons, List.map_nil]); first | done | rfl) ?_; refine (enter_c HSD.out x.f3 HXS.out hoL hmL).mono ?_; rintro e w1 ⟨he, ha6⟩; subst he; refine ⟨_, rfl, ?_⟩; obtain ⟨v6, hs6, hk6, hv6⟩ := ha6; have hs6 : Sv B0 T b S M O N F E K (some ad) c ts W0 w1 (enterS s (key x)) v6 cnt := hs6; rw [← HH.out] at hs6; have HS6 := Aside0.mk hs6; have HK6 := Aside0.mk hk6; have HV6 := Aside0.mk hv6; have cF1 : w1.cell? ⟨F, 0, none⟩ = some (.int .i64 0) := (by rw [blk_cell hs6.f, HFQ.out]; rfl); have cN1 : w1.cell? ⟨N, 0, none⟩ = some (.int .i64 s.next) := (by rw [blk_cell hs6.n, HH.out]; rfl); have fN1 := blk_frozen hs6.n 0; have lN1 := blk_lt hs6.n; clear hs6 hk6 hv6)
            | fail)
          have HL : Aside0 (Fr B0 T b S M O N F E K (some ad) c ts W0 W v x W.heap.size (w1.setCell ⟨N, 0, none⟩ (.int .i64 ((s.next : Int) + 1))) s2 v6 cnt (.slice none 0 0) []) := ⟨by
            rw [HS2.out]
            exact fr_start HS.out (HS6.out.setN (s.next + 1)) (((Kb.of_below _ HBD.out).trans HK6.out).trans (chgN _ _)) ((Mv.refl v W).trans HBD.out.size HV6.out)
              ((kset _ N _).blk (HK6.out.blk HQD.out (fun e => (chg_box (T := T) (S := S) (E := E) (K := K) e).elim (fun e => by have := HNE.out; have := HLT.out; unfold Bxs at e; omega) (Kd.R_ne HSD.out.R HQD.out (by decide)))) (by have := HNE.out; have := HLT.out; omega))⟩
          clear HS6 HK6 HV6 cE cF1 cN1 fN1 lN1 HSD HQD HBD
          clear cT cN q0 q1 q2 q3 HSX HQX
          obtain ⟨xb, hxb⟩ : ∃ xb, xb = W.heap.size := ⟨_, rfl⟩
          rw [← hxb] at HL
          rw [← hxb]
          clear hxb
          go_loopg [15, 16] ks.length (fun kk v15 v16 wr => ∃ (j : Nat) (sj : St) (vj : Value) (Am : Option Addr) (cm : Nat) (mj : List Ky) (cj : Nat), v15 = .slice Am mj.length cm ∧ v16 = .int .i64 j ∧ Aside0 (j ≤ ks.length ∧ kk = ks.length - j) ∧ Aside0 (slK (ks.drop j) sj mj = R) ∧
            Aside0 (Pin sj ∧ (sj.fault = 0 → ts.drop sj.next = flats (ks.drop j) ++ rest) ∧ (∀ k ∈ mj, k.length ≤ maxLen) ∧ cj + (flats (ks.drop j)).length ≤ cnt + (flats ks).length ∧ mj.length ≤ j) ∧ Aside0 (Fr B0 T b S M O N F E K (some ad) c ts W0 W v x xb wr sj vj cj (.slice Am mj.length cm) mj))
          case atStart => exact ⟨0, s2, _, none, 0, [], cnt, rfl, rfl, ⟨Nat.zero_le _, rfl⟩, ⟨by rw [HR.out, HS2.out]; rfl⟩, ⟨by rw [HS2.out]; exact ⟨HP.out.1, by have := HP.out.2; dsimp only; omega, fun _ => HP.out.2⟩, fun _ => by rw [HS2.out]; exact HD2.out, (fun k hk => nomatch hk), Nat.le_refl _, Nat.le_refl _⟩, HL⟩
          case round =>
            clear HL
            obtain ⟨j, sj, vj, Am, cm, mj, cj, rfl, rfl, hj, HSK, HPJ, HFR⟩ := hrel
            have tx : wr.cell? ⟨xb, 1, none⟩ = some (.int .i64 x.f1) := by rw [blk_cell HFR.out.x]; rfl
            have tF : wr.cell? ⟨F, 0, none⟩ = some (.int .i64 sj.fault) := by rw [blk_cell HFR.out.sv.f]; rfl
            by_cases hjl : j < ks.length
            · have hjl2 : (j : Int) < x.f1 := by rw [← HKL.out]; omega
              have a1 : decide ((j : Int) < x.f1) = true := decide_eq_true hjl2
              by_cases hfj : sj.fault = 0
              · rw [hfj] at tF
                have tK : wr.cell? ⟨K, 0, none⟩ = some (.func (.func 90) #[] #[.pointer (some ⟨T, 0, none⟩), .pointer (some ⟨N, 0, none⟩), .pointer (some ⟨M, 0, none⟩), .pointer (some ⟨E, 0, none⟩), .pointer (some ⟨S, 0, none⟩), .pointer (some ⟨F, 0, none⟩), .pointer (some ⟨O, 0, none⟩), .pointer (some ⟨K, 0, none⟩)]) := by rw [blk_cell HFR.out.sv.k]; rfl
                obtain ⟨k, hk⟩ : ∃ k, k = ks[j] := ⟨_, rfl⟩
                have hdk : ks.drop j = k :: ks.drop (j + 1) := by rw [hk]; exact List.drop_eq_getElem_cons hjl
                have hkm : k ∈ ks := by rw [hk]; exact List.getElem_mem hjl
                have hpj := HPJ.out
                have hsk := HSK.out
                rw [hdk] at hpj hsk
                obtain ⟨Y, hY⟩ : ∃ Y, Y = slT k sj := ⟨_, rfl⟩
                have hflk : (flats (k :: ks.drop (j + 1))).length = (flat k).length + (flats (ks.drop (j + 1))).length := by simp [flats]
                have hdj : ts.drop sj.next = flat k ++ (flats (ks.drop (j + 1)) ++ rest) := by rw [hpj.2.1 hfj]; simp [flats]
                have hic := HI.out k sj wr vj cj (flats (ks.drop (j + 1)) ++ rest) (HA.out k hkm) hdj HFR.out.sv hfj hpj.1 (by have := HC.out; omega)
                have hpy := slT_pin k sj hpj.1 hfj
                have hnmy := slT_name k sj
                have hszk : (key k.top).length ≤ maxLen := by
                  obtain ⟨y, kk2⟩ := k
                  have h1 : ts.drop sj.next = y :: (flats kk2 ++ (flats (ks.drop (j + 1)) ++ rest)) := by rw [hdj]; rfl
                  have h2 := HSZ.out y (rd_drop h1).2.2.2
                  exact Nat.le_trans (Nat.le_of_eq (Array.length_toList)) h2
                unfold slK at hsk
                rw [if_neg (fun h => h hfj)] at hsk
                rw [← hY] at hic hpy hnmy hsk
                obtain ⟨sy, ny, iy⟩ := Y
                dsimp only at hic hpy hnmy hsk
                have hny : ny.length ≤ maxLen := by rcases hnmy with h | h <;> rw [h]; exact Nat.zero_le _; exact hszk
                have hpos := flat_pos k
                have hcc : cj + (flat k).length - 1 + 1 + (flats (ks.drop (j + 1))).length ≤ cnt + (flats ks).length := by have := hpj.2.2.2.1; omega
                have hdn : sy.fault = 0 → ts.drop sy.next = flats (ks.drop (j + 1)) ++ rest := fun e => by
                  rw [hpy.2 e, ← List.drop_drop, hdj, List.drop_left]
                have HIC := Aside0.mk hic
                have HPY := Aside0.mk hpy.1
                have HNY := Aside0.mk hny
                have HSK2 := Aside0.mk hsk
                have HCC := Aside0.mk hcc
                have HDN := Aside0.mk hdn
                have HMJ := Aside0.mk hpj.2.2
                have HFJ := Aside0.mk hfj
                have HJL := Aside0.mk (show mj.length ≤ j from hpj.2.2.2.2)
                obtain ⟨t, ht⟩ : ∃ t : ByteArray, t = ⟨ny.toArray⟩ := ⟨_, rfl⟩
                rw [← ht] at HIC
                have htl : t.data.toList = ny := by rw [ht]
                clear hk hdk hkm hpj hY hflk hdj hic hpy hnmy hszk hny hpos hcc hdn hsk hfj
                by_cases hn0 : ny = []
                · subst hn0
                  have ht0 : t = ⟨#[]⟩ := ht.trans rfl
                  subst ht0
                  have HSK3 : Aside0 (slK (ks.drop (j + 1)) sy mj = R) := ⟨by have := HSK2.out; rwa [if_neg (fun h => h.1 rfl)] at this⟩
                  clear ht htl HSK2
                  go_wp2_with (first
                    | ((with_reducible refine gate_dst (N := 71) rfl ?_); refine goesF_ (some 71) rfl rfl (.tmp 70) #[.pointer (some ⟨T, 0, none⟩), .pointer (some ⟨N, 0, none⟩), .pointer (some ⟨M, 0, none⟩), .pointer (some ⟨E, 0, none⟩), .pointer (some ⟨S, 0, none⟩), .pointer (some ⟨F, 0, none⟩), .pointer (some ⟨O, 0, none⟩), .pointer (some ⟨K, 0, none⟩)] rfl Try.func90 (by kernel_rfl) rfl #[.pointer (some ⟨T, 0, none⟩), .pointer (some ⟨N, 0, none⟩), .pointer (some ⟨M, 0, none⟩), .pointer (some ⟨E, 0, none⟩), .pointer (some ⟨S, 0, none⟩), .pointer (some ⟨F, 0, none⟩), .pointer (some ⟨O, 0, none⟩), .pointer (some ⟨K, 0, none⟩)] rfl (by (try simp only [List.map_toArray, List.map_cons, List.map_nil]); first | done | rfl) ?_; refine HIC.out.mono ?_; rintro e w6 ⟨he, ha6⟩; subst he; refine ⟨_, rfl, ?_⟩; obtain ⟨v6, hf6⟩ := HFR.out.after ha6; have HF6 := Aside0.mk hf6; have tF6 : w6.cell? ⟨F, 0, none⟩ = some (.int .i64 sy.fault) := (by rw [blk_cell hf6.sv.f]; rfl); clear ha6 hf6)
                    | fail)
                  go_roundg (ks.length - (j + 1))
                  case measure => have := hj.out; omega
                  case rel => exact ⟨j + 1, sy, v6, Am, cm, mj, cj + (flat k).length - 1 + 1, rfl, rfl, ⟨by omega, rfl⟩, HSK3, ⟨HPY.out, HDN.out, HMJ.out.1, HCC.out, by have := HJL.out; omega⟩, ⟨HF6.out.more (Nat.le_succ _)⟩⟩
                · have n1 : (t == (⟨#[]⟩ : ByteArray)) = false := by rw [Bool.eq_false_iff]; intro h; exact hn0 (by rw [← htl, (Go.MapKept.bytes_beq _ _).1 h])
                  have n2 : (t != (⟨#[]⟩ : ByteArray)) = true := by unfold bne; rw [n1]; rfl
                  have n3 : decide (t = (⟨#[]⟩ : ByteArray)) = false := decide_eq_false (fun h => hn0 (by rw [← htl, h]))
                  have n4 : t.toList.isEmpty = false := by
                    rw [ByteArray.toList_eq, htl]
                    cases ny with
                    | nil => exact absurd rfl hn0
                    | cons a r => rfl
                  have n5 : (t.toList = []) = False := eq_false (fun h => by rw [h] at n4; exact absurd n4 (by decide))
                  have HN0 := Aside0.mk hn0
                  have HTL := Aside0.mk htl
                  have HT := Aside0.mk ht
                  by_cases hfy : sy.fault = 0
                  · have HSK3 : Aside0 (slK (ks.drop (j + 1)) { sy with seen := put sy.seen ny iy } (mj ++ [ny]) = R) := ⟨by have := HSK2.out; rwa [if_pos ⟨hn0, hfy⟩] at this⟩
                    have HFY := Aside0.mk hfy
                    clear hn0 htl ht HSK2 hfy
                    go_wp2_with (first
                      | ((with_reducible refine gate_dst (N := 71) rfl ?_); refine goesF_ (some 71) rfl rfl (.tmp 70) #[.pointer (some ⟨T, 0, none⟩), .pointer (some ⟨N, 0, none⟩), .pointer (some ⟨M, 0, none⟩), .pointer (some ⟨E, 0, none⟩), .pointer (some ⟨S, 0, none⟩), .pointer (some ⟨F, 0, none⟩), .pointer (some ⟨O, 0, none⟩), .pointer (some ⟨K, 0, none⟩)] rfl Try.func90 (by kernel_rfl) rfl #[.pointer (some ⟨T, 0, none⟩), .pointer (some ⟨N, 0, none⟩), .pointer (some ⟨M, 0, none⟩), .pointer (some ⟨E, 0, none⟩), .pointer (some ⟨S, 0, none⟩), .pointer (some ⟨F, 0, none⟩), .pointer (some ⟨O, 0, none⟩), .pointer (some ⟨K, 0, none⟩)] rfl (by (try simp only [List.map_toArray, List.map_cons, List.map_nil]); first | done | rfl) ?_; refine HIC.out.mono ?_; rintro e w6 ⟨he, ha6⟩; subst he; refine ⟨_, rfl, ?_⟩; obtain ⟨v6, hf6⟩ := HFR.out.after ha6; have HF6 := Aside0.mk hf6; have tF6 : w6.cell? ⟨F, 0, none⟩ = some (.int .i64 0) := (by rw [blk_cell hf6.sv.f, HFY.out]; rfl); clear ha6 hf6)
                      | ((with_reducible refine gate_builtin (b := .append) (xs := #[.tmp 80, .tmp 82]) rfl ?_); at_builtin; refine Kd.R_append Kd.string (w0 := w6) W.heap.size rfl (.tmp 80) (.tmp 82) 58 9 (.string ⟨#[]⟩) 16 rfl Try.underlying58 info9 rfl (by decide) (by decide) (.slice Am mj.length cm) _ t [.string t] (fun _ => True) (fun _ => False) rfl rfl rfl (fun _ hk => hk.elim) (fun _ _ => trivial) HF6.out.mi (Below.refl _ _) HF6.out.kb.size (by rw [strK_len]; have := HJL.out; omega) ?_; intro v8 w8 ho hb hg hat; obtain ⟨A8, c8, e8⟩ := Kd.R_slice ho; have e9 : v8 = .slice A8 (mj.length + 1) c8 := (by rw [e8, List.length_append, strK_len]; rfl); clear e8; subst e9; rw [HT.out] at ho; have HF7 := Aside0.mk (HF6.out.app ho hg); have tS7 : w8.cell? ⟨S, 0, none⟩ = some (.map (some b)) := (by rw [blk_cell HF7.out.sv.sm]; rfl); clear ho hb hg hat)
                      | ((with_reducible refine gate_ (.mapUpdate 128 (.tmp 84) (.tmp 85) (.tmp 86)) rfl ?_); refine at_put rfl (.tmp 84) (.tmp 85) (.tmp 86) 128 3 rfl Try.underlying128 rfl HF7.out.sv.own (by have := HCC.out; have := HC.out; unfold maxLen; omega) t rfl (by have h1 : t.size = t.data.toList.length := (Array.length_toList).symm; rw [h1, HTL.out]; exact HNY.out) (.int .i64 iy) rfl ?_; intro w9 ho hk; rw [HTL.out, show Value.int .i64 iy = inV iy from rfl, put_sV] at ho; have HF8 := Aside0.mk (HF7.out.seen hk ho); clear ho hk)
                      | fail)
                    go_roundg (ks.length - (j + 1))
                    case measure => have := hj.out; omega
                    case rel => exact ⟨j + 1, { sy with seen := put sy.seen ny iy }, v6, A8, c8, mj ++ [ny], cj + (flat k).length - 1 + 1, by rw [List.length_append]; rfl, rfl, ⟨by omega, rfl⟩, HSK3, ⟨HPY.out, HDN.out, fun q hq => (List.mem_append.1 hq).elim (HMJ.out.1 q) (fun e => by rw [List.mem_singleton.1 e]; exact HNY.out), HCC.out, by have := HJL.out; rw [List.length_append]; show mj.length + 1 ≤ j + 1; omega⟩, ⟨by rw [List.length_append]; exact HF8.out⟩⟩
                  · have HSK3 : Aside0 (slK (ks.drop (j + 1)) sy mj = R) := ⟨by have := HSK2.out; rwa [if_neg (fun h => hfy h.2)] at this⟩
                    have m1 : (sy.fault == 0) = false := beq_eq_false_iff_ne.2 hfy
                    have m2 : decide (sy.fault = 0) = false := decide_eq_false hfy
                    clear hn0 htl ht HSK2 hfy
                    go_wp2_with (first
                      | ((with_reducible refine gate_dst (N := 71) rfl ?_); refine goesF_ (some 71) rfl rfl (.tmp 70) #[.pointer (some ⟨T, 0, none⟩), .pointer (some ⟨N, 0, none⟩), .pointer (some ⟨M, 0, none⟩), .pointer (some ⟨E, 0, none⟩), .pointer (some ⟨S, 0, none⟩), .pointer (some ⟨F, 0, none⟩), .pointer (some ⟨O, 0, none⟩), .pointer (some ⟨K, 0, none⟩)] rfl Try.func90 (by kernel_rfl) rfl #[.pointer (some ⟨T, 0, none⟩), .pointer (some ⟨N, 0, none⟩), .pointer (some ⟨M, 0, none⟩), .pointer (some ⟨E, 0, none⟩), .pointer (some ⟨S, 0, none⟩), .pointer (some ⟨F, 0, none⟩), .pointer (some ⟨O, 0, none⟩), .pointer (some ⟨K, 0, none⟩)] rfl (by (try simp only [List.map_toArray, List.map_cons, List.map_nil]); first | done | rfl) ?_; refine HIC.out.mono ?_; rintro e w6 ⟨he, ha6⟩; subst he; refine ⟨_, rfl, ?_⟩; obtain ⟨v6, hf6⟩ := HFR.out.after ha6; have HF6 := Aside0.mk hf6; have tF6 : w6.cell? ⟨F, 0, none⟩ = some (.int .i64 sy.fault) := (by rw [blk_cell hf6.sv.f]; rfl); clear ha6 hf6)
                      | fail)
                    go_roundg (ks.length - (j + 1))
                    case measure => have := hj.out; omega
                    case rel => exact ⟨j + 1, sy, v6, Am, cm, mj, cj + (flat k).length - 1 + 1, rfl, rfl, ⟨by omega, rfl⟩, HSK3, ⟨HPY.out, HDN.out, HMJ.out.1, HCC.out, by have := HJL.out; omega⟩, ⟨HF6.out.more (Nat.le_succ _)⟩⟩
              · have m1 : (sj.fault == 0) = false := beq_eq_false_iff_ne.2 hfj
                have m2 : decide (sj.fault = 0) = false := decide_eq_false hfj
                have HRE : Aside0 (R = (sj, mj)) := ⟨by
                  rw [← HSK.out]
                  cases hdk : ks.drop j with
                  | nil => rfl
                  | cons k r => unfold slK; rw [if_pos hfj]⟩
                clear hfj
                have hml : mj.length ≤ 2048 := by have := HPJ.out.2.2.2.2; have := hj.out; omega
                have HML := Aside0.mk HPJ.out.2.2
                clear HPJ HSK
                go_wp2_with (fail)
                go_loopg [89] mj.length (fun kk v89 wq => ∃ i : Nat, v89 = .int .i64 i ∧ Aside0 (i ≤ mj.length ∧ kk = mj.length - i) ∧ Aside0 (Fr B0 T b S M O N F E K (some ad) c ts W0 W v x xb wq { sj with seen := dels sj.seen (mj.take i) } vj cj (.slice Am mj.length cm) mj))
                case atStart => exact ⟨0, rfl, ⟨Nat.zero_le _, rfl⟩, HFR⟩
                case round =>
                  clear HFR tx tF
                  obtain ⟨i, rfl, hi, HFR⟩ := hrel
                  by_cases hil : i < mj.length
                  · have c1 : decide ((i : Int) < (mj.length : Int)) = true := decide_eq_true (by omega)
                    have c2 : decide (i < mj.length) = true := decide_eq_true hil
                    have c3 : (i : Int) < (mj.length : Int) := by omega
                    have c4 : (0 : Int) ≤ (i : Int) := by omega
                    have c5 : (i : Int) < ((strK mj).length : Int) := by rw [strK_len]; exact c3
                    obtain ⟨an, csn, eN, _, hKn, hcelln⟩ := Kd.C_get (Kd.R_reads' HFR.out.mi).2.2 ByteArray.empty (i : Int) c4 c5
                    rw [Int.toNat_natCast] at hKn hcelln
                    rw [strK_get mj i hil] at hKn
                    obtain ⟨t, ht⟩ : ∃ t : ByteArray, t = ⟨(mj[i]).toArray⟩ := ⟨_, rfl⟩
                    rw [← ht] at hKn
                    subst eN
                    have hKn' : csn = [.string t] := hKn
                    subst hKn'
                    have cn := hcelln 0 _ rfl
                    rw [show Kd.string.sz = 1 from rfl, Nat.mul_one, Nat.add_zero] at cn
                    have cS := HFR.out.cS
                    have htl : t.data.toList = mj[i] := by rw [ht]
                    have hts : t.size ≤ maxLen := by
                      have h1 : t.size = t.data.toList.length := (Array.length_toList).symm
                      rw [h1, htl]
                      exact HML.out.1 _ (List.getElem_mem hil)
                    have HTL := Aside0.mk htl
                    have HTS := Aside0.mk hts
                    clear ht htl hts hKn hcelln
                    go_wp2_with (first
                      | ((with_reducible refine gate_builtin (b := .delete) (xs := #[.tmp 93, .tmp 94]) rfl ?_); refine at_del rfl (.tmp 93) (.tmp 94) 128 3 rfl Try.underlying128 rfl HFR.out.sv.own t rfl HTS.out ?_; intro w9 ho hk; rw [HTL.out, del_sV] at ho; have HF9 := Aside0.mk (HFR.out.seen hk ho); clear ho hk)
                      | fail)
                    go_roundg (mj.length - (i + 1))
                    case measure => have := hi.out; omega
                    case rel => exact ⟨i + 1, rfl, ⟨by omega, rfl⟩, ⟨by rw [dels_take _ _ _ hil]; exact HF9.out⟩⟩
                  · have c1 : decide ((i : Int) < (mj.length : Int)) = false := decide_eq_false (by omega)
                    have c2 : decide (i < mj.length) = false := decide_eq_false hil
                    have hZ : Z = ({ sj with seen := dels sj.seen mj }, tellS x s) := by rw [HSL.out, if_neg (fun h => h HF1.out), HRE.out]
                    have hti : mj.take i = mj := List.take_of_length_le (by omega)
                    rw [hti] at HFR
                    have HZ := Aside0.mk hZ
                    clear hZ hti
                    go_wp2_with (fail)
                    go_ret2
                    exact ⟨by rw [HZ.out, HTE.out]; exact congrArg (fun q => Ending.returned (.tuple #[.string q, .int .i64 (s.made : Int)])) (key_str x).symm, by rw [HZ.out]; exact ⟨vj, HFR.out.sv.more (by have := HML.out.2.1; omega), HFR.out.kb, HFR.out.V⟩⟩
            · have a1 : decide ((j : Int) < x.f1) = false := decide_eq_false (by rw [← HKL.out]; omega)
              have HRE : Aside0 (R = (sj, mj)) := ⟨by
                rw [← HSK.out, List.drop_of_length_le (by omega)]
                rfl⟩
              have hml : mj.length ≤ 2048 := by have := HPJ.out.2.2.2.2; have := hj.out; omega
              have HML := Aside0.mk HPJ.out.2.2
              clear HPJ HSK
              go_wp2_with (fail)
              go_loopg [89] mj.length (fun kk v89 wq => ∃ i : Nat, v89 = .int .i64 i ∧ Aside0 (i ≤ mj.length ∧ kk = mj.length - i) ∧ Aside0 (Fr B0 T b S M O N F E K (some ad) c ts W0 W v x xb wq { sj with seen := dels sj.seen (mj.take i) } vj cj (.slice Am mj.length cm) mj))
              case atStart => exact ⟨0, rfl, ⟨Nat.zero_le _, rfl⟩, HFR⟩
              case round =>
                clear HFR tx tF
                obtain ⟨i, rfl, hi, HFR⟩ := hrel
                by_cases hil : i < mj.length
                · have c1 : decide ((i : Int) < (mj.length : Int)) = true := decide_eq_true (by omega)
                  have c2 : decide (i < mj.length) = true := decide_eq_true hil
                  have c3 : (i : Int) < (mj.length : Int) := by omega
                  have c4 : (0 : Int) ≤ (i : Int) := by omega
                  have c5 : (i : Int) < ((strK mj).length : Int) := by rw [strK_len]; exact c3
                  obtain ⟨an, csn, eN, _, hKn, hcelln⟩ := Kd.C_get (Kd.R_reads' HFR.out.mi).2.2 ByteArray.empty (i : Int) c4 c5
                  rw [Int.toNat_natCast] at hKn hcelln
                  rw [strK_get mj i hil] at hKn
                  obtain ⟨t, ht⟩ : ∃ t : ByteArray, t = ⟨(mj[i]).toArray⟩ := ⟨_, rfl⟩
                  rw [← ht] at hKn
                  subst eN
                  have hKn' : csn = [.string t] := hKn
                  subst hKn'
                  have cn := hcelln 0 _ rfl
                  rw [show Kd.string.sz = 1 from rfl, Nat.mul_one, Nat.add_zero] at cn
                  have cS := HFR.out.cS
                  have htl : t.data.toList = mj[i] := by rw [ht]
                  have hts : t.size ≤ maxLen := by
                    have h1 : t.size = t.data.toList.length := (Array.length_toList).symm
                    rw [h1, htl]
                    exact HML.out.1 _ (List.getElem_mem hil)
                  have HTL := Aside0.mk htl
                  have HTS := Aside0.mk hts
                  clear ht htl hts hKn hcelln
                  go_wp2_with (first
                    | ((with_reducible refine gate_builtin (b := .delete) (xs := #[.tmp 93, .tmp 94]) rfl ?_); refine at_del rfl (.tmp 93) (.tmp 94) 128 3 rfl Try.underlying128 rfl HFR.out.sv.own t rfl HTS.out ?_; intro w9 ho hk; rw [HTL.out, del_sV] at ho; have HF9 := Aside0.mk (HFR.out.seen hk ho); clear ho hk)
                    | fail)
                  go_roundg (mj.length - (i + 1))
                  case measure => have := hi.out; omega
                  case rel => exact ⟨i + 1, rfl, ⟨by omega, rfl⟩, ⟨by rw [dels_take _ _ _ hil]; exact HF9.out⟩⟩
                · have c1 : decide ((i : Int) < (mj.length : Int)) = false := decide_eq_false (by omega)
                  have c2 : decide (i < mj.length) = false := decide_eq_false hil
                  have hZ : Z = ({ sj with seen := dels sj.seen mj }, tellS x s) := by rw [HSL.out, if_neg (fun h => h HF1.out), HRE.out]
                  have hti : mj.take i = mj := List.take_of_length_le (by omega)
                  rw [hti] at HFR
                  have HZ := Aside0.mk hZ
                  clear hZ hti
                  go_wp2_with (fail)
                  go_ret2
                  exact ⟨by rw [HZ.out, HTE.out]; exact congrArg (fun q => Ending.returned (.tuple #[.string q, .int .i64 (s.made : Int)])) (key_str x).symm, by rw [HZ.out]; exact ⟨vj, HFR.out.sv.more (by have := HML.out.2.1; omega), HFR.out.kb, HFR.out.V⟩⟩
        · have e2 : (x.f0 == 2) = false := by rw [h]; rfl
          have e4 : (x.f0 == 4) = true := by rw [h]; rfl
          have hm : makes x = true := by unfold makes; rw [e2, e4]; rfl
          have HTE : Aside0 (tellS x s = (key x, (s.made : Int))) := ⟨by unfold tellS; rw [hm]; rfl⟩
          have hh : s1 = enterS s (key x) := by rw [hs1]; unfold headS; rw [hm]; rfl
          have HH := Aside0.mk hh
          clear h hm hh hs1
          have cM : (W.alloc (.cells #[.int .u8 x.f0, .int .i64 x.f1, .int .i64 x.f2, .string x.f3] 61)).cell? ⟨M, 0, none⟩ = some (.int .i64 s.made) := by rw [blk_cell HSX.out.m]; rfl
          have tx3 : (W.alloc (.cells #[.int .u8 x.f0, .int .i64 x.f1, .int .i64 x.f2, .string x.f3] 61)).cell? ⟨W.heap.size, 3, none⟩ = some (.string x.f3) := by rw [blk_cell HQX.out]; rfl
          have lX : W.heap.size < (W.alloc (.cells #[.int .u8 x.f0, .int .i64 x.f1, .int .i64 x.f2, .string x.f3] 61)).heap.size := by rw [World.size_alloc]; omega
          have lM := blk_lt HSX.out.m
          go_enter Try.func90, Try.ntmps90
          go_wp2_with (fail)
          go_region
          have HSD := Aside0.mk (HSX.out.below (below_drew (Below.refl _ _)))
          have HQD := Aside0.mk (blk_below HQX.out (below_drew (Below.refl _ _)))
          have HBD := Aside0.mk (below_drew (below_alloc (Below.refl _ W) (.cells #[.int .u8 x.f0, .int .i64 x.f1, .int .i64 x.f2, .string x.f3] 61)))
          obtain ⟨wd, hwd⟩ : ∃ wd, wd = (W.alloc (.cells #[.int .u8 x.f0, .int .i64 x.f1, .int .i64 x.f2, .string x.f3] 61)).drew := ⟨_, rfl⟩
          rw [← hwd] at HSD HQD HBD
          rw [← hwd]
          clear hwd cM tx3 lX lM
          have cE : wd.cell? ⟨E, 0, none⟩ = some (.func (.func 89) #[] #[.pointer (some ⟨S, 0, none⟩), .pointer (some ⟨F, 0, none⟩), .pointer (some ⟨M, 0, none⟩), .pointer (some ⟨O, 0, none⟩)]) := by rw [blk_cell HSD.out.e]; rfl
          go_wp2_with (first
            | ((with_reducible refine gate_dst (N := 38) rfl ?_); refine goesF_ (some 38) rfl rfl (.tmp 36) #[.pointer (some ⟨S, 0, none⟩), .pointer (some ⟨F, 0, none⟩), .pointer (some ⟨M, 0, none⟩), .pointer (some ⟨O, 0, none⟩)] rfl Try.func89 (by kernel_rfl) rfl #[.string x.f3, .pointer (some ⟨S, 0, none⟩), .pointer (some ⟨F, 0, none⟩), .pointer (some ⟨M, 0, none⟩), .pointer (some ⟨O, 0, none⟩)] rfl (by (try simp only [List.map_toArray, List.map_cons, List.map_nil]); first | done | rfl) ?_; refine (enter_c HSD.out x.f3 HXS.out hoL hmL).mono ?_; rintro e w1 ⟨he, ha6⟩; subst he; refine ⟨_, rfl, ?_⟩; obtain ⟨v6, hs6, hk6, hv6⟩ := ha6; have hs6 : Sv B0 T b S M O N F E K (some ad) c ts W0 w1 (enterS s (key x)) v6 cnt := hs6; rw [← HH.out] at hs6; have HS6 := Aside0.mk hs6; have HK6 := Aside0.mk hk6; have HV6 := Aside0.mk hv6; have cF1 : w1.cell? ⟨F, 0, none⟩ = some (.int .i64 0) := (by rw [blk_cell hs6.f, HFQ.out]; rfl); have cN1 : w1.cell? ⟨N, 0, none⟩ = some (.int .i64 s.next) := (by rw [blk_cell hs6.n, HH.out]; rfl); have fN1 := blk_frozen hs6.n 0; have lN1 := blk_lt hs6.n; clear hs6 hk6 hv6)
            | fail)
          have HL : Aside0 (Fr B0 T b S M O N F E K (some ad) c ts W0 W v x W.heap.size (w1.setCell ⟨N, 0, none⟩ (.int .i64 ((s.next : Int) + 1))) s2 v6 cnt (.slice none 0 0) []) := ⟨by
            rw [HS2.out]
            exact fr_start HS.out (HS6.out.setN (s.next + 1)) (((Kb.of_below _ HBD.out).trans HK6.out).trans (chgN _ _)) ((Mv.refl v W).trans HBD.out.size HV6.out)
              ((kset _ N _).blk (HK6.out.blk HQD.out (fun e => (chg_box (T := T) (S := S) (E := E) (K := K) e).elim (fun e => by have := HNE.out; have := HLT.out; unfold Bxs at e; omega) (Kd.R_ne HSD.out.R HQD.out (by decide)))) (by have := HNE.out; have := HLT.out; omega))⟩
          clear HS6 HK6 HV6 cE cF1 cN1 fN1 lN1 HSD HQD HBD
          clear cT cN q0 q1 q2 q3 HSX HQX
          obtain ⟨xb, hxb⟩ : ∃ xb, xb = W.heap.size := ⟨_, rfl⟩
          rw [← hxb] at HL
          rw [← hxb]
          clear hxb
          go_loopg [15, 16] ks.length (fun kk v15 v16 wr => ∃ (j : Nat) (sj : St) (vj : Value) (Am : Option Addr) (cm : Nat) (mj : List Ky) (cj : Nat), v15 = .slice Am mj.length cm ∧ v16 = .int .i64 j ∧ Aside0 (j ≤ ks.length ∧ kk = ks.length - j) ∧ Aside0 (slK (ks.drop j) sj mj = R) ∧
            Aside0 (Pin sj ∧ (sj.fault = 0 → ts.drop sj.next = flats (ks.drop j) ++ rest) ∧ (∀ k ∈ mj, k.length ≤ maxLen) ∧ cj + (flats (ks.drop j)).length ≤ cnt + (flats ks).length ∧ mj.length ≤ j) ∧ Aside0 (Fr B0 T b S M O N F E K (some ad) c ts W0 W v x xb wr sj vj cj (.slice Am mj.length cm) mj))
          case atStart => exact ⟨0, s2, _, none, 0, [], cnt, rfl, rfl, ⟨Nat.zero_le _, rfl⟩, ⟨by rw [HR.out, HS2.out]; rfl⟩, ⟨by rw [HS2.out]; exact ⟨HP.out.1, by have := HP.out.2; dsimp only; omega, fun _ => HP.out.2⟩, fun _ => by rw [HS2.out]; exact HD2.out, (fun k hk => nomatch hk), Nat.le_refl _, Nat.le_refl _⟩, HL⟩
          case round =>
            clear HL
            obtain ⟨j, sj, vj, Am, cm, mj, cj, rfl, rfl, hj, HSK, HPJ, HFR⟩ := hrel
            have tx : wr.cell? ⟨xb, 1, none⟩ = some (.int .i64 x.f1) := by rw [blk_cell HFR.out.x]; rfl
            have tF : wr.cell? ⟨F, 0, none⟩ = some (.int .i64 sj.fault) := by rw [blk_cell HFR.out.sv.f]; rfl
            by_cases hjl : j < ks.length
            · have hjl2 : (j : Int) < x.f1 := by rw [← HKL.out]; omega
              have a1 : decide ((j : Int) < x.f1) = true := decide_eq_true hjl2
              by_cases hfj : sj.fault = 0
              · rw [hfj] at tF
                have tK : wr.cell? ⟨K, 0, none⟩ = some (.func (.func 90) #[] #[.pointer (some ⟨T, 0, none⟩), .pointer (some ⟨N, 0, none⟩), .pointer (some ⟨M, 0, none⟩), .pointer (some ⟨E, 0, none⟩), .pointer (some ⟨S, 0, none⟩), .pointer (some ⟨F, 0, none⟩), .pointer (some ⟨O, 0, none⟩), .pointer (some ⟨K, 0, none⟩)]) := by rw [blk_cell HFR.out.sv.k]; rfl
                obtain ⟨k, hk⟩ : ∃ k, k = ks[j] := ⟨_, rfl⟩
                have hdk : ks.drop j = k :: ks.drop (j + 1) := by rw [hk]; exact List.drop_eq_getElem_cons hjl
                have hkm : k ∈ ks := by rw [hk]; exact List.getElem_mem hjl
                have hpj := HPJ.out
                have hsk := HSK.out
                rw [hdk] at hpj hsk
                obtain ⟨Y, hY⟩ : ∃ Y, Y = slT k sj := ⟨_, rfl⟩
                have hflk : (flats (k :: ks.drop (j + 1))).length = (flat k).length + (flats (ks.drop (j + 1))).length := by simp [flats]
                have hdj : ts.drop sj.next = flat k ++ (flats (ks.drop (j + 1)) ++ rest) := by rw [hpj.2.1 hfj]; simp [flats]
                have hic := HI.out k sj wr vj cj (flats (ks.drop (j + 1)) ++ rest) (HA.out k hkm) hdj HFR.out.sv hfj hpj.1 (by have := HC.out; omega)
                have hpy := slT_pin k sj hpj.1 hfj
                have hnmy := slT_name k sj
                have hszk : (key k.top).length ≤ maxLen := by
                  obtain ⟨y, kk2⟩ := k
                  have h1 : ts.drop sj.next = y :: (flats kk2 ++ (flats (ks.drop (j + 1)) ++ rest)) := by rw [hdj]; rfl
                  have h2 := HSZ.out y (rd_drop h1).2.2.2
                  exact Nat.le_trans (Nat.le_of_eq (Array.length_toList)) h2
                unfold slK at hsk
                rw [if_neg (fun h => h hfj)] at hsk
                rw [← hY] at hic hpy hnmy hsk
                obtain ⟨sy, ny, iy⟩ := Y
                dsimp only at hic hpy hnmy hsk
                have hny : ny.length ≤ maxLen := by rcases hnmy with h | h <;> rw [h]; exact Nat.zero_le _; exact hszk
                have hpos := flat_pos k
                have hcc : cj + (flat k).length - 1 + 1 + (flats (ks.drop (j + 1))).length ≤ cnt + (flats ks).length := by have := hpj.2.2.2.1; omega
                have hdn : sy.fault = 0 → ts.drop sy.next = flats (ks.drop (j + 1)) ++ rest := fun e => by
                  rw [hpy.2 e, ← List.drop_drop, hdj, List.drop_left]
                have HIC := Aside0.mk hic
                have HPY := Aside0.mk hpy.1
                have HNY := Aside0.mk hny
                have HSK2 := Aside0.mk hsk
                have HCC := Aside0.mk hcc
                have HDN := Aside0.mk hdn
                have HMJ := Aside0.mk hpj.2.2
                have HFJ := Aside0.mk hfj
                have HJL := Aside0.mk (show mj.length ≤ j from hpj.2.2.2.2)
                obtain ⟨t, ht⟩ : ∃ t : ByteArray, t = ⟨ny.toArray⟩ := ⟨_, rfl⟩
                rw [← ht] at HIC
                have htl : t.data.toList = ny := by rw [ht]
                clear hk hdk hkm hpj hY hflk hdj hic hpy hnmy hszk hny hpos hcc hdn hsk hfj
                by_cases hn0 : ny = []
                · subst hn0
                  have ht0 : t = ⟨#[]⟩ := ht.trans rfl
                  subst ht0
                  have HSK3 : Aside0 (slK (ks.drop (j + 1)) sy mj = R) := ⟨by have := HSK2.out; rwa [if_neg (fun h => h.1 rfl)] at this⟩
                  clear ht htl HSK2
                  go_wp2_with (first
                    | ((with_reducible refine gate_dst (N := 71) rfl ?_); refine goesF_ (some 71) rfl rfl (.tmp 70) #[.pointer (some ⟨T, 0, none⟩), .pointer (some ⟨N, 0, none⟩), .pointer (some ⟨M, 0, none⟩), .pointer (some ⟨E, 0, none⟩), .pointer (some ⟨S, 0, none⟩), .pointer (some ⟨F, 0, none⟩), .pointer (some ⟨O, 0, none⟩), .pointer (some ⟨K, 0, none⟩)] rfl Try.func90 (by kernel_rfl) rfl #[.pointer (some ⟨T, 0, none⟩), .pointer (some ⟨N, 0, none⟩), .pointer (some ⟨M, 0, none⟩), .pointer (some ⟨E, 0, none⟩), .pointer (some ⟨S, 0, none⟩), .pointer (some ⟨F, 0, none⟩), .pointer (some ⟨O, 0, none⟩), .pointer (some ⟨K, 0, none⟩)] rfl (by (try simp only [List.map_toArray, List.map_cons, List.map_nil]); first | done | rfl) ?_; refine HIC.out.mono ?_; rintro e w6 ⟨he, ha6⟩; subst he; refine ⟨_, rfl, ?_⟩; obtain ⟨v6, hf6⟩ := HFR.out.after ha6; have HF6 := Aside0.mk hf6; have tF6 : w6.cell? ⟨F, 0, none⟩ = some (.int .i64 sy.fault) := (by rw [blk_cell hf6.sv.f]; rfl); clear ha6 hf6)
                    | fail)
                  go_roundg (ks.length - (j + 1))
                  case measure => have := hj.out; omega
                  case rel => exact ⟨j + 1, sy, v6, Am, cm, mj, cj + (flat k).length - 1 + 1, rfl, rfl, ⟨by omega, rfl⟩, HSK3, ⟨HPY.out, HDN.out, HMJ.out.1, HCC.out, by have := HJL.out; omega⟩, ⟨HF6.out.more (Nat.le_succ _)⟩⟩
                · have n1 : (t == (⟨#[]⟩ : ByteArray)) = false := by rw [Bool.eq_false_iff]; intro h; exact hn0 (by rw [← htl, (Go.MapKept.bytes_beq _ _).1 h])
                  have n2 : (t != (⟨#[]⟩ : ByteArray)) = true := by unfold bne; rw [n1]; rfl
                  have n3 : decide (t = (⟨#[]⟩ : ByteArray)) = false := decide_eq_false (fun h => hn0 (by rw [← htl, h]))
                  have n4 : t.toList.isEmpty = false := by
                    rw [ByteArray.toList_eq, htl]
                    cases ny with
                    | nil => exact absurd rfl hn0
                    | cons a r => rfl
                  have n5 : (t.toList = []) = False := eq_false (fun h => by rw [h] at n4; exact absurd n4 (by decide))
                  have HN0 := Aside0.mk hn0
                  have HTL := Aside0.mk htl
                  have HT := Aside0.mk ht
                  by_cases hfy : sy.fault = 0
                  · have HSK3 : Aside0 (slK (ks.drop (j + 1)) { sy with seen := put sy.seen ny iy } (mj ++ [ny]) = R) := ⟨by have := HSK2.out; rwa [if_pos ⟨hn0, hfy⟩] at this⟩
                    have HFY := Aside0.mk hfy
                    clear hn0 htl ht HSK2 hfy
                    go_wp2_with (first
                      | ((with_reducible refine gate_dst (N := 71) rfl ?_); refine goesF_ (some 71) rfl rfl (.tmp 70) #[.pointer (some ⟨T, 0, none⟩), .pointer (some ⟨N, 0, none⟩), .pointer (some ⟨M, 0, none⟩), .pointer (some ⟨E, 0, none⟩), .pointer (some ⟨S, 0, none⟩), .pointer (some ⟨F, 0, none⟩), .pointer (some ⟨O, 0, none⟩), .pointer (some ⟨K, 0, none⟩)] rfl Try.func90 (by kernel_rfl) rfl #[.pointer (some ⟨T, 0, none⟩), .pointer (some ⟨N, 0, none⟩), .pointer (some ⟨M, 0, none⟩), .pointer (some ⟨E, 0, none⟩), .pointer (some ⟨S, 0, none⟩), .pointer (some ⟨F, 0, none⟩), .pointer (some ⟨O, 0, none⟩), .pointer (some ⟨K, 0, none⟩)] rfl (by (try simp only [List.map_toArray, List.map_cons, List.map_nil]); first | done | rfl) ?_; refine HIC.out.mono ?_; rintro e w6 ⟨he, ha6⟩; subst he; refine ⟨_, rfl, ?_⟩; obtain ⟨v6, hf6⟩ := HFR.out.after ha6; have HF6 := Aside0.mk hf6; have tF6 : w6.cell? ⟨F, 0, none⟩ = some (.int .i64 0) := (by rw [blk_cell hf6.sv.f, HFY.out]; rfl); clear ha6 hf6)
                      | ((with_reducible refine gate_builtin (b := .append) (xs := #[.tmp 80, .tmp 82]) rfl ?_); at_builtin; refine Kd.R_append Kd.string (w0 := w6) W.heap.size rfl (.tmp 80) (.tmp 82) 58 9 (.string ⟨#[]⟩) 16 rfl Try.underlying58 info9 rfl (by decide) (by decide) (.slice Am mj.length cm) _ t [.string t] (fun _ => True) (fun _ => False) rfl rfl rfl (fun _ hk => hk.elim) (fun _ _ => trivial) HF6.out.mi (Below.refl _ _) HF6.out.kb.size (by rw [strK_len]; have := HJL.out; omega) ?_; intro v8 w8 ho hb hg hat; obtain ⟨A8, c8, e8⟩ := Kd.R_slice ho; have e9 : v8 = .slice A8 (mj.length + 1) c8 := (by rw [e8, List.length_append, strK_len]; rfl); clear e8; subst e9; rw [HT.out] at ho; have HF7 := Aside0.mk (HF6.out.app ho hg); have tS7 : w8.cell? ⟨S, 0, none⟩ = some (.map (some b)) := (by rw [blk_cell HF7.out.sv.sm]; rfl); clear ho hb hg hat)
                      | ((with_reducible refine gate_ (.mapUpdate 128 (.tmp 84) (.tmp 85) (.tmp 86)) rfl ?_); refine at_put rfl (.tmp 84) (.tmp 85) (.tmp 86) 128 3 rfl Try.underlying128 rfl HF7.out.sv.own (by have := HCC.out; have := HC.out; unfold maxLen; omega) t rfl (by have h1 : t.size = t.data.toList.length := (Array.length_toList).symm; rw [h1, HTL.out]; exact HNY.out) (.int .i64 iy) rfl ?_; intro w9 ho hk; rw [HTL.out, show Value.int .i64 iy = inV iy from rfl, put_sV] at ho; have HF8 := Aside0.mk (HF7.out.seen hk ho); clear ho hk)
                      | fail)
                    go_roundg (ks.length - (j + 1))
                    case measure => have := hj.out; omega
                    case rel => exact ⟨j + 1, { sy with seen := put sy.seen ny iy }, v6, A8, c8, mj ++ [ny], cj + (flat k).length - 1 + 1, by rw [List.length_append]; rfl, rfl, ⟨by omega, rfl⟩, HSK3, ⟨HPY.out, HDN.out, fun q hq => (List.mem_append.1 hq).elim (HMJ.out.1 q) (fun e => by rw [List.mem_singleton.1 e]; exact HNY.out), HCC.out, by have := HJL.out; rw [List.length_append]; show mj.length + 1 ≤ j + 1; omega⟩, ⟨by rw [List.length_append]; exact HF8.out⟩⟩
                  · have HSK3 : Aside0 (slK (ks.drop (j + 1)) sy mj = R) := ⟨by have := HSK2.out; rwa [if_neg (fun h => hfy h.2)] at this⟩
                    have m1 : (sy.fault == 0) = false := beq_eq_false_iff_ne.2 hfy
                    have m2 : decide (sy.fault = 0) = false := decide_eq_false hfy
                    clear hn0 htl ht HSK2 hfy
                    go_wp2_with (first
                      | ((with_reducible refine gate_dst (N := 71) rfl ?_); refine goesF_ (some 71) rfl rfl (.tmp 70) #[.pointer (some ⟨T, 0, none⟩), .pointer (some ⟨N, 0, none⟩), .pointer (some ⟨M, 0, none⟩), .pointer (some ⟨E, 0, none⟩), .pointer (some ⟨S, 0, none⟩), .pointer (some ⟨F, 0, none⟩), .pointer (some ⟨O, 0, none⟩), .pointer (some ⟨K, 0, none⟩)] rfl Try.func90 (by kernel_rfl) rfl #[.pointer (some ⟨T, 0, none⟩), .pointer (some ⟨N, 0, none⟩), .pointer (some ⟨M, 0, none⟩), .pointer (some ⟨E, 0, none⟩), .pointer (some ⟨S, 0, none⟩), .pointer (some ⟨F, 0, none⟩), .pointer (some ⟨O, 0, none⟩), .pointer (some ⟨K, 0, none⟩)] rfl (by (try simp only [List.map_toArray, List.map_cons, List.map_nil]); first | done | rfl) ?_; refine HIC.out.mono ?_; rintro e w6 ⟨he, ha6⟩; subst he; refine ⟨_, rfl, ?_⟩; obtain ⟨v6, hf6⟩ := HFR.out.after ha6; have HF6 := Aside0.mk hf6; have tF6 : w6.cell? ⟨F, 0, none⟩ = some (.int .i64 sy.fault) := (by rw [blk_cell hf6.sv.f]; rfl); clear ha6 hf6)
                      | fail)
                    go_roundg (ks.length - (j + 1))
                    case measure => have := hj.out; omega
                    case rel => exact ⟨j + 1, sy, v6, Am, cm, mj, cj + (flat k).length - 1 + 1, rfl, rfl, ⟨by omega, rfl⟩, HSK3, ⟨HPY.out, HDN.out, HMJ.out.1, HCC.out, by have := HJL.out; omega⟩, ⟨HF6.out.more (Nat.le_succ _)⟩⟩
              · have m1 : (sj.fault == 0) = false := beq_eq_false_iff_ne.2 hfj
                have m2 : decide (sj.fault = 0) = false := decide_eq_false hfj
                have HRE : Aside0 (R = (sj, mj)) := ⟨by
                  rw [← HSK.out]
                  cases hdk : ks.drop j with
                  | nil => rfl
                  | cons k r => unfold slK; rw [if_pos hfj]⟩
                clear hfj
                have hml : mj.length ≤ 2048 := by have := HPJ.out.2.2.2.2; have := hj.out; omega
                have HML := Aside0.mk HPJ.out.2.2
                clear HPJ HSK
                go_wp2_with (fail)
                go_loopg [89] mj.length (fun kk v89 wq => ∃ i : Nat, v89 = .int .i64 i ∧ Aside0 (i ≤ mj.length ∧ kk = mj.length - i) ∧ Aside0 (Fr B0 T b S M O N F E K (some ad) c ts W0 W v x xb wq { sj with seen := dels sj.seen (mj.take i) } vj cj (.slice Am mj.length cm) mj))
                case atStart => exact ⟨0, rfl, ⟨Nat.zero_le _, rfl⟩, HFR⟩
                case round =>
                  clear HFR tx tF
                  obtain ⟨i, rfl, hi, HFR⟩ := hrel
                  by_cases hil : i < mj.length
                  · have c1 : decide ((i : Int) < (mj.length : Int)) = true := decide_eq_true (by omega)
                    have c2 : decide (i < mj.length) = true := decide_eq_true hil
                    have c3 : (i : Int) < (mj.length : Int) := by omega
                    have c4 : (0 : Int) ≤ (i : Int) := by omega
                    have c5 : (i : Int) < ((strK mj).length : Int) := by rw [strK_len]; exact c3
                    obtain ⟨an, csn, eN, _, hKn, hcelln⟩ := Kd.C_get (Kd.R_reads' HFR.out.mi).2.2 ByteArray.empty (i : Int) c4 c5
                    rw [Int.toNat_natCast] at hKn hcelln
                    rw [strK_get mj i hil] at hKn
                    obtain ⟨t, ht⟩ : ∃ t : ByteArray, t = ⟨(mj[i]).toArray⟩ := ⟨_, rfl⟩
                    rw [← ht] at hKn
                    subst eN
                    have hKn' : csn = [.string t] := hKn
                    subst hKn'
                    have cn := hcelln 0 _ rfl
                    rw [show Kd.string.sz = 1 from rfl, Nat.mul_one, Nat.add_zero] at cn
                    have cS := HFR.out.cS
                    have htl : t.data.toList = mj[i] := by rw [ht]
                    have hts : t.size ≤ maxLen := by
                      have h1 : t.size = t.data.toList.length := (Array.length_toList).symm
                      rw [h1, htl]
                      exact HML.out.1 _ (List.getElem_mem hil)
                    have HTL := Aside0.mk htl
                    have HTS := Aside0.mk hts
                    clear ht htl hts hKn hcelln
                    go_wp2_with (first
                      | ((with_reducible refine gate_builtin (b := .delete) (xs := #[.tmp 93, .tmp 94]) rfl ?_); refine at_del rfl (.tmp 93) (.tmp 94) 128 3 rfl Try.underlying128 rfl HFR.out.sv.own t rfl HTS.out ?_; intro w9 ho hk; rw [HTL.out, del_sV] at ho; have HF9 := Aside0.mk (HFR.out.seen hk ho); clear ho hk)
                      | fail)
                    go_roundg (mj.length - (i + 1))
                    case measure => have := hi.out; omega
                    case rel => exact ⟨i + 1, rfl, ⟨by omega, rfl⟩, ⟨by rw [dels_take _ _ _ hil]; exact HF9.out⟩⟩
                  · have c1 : decide ((i : Int) < (mj.length : Int)) = false := decide_eq_false (by omega)
                    have c2 : decide (i < mj.length) = false := decide_eq_false hil
                    have hZ : Z = ({ sj with seen := dels sj.seen mj }, tellS x s) := by rw [HSL.out, if_neg (fun h => h HF1.out), HRE.out]
                    have hti : mj.take i = mj := List.take_of_length_le (by omega)
                    rw [hti] at HFR
                    have HZ := Aside0.mk hZ
                    clear hZ hti
                    go_wp2_with (fail)
                    go_ret2
                    exact ⟨by rw [HZ.out, HTE.out]; exact congrArg (fun q => Ending.returned (.tuple #[.string q, .int .i64 (s.made : Int)])) (key_str x).symm, by rw [HZ.out]; exact ⟨vj, HFR.out.sv.more (by have := HML.out.2.1; omega), HFR.out.kb, HFR.out.V⟩⟩
            · have a1 : decide ((j : Int) < x.f1) = false := decide_eq_false (by rw [← HKL.out]; omega)
              have HRE : Aside0 (R = (sj, mj)) := ⟨by
                rw [← HSK.out, List.drop_of_length_le (by omega)]
                rfl⟩
              have hml : mj.length ≤ 2048 := by have := HPJ.out.2.2.2.2; have := hj.out; omega
              have HML := Aside0.mk HPJ.out.2.2
              clear HPJ HSK
              go_wp2_with (fail)
              go_loopg [89] mj.length (fun kk v89 wq => ∃ i : Nat, v89 = .int .i64 i ∧ Aside0 (i ≤ mj.length ∧ kk = mj.length - i) ∧ Aside0 (Fr B0 T b S M O N F E K (some ad) c ts W0 W v x xb wq { sj with seen := dels sj.seen (mj.take i) } vj cj (.slice Am mj.length cm) mj))
              case atStart => exact ⟨0, rfl, ⟨Nat.zero_le _, rfl⟩, HFR⟩
              case round =>
                clear HFR tx tF
                obtain ⟨i, rfl, hi, HFR⟩ := hrel
                by_cases hil : i < mj.length
                · have c1 : decide ((i : Int) < (mj.length : Int)) = true := decide_eq_true (by omega)
                  have c2 : decide (i < mj.length) = true := decide_eq_true hil
                  have c3 : (i : Int) < (mj.length : Int) := by omega
                  have c4 : (0 : Int) ≤ (i : Int) := by omega
                  have c5 : (i : Int) < ((strK mj).length : Int) := by rw [strK_len]; exact c3
                  obtain ⟨an, csn, eN, _, hKn, hcelln⟩ := Kd.C_get (Kd.R_reads' HFR.out.mi).2.2 ByteArray.empty (i : Int) c4 c5
                  rw [Int.toNat_natCast] at hKn hcelln
                  rw [strK_get mj i hil] at hKn
                  obtain ⟨t, ht⟩ : ∃ t : ByteArray, t = ⟨(mj[i]).toArray⟩ := ⟨_, rfl⟩
                  rw [← ht] at hKn
                  subst eN
                  have hKn' : csn = [.string t] := hKn
                  subst hKn'
                  have cn := hcelln 0 _ rfl
                  rw [show Kd.string.sz = 1 from rfl, Nat.mul_one, Nat.add_zero] at cn
                  have cS := HFR.out.cS
                  have htl : t.data.toList = mj[i] := by rw [ht]
                  have hts : t.size ≤ maxLen := by
                    have h1 : t.size = t.data.toList.length := (Array.length_toList).symm
                    rw [h1, htl]
                    exact HML.out.1 _ (List.getElem_mem hil)
                  have HTL := Aside0.mk htl
                  have HTS := Aside0.mk hts
                  clear ht htl hts hKn hcelln
                  go_wp2_with (first
                    | ((with_reducible refine gate_builtin (b := .delete) (xs := #[.tmp 93, .tmp 94]) rfl ?_); refine at_del rfl (.tmp 93) (.tmp 94) 128 3 rfl Try.underlying128 rfl HFR.out.sv.own t rfl HTS.out ?_; intro w9 ho hk; rw [HTL.out, del_sV] at ho; have HF9 := Aside0.mk (HFR.out.seen hk ho); clear ho hk)
                    | fail)
                  go_roundg (mj.length - (i + 1))
                  case measure => have := hi.out; omega
                  case rel => exact ⟨i + 1, rfl, ⟨by omega, rfl⟩, ⟨by rw [dels_take _ _ _ hil]; exact HF9.out⟩⟩
                · have c1 : decide ((i : Int) < (mj.length : Int)) = false := decide_eq_false (by omega)
                  have c2 : decide (i < mj.length) = false := decide_eq_false hil
                  have hZ : Z = ({ sj with seen := dels sj.seen mj }, tellS x s) := by rw [HSL.out, if_neg (fun h => h HF1.out), HRE.out]
                  have hti : mj.take i = mj := List.take_of_length_le (by omega)
                  rw [hti] at HFR
                  have HZ := Aside0.mk hZ
                  clear hZ hti
                  go_wp2_with (fail)
                  go_ret2
                  exact ⟨by rw [HZ.out, HTE.out]; exact congrArg (fun q => Ending.returned (.tuple #[.string q, .int .i64 (s.made : Int)])) (key_str x).symm, by rw [HZ.out]; exact ⟨vj, HFR.out.sv.more (by have := HML.out.2.1; omega), HFR.out.kb, HFR.out.V⟩⟩
      · have m1 : (s1.fault != 0) = true := bne_iff_ne.2 hf1
        have m2 : decide (s1.fault = 0) = false := decide_eq_false hf1
        have m3 : (s1.fault == 0) = false := beq_eq_false_iff_ne.2 hf1
        have HFQ := Aside0.mk hf1
        clear hf1
        rcases h with h | h
        · have e2 : (x.f0 == 2) = true := by rw [h]; rfl
          have e4 : (x.f0 == 4) = false := by rw [h]; rfl
          have hm : makes x = true := by unfold makes; rw [e2, e4]; rfl
          have HTE : Aside0 (tellS x s = (key x, (s.made : Int))) := ⟨by unfold tellS; rw [hm]; rfl⟩
          have hh : s1 = enterS s (key x) := by rw [hs1]; unfold headS; rw [hm]; rfl
          have HH := Aside0.mk hh
          clear h hm hh hs1
          have cM : (W.alloc (.cells #[.int .u8 x.f0, .int .i64 x.f1, .int .i64 x.f2, .string x.f3] 61)).cell? ⟨M, 0, none⟩ = some (.int .i64 s.made) := by rw [blk_cell HSX.out.m]; rfl
          have tx3 : (W.alloc (.cells #[.int .u8 x.f0, .int .i64 x.f1, .int .i64 x.f2, .string x.f3] 61)).cell? ⟨W.heap.size, 3, none⟩ = some (.string x.f3) := by rw [blk_cell HQX.out]; rfl
          have lX : W.heap.size < (W.alloc (.cells #[.int .u8 x.f0, .int .i64 x.f1, .int .i64 x.f2, .string x.f3] 61)).heap.size := by rw [World.size_alloc]; omega
          have lM := blk_lt HSX.out.m
          go_enter Try.func90, Try.ntmps90
          go_wp2_with (fail)
          go_region
          have HSD := Aside0.mk (HSX.out.below (below_drew (Below.refl _ _)))
          have HQD := Aside0.mk (blk_below HQX.out (below_drew (Below.refl _ _)))
          have HBD := Aside0.mk (below_drew (below_alloc (Below.refl _ W) (.cells #[.int .u8 x.f0, .int .i64 x.f1, .int .i64 x.f2, .string x.f3] 61)))
          obtain ⟨wd, hwd⟩ : ∃ wd, wd = (W.alloc (.cells #[.int .u8 x.f0, .int .i64 x.f1, .int .i64 x.f2, .string x.f3] 61)).drew := ⟨_, rfl⟩
          rw [← hwd] at HSD HQD HBD
          rw [← hwd]
          clear hwd cM tx3 lX lM
          have cE : wd.cell? ⟨E, 0, none⟩ = some (.func (.func 89) #[] #[.pointer (some ⟨S, 0, none⟩), .pointer (some ⟨F, 0, none⟩), .pointer (some ⟨M, 0, none⟩), .pointer (some ⟨O, 0, none⟩)]) := by rw [blk_cell HSD.out.e]; rfl
          go_wp2_with (first
            | ((with_reducible refine gate_dst (N := 38) rfl ?_); refine goesF_ (some 38) rfl rfl (.tmp 36) #[.pointer (some ⟨S, 0, none⟩), .pointer (some ⟨F, 0, none⟩), .pointer (some ⟨M, 0, none⟩), .pointer (some ⟨O, 0, none⟩)] rfl Try.func89 (by kernel_rfl) rfl #[.string x.f3, .pointer (some ⟨S, 0, none⟩), .pointer (some ⟨F, 0, none⟩), .pointer (some ⟨M, 0, none⟩), .pointer (some ⟨O, 0, none⟩)] rfl (by (try simp only [List.map_toArray, List.map_cons, List.map_nil]); first | done | rfl) ?_; refine (enter_c HSD.out x.f3 HXS.out hoL hmL).mono ?_; rintro e w1 ⟨he, ha6⟩; subst he; refine ⟨_, rfl, ?_⟩; obtain ⟨v6, hs6, hk6, hv6⟩ := ha6; have hs6 : Sv B0 T b S M O N F E K (some ad) c ts W0 w1 (enterS s (key x)) v6 cnt := hs6; rw [← HH.out] at hs6; have HS6 := Aside0.mk hs6; have HK6 := Aside0.mk hk6; have HV6 := Aside0.mk hv6; have cF1 : w1.cell? ⟨F, 0, none⟩ = some (.int .i64 s1.fault) := (by rw [blk_cell hs6.f]; rfl); have cN1 : w1.cell? ⟨N, 0, none⟩ = some (.int .i64 s.next) := (by rw [blk_cell hs6.n, HH.out]; rfl); have fN1 := blk_frozen hs6.n 0; have lN1 := blk_lt hs6.n; clear hs6 hk6 hv6)
            | fail)
          go_ret2
          have hZ : Z = (s1, ([], -1)) := by rw [HSL.out, if_pos HFQ.out]
          exact ⟨by rw [hZ]; rfl, by rw [hZ]; exact ⟨v6, HS6.out.more (Nat.le_add_right _ _), (Kb.of_below _ HBD.out).trans HK6.out, (Mv.refl v W).trans HBD.out.size HV6.out⟩⟩
        · have e2 : (x.f0 == 2) = false := by rw [h]; rfl
          have e4 : (x.f0 == 4) = true := by rw [h]; rfl
          have hm : makes x = true := by unfold makes; rw [e2, e4]; rfl
          have HTE : Aside0 (tellS x s = (key x, (s.made : Int))) := ⟨by unfold tellS; rw [hm]; rfl⟩
          have hh : s1 = enterS s (key x) := by rw [hs1]; unfold headS; rw [hm]; rfl
          have HH := Aside0.mk hh
          clear h hm hh hs1
          have cM : (W.alloc (.cells #[.int .u8 x.f0, .int .i64 x.f1, .int .i64 x.f2, .string x.f3] 61)).cell? ⟨M, 0, none⟩ = some (.int .i64 s.made) := by rw [blk_cell HSX.out.m]; rfl
          have tx3 : (W.alloc (.cells #[.int .u8 x.f0, .int .i64 x.f1, .int .i64 x.f2, .string x.f3] 61)).cell? ⟨W.heap.size, 3, none⟩ = some (.string x.f3) := by rw [blk_cell HQX.out]; rfl
          have lX : W.heap.size < (W.alloc (.cells #[.int .u8 x.f0, .int .i64 x.f1, .int .i64 x.f2, .string x.f3] 61)).heap.size := by rw [World.size_alloc]; omega
          have lM := blk_lt HSX.out.m
          go_enter Try.func90, Try.ntmps90
          go_wp2_with (fail)
          go_region
          have HSD := Aside0.mk (HSX.out.below (below_drew (Below.refl _ _)))
          have HQD := Aside0.mk (blk_below HQX.out (below_drew (Below.refl _ _)))
          have HBD := Aside0.mk (below_drew (below_alloc (Below.refl _ W) (.cells #[.int .u8 x.f0, .int .i64 x.f1, .int .i64 x.f2, .string x.f3] 61)))
          obtain ⟨wd, hwd⟩ : ∃ wd, wd = (W.alloc (.cells #[.int .u8 x.f0, .int .i64 x.f1, .int .i64 x.f2, .string x.f3] 61)).drew := ⟨_, rfl⟩
          rw [← hwd] at HSD HQD HBD
          rw [← hwd]
          clear hwd cM tx3 lX lM
          have cE : wd.cell? ⟨E, 0, none⟩ = some (.func (.func 89) #[] #[.pointer (some ⟨S, 0, none⟩), .pointer (some ⟨F, 0, none⟩), .pointer (some ⟨M, 0, none⟩), .pointer (some ⟨O, 0, none⟩)]) := by rw [blk_cell HSD.out.e]; rfl
          go_wp2_with (first
            | ((with_reducible refine gate_dst (N := 38) rfl ?_); refine goesF_ (some 38) rfl rfl (.tmp 36) #[.pointer (some ⟨S, 0, none⟩), .pointer (some ⟨F, 0, none⟩), .pointer (some ⟨M, 0, none⟩), .pointer (some ⟨O, 0, none⟩)] rfl Try.func89 (by kernel_rfl) rfl #[.string x.f3, .pointer (some ⟨S, 0, none⟩), .pointer (some ⟨F, 0, none⟩), .pointer (some ⟨M, 0, none⟩), .pointer (some ⟨O, 0, none⟩)] rfl (by (try simp only [List.map_toArray, List.map_cons, List.map_nil]); first | done | rfl) ?_; refine (enter_c HSD.out x.f3 HXS.out hoL hmL).mono ?_; rintro e w1 ⟨he, ha6⟩; subst he; refine ⟨_, rfl, ?_⟩; obtain ⟨v6, hs6, hk6, hv6⟩ := ha6; have hs6 : Sv B0 T b S M O N F E K (some ad) c ts W0 w1 (enterS s (key x)) v6 cnt := hs6; rw [← HH.out] at hs6; have HS6 := Aside0.mk hs6; have HK6 := Aside0.mk hk6; have HV6 := Aside0.mk hv6; have cF1 : w1.cell? ⟨F, 0, none⟩ = some (.int .i64 s1.fault) := (by rw [blk_cell hs6.f]; rfl); have cN1 : w1.cell? ⟨N, 0, none⟩ = some (.int .i64 s.next) := (by rw [blk_cell hs6.n, HH.out]; rfl); have fN1 := blk_frozen hs6.n 0; have lN1 := blk_lt hs6.n; clear hs6 hk6 hv6)
            | fail)
          go_ret2
          have hZ : Z = (s1, ([], -1)) := by rw [HSL.out, if_pos HFQ.out]
          exact ⟨by rw [hZ]; rfl, by rw [hZ]; exact ⟨v6, HS6.out.more (Nat.le_add_right _ _), (Kb.of_below _ HBD.out).trans HK6.out, (Mv.refl v W).trans HBD.out.size HV6.out⟩⟩
    · obtain ⟨ro, hr⟩ : ∃ ro, Mp.get s.seen (key x) = ro := ⟨_, rfl⟩
      cases ro with
      | none =>
        rcases h with h | h
        · have e2 : (x.f0 == 2) = false := by rw [h]; rfl
          have e4 : (x.f0 == 4) = false := by rw [h]; rfl
          have e5 : (x.f0 == 5) = true := by rw [h]; rfl
          have e26 : (x.f0 == 26) = false := by rw [h]; rfl
          have hm : makes x = false := by unfold makes; rw [e2, e4]; rfl
          have hu : uses x = true := by unfold uses; rw [e5, e26]; rfl
          have HTE : Aside0 (tellS x s = ([], -1)) := ⟨by unfold tellS; rw [hm]; rfl⟩
          have hh : s1 = { s with fault := 110, out := s.out ++ [0] } := by rw [hs1]; unfold headS; rw [hm, hu]; simp only [Bool.false_eq_true, if_false, if_true]; rw [show Mp.get s.seen (key x) = none from hr]; rfl
          have HH := Aside0.mk hh
          have hrv : Mp.get (sV s.seen) x.f3.data.toList = none := by rw [get_sV, show Mp.get s.seen x.f3.data.toList = none from hr]; rfl
          have HRV := Aside0.mk hrv
          clear h hm hu hh hs1 hr hrv
          have cS : (W.alloc (.cells #[.int .u8 x.f0, .int .i64 x.f1, .int .i64 x.f2, .string x.f3] 61)).cell? ⟨S, 0, none⟩ = some (.map (some b)) := by rw [blk_cell HSX.out.sm]; rfl
          have tx3 : (W.alloc (.cells #[.int .u8 x.f0, .int .i64 x.f1, .int .i64 x.f2, .string x.f3] 61)).cell? ⟨W.heap.size, 3, none⟩ = some (.string x.f3) := by rw [blk_cell HQX.out]; rfl
          have HSF := Aside0.mk (HSX.out.setF 110)
          have cO : ((W.alloc (.cells #[.int .u8 x.f0, .int .i64 x.f1, .int .i64 x.f2, .string x.f3] 61)).setCell ⟨F, 0, none⟩ (.int .i64 110)).cell? ⟨O, 0, none⟩ = some v := by rw [blk_cell HSF.out.o]; rfl
          have cO2 : (W.alloc (.cells #[.int .u8 x.f0, .int .i64 x.f1, .int .i64 x.f2, .string x.f3] 61)).cell? ⟨O, 0, none⟩ = some v := by rw [blk_cell HSX.out.o]; rfl
          have cF2 : (W.alloc (.cells #[.int .u8 x.f0, .int .i64 x.f1, .int .i64 x.f2, .string x.f3] 61)).cell? ⟨F, 0, none⟩ = some (.int .i64 s.fault) := by rw [blk_cell HSX.out.f]; rfl
          have fF2 := blk_frozen HSX.out.f 0
          have lF2 := blk_lt HSX.out.f
          have nOF : O ≠ F := by omega
          go_enter Try.func90, Try.ntmps90
          go_wp2_with (first
            | ((with_reducible refine gate_dst (N := 46) rfl ?_); refine at_get2 rfl (.tmp 43) (.tmp 45) 128 3 (.int .i64 0) rfl Try.underlying128 zint rfl HSX.out.own x.f3 rfl HXS.out ?_; rw [HRV.out])
            | ((with_reducible refine gate_builtin (b := .append) (xs := #[.tmp 51, .tmp 53]) rfl ?_); at_builtin; refine Kd.R_append (Kd.int .i64) (w0 := W0) B0 rfl (.tmp 51) (.tmp 53) 50 3 (.int .i64 0) 8 rfl Try.underlying50 info3 rfl (by decide) (by decide) v _ (0 : Int) [.int .i64 (0 : Int)] (fun q => ¬ Bxs T b S M O N F E K q) (fun _ => False) rfl (by first | rfl | (simp only [World.size_setCell, World.size_alloc]; first | done | rfl)) rfl (fun _ hk => hk.elim) (fun q hq hx => absurd hx (HSF.out.fresh hq)) HSF.out.R HSF.out.B HSF.out.lt.2 (by have := hoL; first | omega | (show (s.out.length + 1) * 8 ≤ _; omega)) ?_; intro v1 w1 ho hb hg hat; obtain ⟨A5, c5, e5⟩ := Kd.R_slice ho; have e6 : v1 = .slice A5 (s.out.length + 1) c5 := (by rw [e5, List.length_append]; rfl); clear e5; subst e6; have HAA := Aside0.mk (HSF.out.app ho hg); have HAT := Aside0.mk hat; have gO1 := (Kb.grown hg).blk HSF.out.o (HSF.out.row (by unfold Bxs; omega)); have cO1 : w1.cell? ⟨O, 0, none⟩ = some (v) := (by rw [blk_cell gO1]; rfl); have fO1 := blk_frozen gO1 0; have lO1 := blk_lt gO1; clear gO1; have gN1 := (Kb.grown hg).blk HSF.out.n (HSF.out.row (by unfold Bxs; omega)); have cN1 : w1.cell? ⟨N, 0, none⟩ = some (.int .i64 s.next) := (by rw [blk_cell gN1]; rfl); have fN1 := blk_frozen gN1 0; have lN1 := blk_lt gN1; clear gN1; have gF1 := (Kb.grown hg).blk HSF.out.f (HSF.out.row (by unfold Bxs; omega)); have cF1 : w1.cell? ⟨F, 0, none⟩ = some (.int .i64 110) := (by rw [blk_cell gF1]; rfl); have fF1 := blk_frozen gF1 0; have lF1 := blk_lt gF1; clear gF1; clear ho hb hg hat)
            | fail)
          go_ret2
          have hZ : Z = (s1, ([], -1)) := by rw [HSL.out, if_pos (by rw [HH.out]; show (110 : Int) ≠ 0; decide)]
          exact ⟨by rw [hZ]; rfl, by rw [hZ, HH.out]; exact ⟨_, HAA.out.1.more (Nat.le_add_right _ _), ((Kb.of_below _ (below_alloc (Below.refl _ _) (.cells #[.int .u8 x.f0, .int .i64 x.f1, .int .i64 x.f2, .string x.f3] 61))).trans (chgF _ _)).trans HAA.out.2, (by have h9 := HAT.out; rw [World.size_setCell] at h9; exact mv_alloc h9)⟩⟩
        · have e2 : (x.f0 == 2) = false := by rw [h]; rfl
          have e4 : (x.f0 == 4) = false := by rw [h]; rfl
          have e5 : (x.f0 == 5) = false := by rw [h]; rfl
          have e26 : (x.f0 == 26) = true := by rw [h]; rfl
          have hm : makes x = false := by unfold makes; rw [e2, e4]; rfl
          have hu : uses x = true := by unfold uses; rw [e5, e26]; rfl
          have HTE : Aside0 (tellS x s = ([], -1)) := ⟨by unfold tellS; rw [hm]; rfl⟩
          have hh : s1 = { s with fault := 110, out := s.out ++ [0] } := by rw [hs1]; unfold headS; rw [hm, hu]; simp only [Bool.false_eq_true, if_false, if_true]; rw [show Mp.get s.seen (key x) = none from hr]; rfl
          have HH := Aside0.mk hh
          have hrv : Mp.get (sV s.seen) x.f3.data.toList = none := by rw [get_sV, show Mp.get s.seen x.f3.data.toList = none from hr]; rfl
          have HRV := Aside0.mk hrv
          clear h hm hu hh hs1 hr hrv
          have cS : (W.alloc (.cells #[.int .u8 x.f0, .int .i64 x.f1, .int .i64 x.f2, .string x.f3] 61)).cell? ⟨S, 0, none⟩ = some (.map (some b)) := by rw [blk_cell HSX.out.sm]; rfl
          have tx3 : (W.alloc (.cells #[.int .u8 x.f0, .int .i64 x.f1, .int .i64 x.f2, .string x.f3] 61)).cell? ⟨W.heap.size, 3, none⟩ = some (.string x.f3) := by rw [blk_cell HQX.out]; rfl
          have HSF := Aside0.mk (HSX.out.setF 110)
          have cO : ((W.alloc (.cells #[.int .u8 x.f0, .int .i64 x.f1, .int .i64 x.f2, .string x.f3] 61)).setCell ⟨F, 0, none⟩ (.int .i64 110)).cell? ⟨O, 0, none⟩ = some v := by rw [blk_cell HSF.out.o]; rfl
          have cO2 : (W.alloc (.cells #[.int .u8 x.f0, .int .i64 x.f1, .int .i64 x.f2, .string x.f3] 61)).cell? ⟨O, 0, none⟩ = some v := by rw [blk_cell HSX.out.o]; rfl
          have cF2 : (W.alloc (.cells #[.int .u8 x.f0, .int .i64 x.f1, .int .i64 x.f2, .string x.f3] 61)).cell? ⟨F, 0, none⟩ = some (.int .i64 s.fault) := by rw [blk_cell HSX.out.f]; rfl
          have fF2 := blk_frozen HSX.out.f 0
          have lF2 := blk_lt HSX.out.f
          have nOF : O ≠ F := by omega
          go_enter Try.func90, Try.ntmps90
          go_wp2_with (first
            | ((with_reducible refine gate_dst (N := 46) rfl ?_); refine at_get2 rfl (.tmp 43) (.tmp 45) 128 3 (.int .i64 0) rfl Try.underlying128 zint rfl HSX.out.own x.f3 rfl HXS.out ?_; rw [HRV.out])
            | ((with_reducible refine gate_builtin (b := .append) (xs := #[.tmp 51, .tmp 53]) rfl ?_); at_builtin; refine Kd.R_append (Kd.int .i64) (w0 := W0) B0 rfl (.tmp 51) (.tmp 53) 50 3 (.int .i64 0) 8 rfl Try.underlying50 info3 rfl (by decide) (by decide) v _ (0 : Int) [.int .i64 (0 : Int)] (fun q => ¬ Bxs T b S M O N F E K q) (fun _ => False) rfl (by first | rfl | (simp only [World.size_setCell, World.size_alloc]; first | done | rfl)) rfl (fun _ hk => hk.elim) (fun q hq hx => absurd hx (HSF.out.fresh hq)) HSF.out.R HSF.out.B HSF.out.lt.2 (by have := hoL; first | omega | (show (s.out.length + 1) * 8 ≤ _; omega)) ?_; intro v1 w1 ho hb hg hat; obtain ⟨A5, c5, e5⟩ := Kd.R_slice ho; have e6 : v1 = .slice A5 (s.out.length + 1) c5 := (by rw [e5, List.length_append]; rfl); clear e5; subst e6; have HAA := Aside0.mk (HSF.out.app ho hg); have HAT := Aside0.mk hat; have gO1 := (Kb.grown hg).blk HSF.out.o (HSF.out.row (by unfold Bxs; omega)); have cO1 : w1.cell? ⟨O, 0, none⟩ = some (v) := (by rw [blk_cell gO1]; rfl); have fO1 := blk_frozen gO1 0; have lO1 := blk_lt gO1; clear gO1; have gN1 := (Kb.grown hg).blk HSF.out.n (HSF.out.row (by unfold Bxs; omega)); have cN1 : w1.cell? ⟨N, 0, none⟩ = some (.int .i64 s.next) := (by rw [blk_cell gN1]; rfl); have fN1 := blk_frozen gN1 0; have lN1 := blk_lt gN1; clear gN1; have gF1 := (Kb.grown hg).blk HSF.out.f (HSF.out.row (by unfold Bxs; omega)); have cF1 : w1.cell? ⟨F, 0, none⟩ = some (.int .i64 110) := (by rw [blk_cell gF1]; rfl); have fF1 := blk_frozen gF1 0; have lF1 := blk_lt gF1; clear gF1; clear ho hb hg hat)
            | fail)
          go_ret2
          have hZ : Z = (s1, ([], -1)) := by rw [HSL.out, if_pos (by rw [HH.out]; show (110 : Int) ≠ 0; decide)]
          exact ⟨by rw [hZ]; rfl, by rw [hZ, HH.out]; exact ⟨_, HAA.out.1.more (Nat.le_add_right _ _), ((Kb.of_below _ (below_alloc (Below.refl _ _) (.cells #[.int .u8 x.f0, .int .i64 x.f1, .int .i64 x.f2, .string x.f3] 61))).trans (chgF _ _)).trans HAA.out.2, (by have h9 := HAT.out; rw [World.size_setCell] at h9; exact mv_alloc h9)⟩⟩
      | some r =>
        rcases h with h | h
        · have e2 : (x.f0 == 2) = false := by rw [h]; rfl
          have e4 : (x.f0 == 4) = false := by rw [h]; rfl
          have e5 : (x.f0 == 5) = true := by rw [h]; rfl
          have e26 : (x.f0 == 26) = false := by rw [h]; rfl
          have hm : makes x = false := by unfold makes; rw [e2, e4]; rfl
          have hu : uses x = true := by unfold uses; rw [e5, e26]; rfl
          have HTE : Aside0 (tellS x s = ([], -1)) := ⟨by unfold tellS; rw [hm]; rfl⟩
          have hh : s1 = { s with out := s.out ++ [r] } := by rw [hs1]; unfold headS; rw [hm, hu]; simp only [Bool.false_eq_true, if_false, if_true]; rw [show Mp.get s.seen (key x) = some r from hr]; rfl
          have HH := Aside0.mk hh
          have hrv : Mp.get (sV s.seen) x.f3.data.toList = some (.int .i64 r) := by rw [get_sV, show Mp.get s.seen x.f3.data.toList = some r from hr]; rfl
          have HRV := Aside0.mk hrv
          clear h hm hu hh hs1 hr hrv
          have cS : (W.alloc (.cells #[.int .u8 x.f0, .int .i64 x.f1, .int .i64 x.f2, .string x.f3] 61)).cell? ⟨S, 0, none⟩ = some (.map (some b)) := by rw [blk_cell HSX.out.sm]; rfl
          have tx3 : (W.alloc (.cells #[.int .u8 x.f0, .int .i64 x.f1, .int .i64 x.f2, .string x.f3] 61)).cell? ⟨W.heap.size, 3, none⟩ = some (.string x.f3) := by rw [blk_cell HQX.out]; rfl
          have cO : (W.alloc (.cells #[.int .u8 x.f0, .int .i64 x.f1, .int .i64 x.f2, .string x.f3] 61)).cell? ⟨O, 0, none⟩ = some v := by rw [blk_cell HSX.out.o]; rfl
          have hfz : s.fault = 0 := HF0.out
          go_enter Try.func90, Try.ntmps90
          go_wp2_with (first
            | ((with_reducible refine gate_dst (N := 46) rfl ?_); refine at_get2 rfl (.tmp 43) (.tmp 45) 128 3 (.int .i64 0) rfl Try.underlying128 zint rfl HSX.out.own x.f3 rfl HXS.out ?_; rw [HRV.out])
            | ((with_reducible refine gate_builtin (b := .append) (xs := #[.tmp 51, .tmp 53]) rfl ?_); at_builtin; refine Kd.R_append (Kd.int .i64) (w0 := W0) B0 rfl (.tmp 51) (.tmp 53) 50 3 (.int .i64 0) 8 rfl Try.underlying50 info3 rfl (by decide) (by decide) v _ r [.int .i64 r] (fun q => ¬ Bxs T b S M O N F E K q) (fun _ => False) rfl (by first | rfl | (simp only [World.size_alloc]; first | done | rfl)) rfl (fun _ hk => hk.elim) (fun q hq hx => absurd hx (HSX.out.fresh hq)) HSX.out.R HSX.out.B HSX.out.lt.2 (by have := hoL; omega) ?_; intro v1 w1 ho hb hg hat; obtain ⟨A5, c5, e5⟩ := Kd.R_slice ho; have e6 : v1 = .slice A5 (s.out.length + 1) c5 := (by rw [e5, List.length_append]; rfl); clear e5; subst e6; have HAA := Aside0.mk (HSX.out.app ho hg); have HAT := Aside0.mk hat; have gO1 := (Kb.grown hg).blk HSX.out.o (HSX.out.row (by unfold Bxs; omega)); have cO1 : w1.cell? ⟨O, 0, none⟩ = some (v) := (by rw [blk_cell gO1]; rfl); have fO1 := blk_frozen gO1 0; have lO1 := blk_lt gO1; clear gO1; have gN1 := (Kb.grown hg).blk HSX.out.n (HSX.out.row (by unfold Bxs; omega)); have cN1 : w1.cell? ⟨N, 0, none⟩ = some (.int .i64 s.next) := (by rw [blk_cell gN1]; rfl); have fN1 := blk_frozen gN1 0; have lN1 := blk_lt gN1; clear gN1; have gF1 := (Kb.grown hg).blk HSX.out.f (HSX.out.row (by unfold Bxs; omega)); have cF1 : w1.cell? ⟨F, 0, none⟩ = some (.int .i64 s.fault) := (by rw [blk_cell gF1]; rfl); have fF1 := blk_frozen gF1 0; have lF1 := blk_lt gF1; clear gF1; have hxb1 := (Kb.grown hg).blk HQX.out (Kd.R_ne HSX.out.R HQX.out (by decide)); have HXB1 := Aside0.mk hxb1; clear ho hb hg hat hxb1)
            | fail)
          have hf1 : s1.fault = 0 := by rw [HH.out]; exact HF0.out
          have HL : Aside0 (Fr B0 T b S M O N F E K (some ad) c ts W0 W v x W.heap.size ((w1.setCell ⟨O, 0, none⟩ (.slice A5 (s.out.length + 1) c5)).setCell ⟨N, 0, none⟩ (.int .i64 ((s.next : Int) + 1))) s2 (.slice A5 (s.out.length + 1) c5) cnt (.slice none 0 0) []) := ⟨by
            rw [HS2.out, HH.out]
            exact fr_start HS.out (HAA.out.1.setN (s.next + 1)) (((Kb.of_below _ (below_alloc (Below.refl _ _) (.cells #[.int .u8 x.f0, .int .i64 x.f1, .int .i64 x.f2, .string x.f3] 61))).trans HAA.out.2).trans (chgN _ _)) (mv_alloc HAT.out) ((kset _ N _).blk ((kset _ O _).blk HXB1.out (by have := HNE.out; have := HLT.out; omega)) (by have := HNE.out; have := HLT.out; omega))⟩
          have HF1 := Aside0.mk hf1
          clear hf1 HAA HAT HXB1 cO1 fO1 lO1 cN1 fN1 lN1 cF1 fF1 lF1 cO cS tx3
          clear cT cN q0 q1 q2 q3 HSX HQX
          obtain ⟨xb, hxb⟩ : ∃ xb, xb = W.heap.size := ⟨_, rfl⟩
          rw [← hxb] at HL
          rw [← hxb]
          clear hxb
          go_loopg [15, 16] ks.length (fun kk v15 v16 wr => ∃ (j : Nat) (sj : St) (vj : Value) (Am : Option Addr) (cm : Nat) (mj : List Ky) (cj : Nat), v15 = .slice Am mj.length cm ∧ v16 = .int .i64 j ∧ Aside0 (j ≤ ks.length ∧ kk = ks.length - j) ∧ Aside0 (slK (ks.drop j) sj mj = R) ∧
            Aside0 (Pin sj ∧ (sj.fault = 0 → ts.drop sj.next = flats (ks.drop j) ++ rest) ∧ (∀ k ∈ mj, k.length ≤ maxLen) ∧ cj + (flats (ks.drop j)).length ≤ cnt + (flats ks).length ∧ mj.length ≤ j) ∧ Aside0 (Fr B0 T b S M O N F E K (some ad) c ts W0 W v x xb wr sj vj cj (.slice Am mj.length cm) mj))
          case atStart => exact ⟨0, s2, _, none, 0, [], cnt, rfl, rfl, ⟨Nat.zero_le _, rfl⟩, ⟨by rw [HR.out, HS2.out]; rfl⟩, ⟨by rw [HS2.out]; exact ⟨HP.out.1, by have := HP.out.2; dsimp only; omega, fun _ => HP.out.2⟩, fun _ => by rw [HS2.out]; exact HD2.out, (fun k hk => nomatch hk), Nat.le_refl _, Nat.le_refl _⟩, HL⟩
          case round =>
            clear HL
            obtain ⟨j, sj, vj, Am, cm, mj, cj, rfl, rfl, hj, HSK, HPJ, HFR⟩ := hrel
            have tx : wr.cell? ⟨xb, 1, none⟩ = some (.int .i64 x.f1) := by rw [blk_cell HFR.out.x]; rfl
            have tF : wr.cell? ⟨F, 0, none⟩ = some (.int .i64 sj.fault) := by rw [blk_cell HFR.out.sv.f]; rfl
            by_cases hjl : j < ks.length
            · have hjl2 : (j : Int) < x.f1 := by rw [← HKL.out]; omega
              have a1 : decide ((j : Int) < x.f1) = true := decide_eq_true hjl2
              by_cases hfj : sj.fault = 0
              · rw [hfj] at tF
                have tK : wr.cell? ⟨K, 0, none⟩ = some (.func (.func 90) #[] #[.pointer (some ⟨T, 0, none⟩), .pointer (some ⟨N, 0, none⟩), .pointer (some ⟨M, 0, none⟩), .pointer (some ⟨E, 0, none⟩), .pointer (some ⟨S, 0, none⟩), .pointer (some ⟨F, 0, none⟩), .pointer (some ⟨O, 0, none⟩), .pointer (some ⟨K, 0, none⟩)]) := by rw [blk_cell HFR.out.sv.k]; rfl
                obtain ⟨k, hk⟩ : ∃ k, k = ks[j] := ⟨_, rfl⟩
                have hdk : ks.drop j = k :: ks.drop (j + 1) := by rw [hk]; exact List.drop_eq_getElem_cons hjl
                have hkm : k ∈ ks := by rw [hk]; exact List.getElem_mem hjl
                have hpj := HPJ.out
                have hsk := HSK.out
                rw [hdk] at hpj hsk
                obtain ⟨Y, hY⟩ : ∃ Y, Y = slT k sj := ⟨_, rfl⟩
                have hflk : (flats (k :: ks.drop (j + 1))).length = (flat k).length + (flats (ks.drop (j + 1))).length := by simp [flats]
                have hdj : ts.drop sj.next = flat k ++ (flats (ks.drop (j + 1)) ++ rest) := by rw [hpj.2.1 hfj]; simp [flats]
                have hic := HI.out k sj wr vj cj (flats (ks.drop (j + 1)) ++ rest) (HA.out k hkm) hdj HFR.out.sv hfj hpj.1 (by have := HC.out; omega)
                have hpy := slT_pin k sj hpj.1 hfj
                have hnmy := slT_name k sj
                have hszk : (key k.top).length ≤ maxLen := by
                  obtain ⟨y, kk2⟩ := k
                  have h1 : ts.drop sj.next = y :: (flats kk2 ++ (flats (ks.drop (j + 1)) ++ rest)) := by rw [hdj]; rfl
                  have h2 := HSZ.out y (rd_drop h1).2.2.2
                  exact Nat.le_trans (Nat.le_of_eq (Array.length_toList)) h2
                unfold slK at hsk
                rw [if_neg (fun h => h hfj)] at hsk
                rw [← hY] at hic hpy hnmy hsk
                obtain ⟨sy, ny, iy⟩ := Y
                dsimp only at hic hpy hnmy hsk
                have hny : ny.length ≤ maxLen := by rcases hnmy with h | h <;> rw [h]; exact Nat.zero_le _; exact hszk
                have hpos := flat_pos k
                have hcc : cj + (flat k).length - 1 + 1 + (flats (ks.drop (j + 1))).length ≤ cnt + (flats ks).length := by have := hpj.2.2.2.1; omega
                have hdn : sy.fault = 0 → ts.drop sy.next = flats (ks.drop (j + 1)) ++ rest := fun e => by
                  rw [hpy.2 e, ← List.drop_drop, hdj, List.drop_left]
                have HIC := Aside0.mk hic
                have HPY := Aside0.mk hpy.1
                have HNY := Aside0.mk hny
                have HSK2 := Aside0.mk hsk
                have HCC := Aside0.mk hcc
                have HDN := Aside0.mk hdn
                have HMJ := Aside0.mk hpj.2.2
                have HFJ := Aside0.mk hfj
                have HJL := Aside0.mk (show mj.length ≤ j from hpj.2.2.2.2)
                obtain ⟨t, ht⟩ : ∃ t : ByteArray, t = ⟨ny.toArray⟩ := ⟨_, rfl⟩
                rw [← ht] at HIC
                have htl : t.data.toList = ny := by rw [ht]
                clear hk hdk hkm hpj hY hflk hdj hic hpy hnmy hszk hny hpos hcc hdn hsk hfj
                by_cases hn0 : ny = []
                · subst hn0
                  have ht0 : t = ⟨#[]⟩ := ht.trans rfl
                  subst ht0
                  have HSK3 : Aside0 (slK (ks.drop (j + 1)) sy mj = R) := ⟨by have := HSK2.out; rwa [if_neg (fun h => h.1 rfl)] at this⟩
                  clear ht htl HSK2
                  go_wp2_with (first
                    | ((with_reducible refine gate_dst (N := 71) rfl ?_); refine goesF_ (some 71) rfl rfl (.tmp 70) #[.pointer (some ⟨T, 0, none⟩), .pointer (some ⟨N, 0, none⟩), .pointer (some ⟨M, 0, none⟩), .pointer (some ⟨E, 0, none⟩), .pointer (some ⟨S, 0, none⟩), .pointer (some ⟨F, 0, none⟩), .pointer (some ⟨O, 0, none⟩), .pointer (some ⟨K, 0, none⟩)] rfl Try.func90 (by kernel_rfl) rfl #[.pointer (some ⟨T, 0, none⟩), .pointer (some ⟨N, 0, none⟩), .pointer (some ⟨M, 0, none⟩), .pointer (some ⟨E, 0, none⟩), .pointer (some ⟨S, 0, none⟩), .pointer (some ⟨F, 0, none⟩), .pointer (some ⟨O, 0, none⟩), .pointer (some ⟨K, 0, none⟩)] rfl (by (try simp only [List.map_toArray, List.map_cons, List.map_nil]); first | done | rfl) ?_; refine HIC.out.mono ?_; rintro e w6 ⟨he, ha6⟩; subst he; refine ⟨_, rfl, ?_⟩; obtain ⟨v6, hf6⟩ := HFR.out.after ha6; have HF6 := Aside0.mk hf6; have tF6 : w6.cell? ⟨F, 0, none⟩ = some (.int .i64 sy.fault) := (by rw [blk_cell hf6.sv.f]; rfl); clear ha6 hf6)
                    | fail)
                  go_roundg (ks.length - (j + 1))
                  case measure => have := hj.out; omega
                  case rel => exact ⟨j + 1, sy, v6, Am, cm, mj, cj + (flat k).length - 1 + 1, rfl, rfl, ⟨by omega, rfl⟩, HSK3, ⟨HPY.out, HDN.out, HMJ.out.1, HCC.out, by have := HJL.out; omega⟩, ⟨HF6.out.more (Nat.le_succ _)⟩⟩
                · have n1 : (t == (⟨#[]⟩ : ByteArray)) = false := by rw [Bool.eq_false_iff]; intro h; exact hn0 (by rw [← htl, (Go.MapKept.bytes_beq _ _).1 h])
                  have n2 : (t != (⟨#[]⟩ : ByteArray)) = true := by unfold bne; rw [n1]; rfl
                  have n3 : decide (t = (⟨#[]⟩ : ByteArray)) = false := decide_eq_false (fun h => hn0 (by rw [← htl, h]))
                  have n4 : t.toList.isEmpty = false := by
                    rw [ByteArray.toList_eq, htl]
                    cases ny with
                    | nil => exact absurd rfl hn0
                    | cons a r => rfl
                  have n5 : (t.toList = []) = False := eq_false (fun h => by rw [h] at n4; exact absurd n4 (by decide))
                  have HN0 := Aside0.mk hn0
                  have HTL := Aside0.mk htl
                  have HT := Aside0.mk ht
                  by_cases hfy : sy.fault = 0
                  · have HSK3 : Aside0 (slK (ks.drop (j + 1)) { sy with seen := put sy.seen ny iy } (mj ++ [ny]) = R) := ⟨by have := HSK2.out; rwa [if_pos ⟨hn0, hfy⟩] at this⟩
                    have HFY := Aside0.mk hfy
                    clear hn0 htl ht HSK2 hfy
                    go_wp2_with (first
                      | ((with_reducible refine gate_dst (N := 71) rfl ?_); refine goesF_ (some 71) rfl rfl (.tmp 70) #[.pointer (some ⟨T, 0, none⟩), .pointer (some ⟨N, 0, none⟩), .pointer (some ⟨M, 0, none⟩), .pointer (some ⟨E, 0, none⟩), .pointer (some ⟨S, 0, none⟩), .pointer (some ⟨F, 0, none⟩), .pointer (some ⟨O, 0, none⟩), .pointer (some ⟨K, 0, none⟩)] rfl Try.func90 (by kernel_rfl) rfl #[.pointer (some ⟨T, 0, none⟩), .pointer (some ⟨N, 0, none⟩), .pointer (some ⟨M, 0, none⟩), .pointer (some ⟨E, 0, none⟩), .pointer (some ⟨S, 0, none⟩), .pointer (some ⟨F, 0, none⟩), .pointer (some ⟨O, 0, none⟩), .pointer (some ⟨K, 0, none⟩)] rfl (by (try simp only [List.map_toArray, List.map_cons, List.map_nil]); first | done | rfl) ?_; refine HIC.out.mono ?_; rintro e w6 ⟨he, ha6⟩; subst he; refine ⟨_, rfl, ?_⟩; obtain ⟨v6, hf6⟩ := HFR.out.after ha6; have HF6 := Aside0.mk hf6; have tF6 : w6.cell? ⟨F, 0, none⟩ = some (.int .i64 0) := (by rw [blk_cell hf6.sv.f, HFY.out]; rfl); clear ha6 hf6)
                      | ((with_reducible refine gate_builtin (b := .append) (xs := #[.tmp 80, .tmp 82]) rfl ?_); at_builtin; refine Kd.R_append Kd.string (w0 := w6) W.heap.size rfl (.tmp 80) (.tmp 82) 58 9 (.string ⟨#[]⟩) 16 rfl Try.underlying58 info9 rfl (by decide) (by decide) (.slice Am mj.length cm) _ t [.string t] (fun _ => True) (fun _ => False) rfl rfl rfl (fun _ hk => hk.elim) (fun _ _ => trivial) HF6.out.mi (Below.refl _ _) HF6.out.kb.size (by rw [strK_len]; have := HJL.out; omega) ?_; intro v8 w8 ho hb hg hat; obtain ⟨A8, c8, e8⟩ := Kd.R_slice ho; have e9 : v8 = .slice A8 (mj.length + 1) c8 := (by rw [e8, List.length_append, strK_len]; rfl); clear e8; subst e9; rw [HT.out] at ho; have HF7 := Aside0.mk (HF6.out.app ho hg); have tS7 : w8.cell? ⟨S, 0, none⟩ = some (.map (some b)) := (by rw [blk_cell HF7.out.sv.sm]; rfl); clear ho hb hg hat)
                      | ((with_reducible refine gate_ (.mapUpdate 128 (.tmp 84) (.tmp 85) (.tmp 86)) rfl ?_); refine at_put rfl (.tmp 84) (.tmp 85) (.tmp 86) 128 3 rfl Try.underlying128 rfl HF7.out.sv.own (by have := HCC.out; have := HC.out; unfold maxLen; omega) t rfl (by have h1 : t.size = t.data.toList.length := (Array.length_toList).symm; rw [h1, HTL.out]; exact HNY.out) (.int .i64 iy) rfl ?_; intro w9 ho hk; rw [HTL.out, show Value.int .i64 iy = inV iy from rfl, put_sV] at ho; have HF8 := Aside0.mk (HF7.out.seen hk ho); clear ho hk)
                      | fail)
                    go_roundg (ks.length - (j + 1))
                    case measure => have := hj.out; omega
                    case rel => exact ⟨j + 1, { sy with seen := put sy.seen ny iy }, v6, A8, c8, mj ++ [ny], cj + (flat k).length - 1 + 1, by rw [List.length_append]; rfl, rfl, ⟨by omega, rfl⟩, HSK3, ⟨HPY.out, HDN.out, fun q hq => (List.mem_append.1 hq).elim (HMJ.out.1 q) (fun e => by rw [List.mem_singleton.1 e]; exact HNY.out), HCC.out, by have := HJL.out; rw [List.length_append]; show mj.length + 1 ≤ j + 1; omega⟩, ⟨by rw [List.length_append]; exact HF8.out⟩⟩
                  · have HSK3 : Aside0 (slK (ks.drop (j + 1)) sy mj = R) := ⟨by have := HSK2.out; rwa [if_neg (fun h => hfy h.2)] at this⟩
                    have m1 : (sy.fault == 0) = false := beq_eq_false_iff_ne.2 hfy
                    have m2 : decide (sy.fault = 0) = false := decide_eq_false hfy
                    clear hn0 htl ht HSK2 hfy
                    go_wp2_with (first
                      | ((with_reducible refine gate_dst (N := 71) rfl ?_); refine goesF_ (some 71) rfl rfl (.tmp 70) #[.pointer (some ⟨T, 0, none⟩), .pointer (some ⟨N, 0, none⟩), .pointer (some ⟨M, 0, none⟩), .pointer (some ⟨E, 0, none⟩), .pointer (some ⟨S, 0, none⟩), .pointer (some ⟨F, 0, none⟩), .pointer (some ⟨O, 0, none⟩), .pointer (some ⟨K, 0, none⟩)] rfl Try.func90 (by kernel_rfl) rfl #[.pointer (some ⟨T, 0, none⟩), .pointer (some ⟨N, 0, none⟩), .pointer (some ⟨M, 0, none⟩), .pointer (some ⟨E, 0, none⟩), .pointer (some ⟨S, 0, none⟩), .pointer (some ⟨F, 0, none⟩), .pointer (some ⟨O, 0, none⟩), .pointer (some ⟨K, 0, none⟩)] rfl (by (try simp only [List.map_toArray, List.map_cons, List.map_nil]); first | done | rfl) ?_; refine HIC.out.mono ?_; rintro e w6 ⟨he, ha6⟩; subst he; refine ⟨_, rfl, ?_⟩; obtain ⟨v6, hf6⟩ := HFR.out.after ha6; have HF6 := Aside0.mk hf6; have tF6 : w6.cell? ⟨F, 0, none⟩ = some (.int .i64 sy.fault) := (by rw [blk_cell hf6.sv.f]; rfl); clear ha6 hf6)
                      | fail)
                    go_roundg (ks.length - (j + 1))
                    case measure => have := hj.out; omega
                    case rel => exact ⟨j + 1, sy, v6, Am, cm, mj, cj + (flat k).length - 1 + 1, rfl, rfl, ⟨by omega, rfl⟩, HSK3, ⟨HPY.out, HDN.out, HMJ.out.1, HCC.out, by have := HJL.out; omega⟩, ⟨HF6.out.more (Nat.le_succ _)⟩⟩
              · have m1 : (sj.fault == 0) = false := beq_eq_false_iff_ne.2 hfj
                have m2 : decide (sj.fault = 0) = false := decide_eq_false hfj
                have HRE : Aside0 (R = (sj, mj)) := ⟨by
                  rw [← HSK.out]
                  cases hdk : ks.drop j with
                  | nil => rfl
                  | cons k r => unfold slK; rw [if_pos hfj]⟩
                clear hfj
                have hml : mj.length ≤ 2048 := by have := HPJ.out.2.2.2.2; have := hj.out; omega
                have HML := Aside0.mk HPJ.out.2.2
                clear HPJ HSK
                go_wp2_with (fail)
                go_loopg [89] mj.length (fun kk v89 wq => ∃ i : Nat, v89 = .int .i64 i ∧ Aside0 (i ≤ mj.length ∧ kk = mj.length - i) ∧ Aside0 (Fr B0 T b S M O N F E K (some ad) c ts W0 W v x xb wq { sj with seen := dels sj.seen (mj.take i) } vj cj (.slice Am mj.length cm) mj))
                case atStart => exact ⟨0, rfl, ⟨Nat.zero_le _, rfl⟩, HFR⟩
                case round =>
                  clear HFR tx tF
                  obtain ⟨i, rfl, hi, HFR⟩ := hrel
                  by_cases hil : i < mj.length
                  · have c1 : decide ((i : Int) < (mj.length : Int)) = true := decide_eq_true (by omega)
                    have c2 : decide (i < mj.length) = true := decide_eq_true hil
                    have c3 : (i : Int) < (mj.length : Int) := by omega
                    have c4 : (0 : Int) ≤ (i : Int) := by omega
                    have c5 : (i : Int) < ((strK mj).length : Int) := by rw [strK_len]; exact c3
                    obtain ⟨an, csn, eN, _, hKn, hcelln⟩ := Kd.C_get (Kd.R_reads' HFR.out.mi).2.2 ByteArray.empty (i : Int) c4 c5
                    rw [Int.toNat_natCast] at hKn hcelln
                    rw [strK_get mj i hil] at hKn
                    obtain ⟨t, ht⟩ : ∃ t : ByteArray, t = ⟨(mj[i]).toArray⟩ := ⟨_, rfl⟩
                    rw [← ht] at hKn
                    subst eN
                    have hKn' : csn = [.string t] := hKn
                    subst hKn'
                    have cn := hcelln 0 _ rfl
                    rw [show Kd.string.sz = 1 from rfl, Nat.mul_one, Nat.add_zero] at cn
                    have cS := HFR.out.cS
                    have htl : t.data.toList = mj[i] := by rw [ht]
                    have hts : t.size ≤ maxLen := by
                      have h1 : t.size = t.data.toList.length := (Array.length_toList).symm
                      rw [h1, htl]
                      exact HML.out.1 _ (List.getElem_mem hil)
                    have HTL := Aside0.mk htl
                    have HTS := Aside0.mk hts
                    clear ht htl hts hKn hcelln
                    go_wp2_with (first
                      | ((with_reducible refine gate_builtin (b := .delete) (xs := #[.tmp 93, .tmp 94]) rfl ?_); refine at_del rfl (.tmp 93) (.tmp 94) 128 3 rfl Try.underlying128 rfl HFR.out.sv.own t rfl HTS.out ?_; intro w9 ho hk; rw [HTL.out, del_sV] at ho; have HF9 := Aside0.mk (HFR.out.seen hk ho); clear ho hk)
                      | fail)
                    go_roundg (mj.length - (i + 1))
                    case measure => have := hi.out; omega
                    case rel => exact ⟨i + 1, rfl, ⟨by omega, rfl⟩, ⟨by rw [dels_take _ _ _ hil]; exact HF9.out⟩⟩
                  · have c1 : decide ((i : Int) < (mj.length : Int)) = false := decide_eq_false (by omega)
                    have c2 : decide (i < mj.length) = false := decide_eq_false hil
                    have hZ : Z = ({ sj with seen := dels sj.seen mj }, tellS x s) := by rw [HSL.out, if_neg (fun h => h HF1.out), HRE.out]
                    have hti : mj.take i = mj := List.take_of_length_le (by omega)
                    rw [hti] at HFR
                    have HZ := Aside0.mk hZ
                    clear hZ hti
                    go_wp2_with (fail)
                    go_ret2
                    exact ⟨by rw [HZ.out, HTE.out]; rfl, by rw [HZ.out]; exact ⟨vj, HFR.out.sv.more (by have := HML.out.2.1; omega), HFR.out.kb, HFR.out.V⟩⟩
            · have a1 : decide ((j : Int) < x.f1) = false := decide_eq_false (by rw [← HKL.out]; omega)
              have HRE : Aside0 (R = (sj, mj)) := ⟨by
                rw [← HSK.out, List.drop_of_length_le (by omega)]
                rfl⟩
              have hml : mj.length ≤ 2048 := by have := HPJ.out.2.2.2.2; have := hj.out; omega
              have HML := Aside0.mk HPJ.out.2.2
              clear HPJ HSK
              go_wp2_with (fail)
              go_loopg [89] mj.length (fun kk v89 wq => ∃ i : Nat, v89 = .int .i64 i ∧ Aside0 (i ≤ mj.length ∧ kk = mj.length - i) ∧ Aside0 (Fr B0 T b S M O N F E K (some ad) c ts W0 W v x xb wq { sj with seen := dels sj.seen (mj.take i) } vj cj (.slice Am mj.length cm) mj))
              case atStart => exact ⟨0, rfl, ⟨Nat.zero_le _, rfl⟩, HFR⟩
              case round =>
                clear HFR tx tF
                obtain ⟨i, rfl, hi, HFR⟩ := hrel
                by_cases hil : i < mj.length
                · have c1 : decide ((i : Int) < (mj.length : Int)) = true := decide_eq_true (by omega)
                  have c2 : decide (i < mj.length) = true := decide_eq_true hil
                  have c3 : (i : Int) < (mj.length : Int) := by omega
                  have c4 : (0 : Int) ≤ (i : Int) := by omega
                  have c5 : (i : Int) < ((strK mj).length : Int) := by rw [strK_len]; exact c3
                  obtain ⟨an, csn, eN, _, hKn, hcelln⟩ := Kd.C_get (Kd.R_reads' HFR.out.mi).2.2 ByteArray.empty (i : Int) c4 c5
                  rw [Int.toNat_natCast] at hKn hcelln
                  rw [strK_get mj i hil] at hKn
                  obtain ⟨t, ht⟩ : ∃ t : ByteArray, t = ⟨(mj[i]).toArray⟩ := ⟨_, rfl⟩
                  rw [← ht] at hKn
                  subst eN
                  have hKn' : csn = [.string t] := hKn
                  subst hKn'
                  have cn := hcelln 0 _ rfl
                  rw [show Kd.string.sz = 1 from rfl, Nat.mul_one, Nat.add_zero] at cn
                  have cS := HFR.out.cS
                  have htl : t.data.toList = mj[i] := by rw [ht]
                  have hts : t.size ≤ maxLen := by
                    have h1 : t.size = t.data.toList.length := (Array.length_toList).symm
                    rw [h1, htl]
                    exact HML.out.1 _ (List.getElem_mem hil)
                  have HTL := Aside0.mk htl
                  have HTS := Aside0.mk hts
                  clear ht htl hts hKn hcelln
                  go_wp2_with (first
                    | ((with_reducible refine gate_builtin (b := .delete) (xs := #[.tmp 93, .tmp 94]) rfl ?_); refine at_del rfl (.tmp 93) (.tmp 94) 128 3 rfl Try.underlying128 rfl HFR.out.sv.own t rfl HTS.out ?_; intro w9 ho hk; rw [HTL.out, del_sV] at ho; have HF9 := Aside0.mk (HFR.out.seen hk ho); clear ho hk)
                    | fail)
                  go_roundg (mj.length - (i + 1))
                  case measure => have := hi.out; omega
                  case rel => exact ⟨i + 1, rfl, ⟨by omega, rfl⟩, ⟨by rw [dels_take _ _ _ hil]; exact HF9.out⟩⟩
                · have c1 : decide ((i : Int) < (mj.length : Int)) = false := decide_eq_false (by omega)
                  have c2 : decide (i < mj.length) = false := decide_eq_false hil
                  have hZ : Z = ({ sj with seen := dels sj.seen mj }, tellS x s) := by rw [HSL.out, if_neg (fun h => h HF1.out), HRE.out]
                  have hti : mj.take i = mj := List.take_of_length_le (by omega)
                  rw [hti] at HFR
                  have HZ := Aside0.mk hZ
                  clear hZ hti
                  go_wp2_with (fail)
                  go_ret2
                  exact ⟨by rw [HZ.out, HTE.out]; rfl, by rw [HZ.out]; exact ⟨vj, HFR.out.sv.more (by have := HML.out.2.1; omega), HFR.out.kb, HFR.out.V⟩⟩
        · have e2 : (x.f0 == 2) = false := by rw [h]; rfl
          have e4 : (x.f0 == 4) = false := by rw [h]; rfl
          have e5 : (x.f0 == 5) = false := by rw [h]; rfl
          have e26 : (x.f0 == 26) = true := by rw [h]; rfl
          have hm : makes x = false := by unfold makes; rw [e2, e4]; rfl
          have hu : uses x = true := by unfold uses; rw [e5, e26]; rfl
          have HTE : Aside0 (tellS x s = ([], -1)) := ⟨by unfold tellS; rw [hm]; rfl⟩
          have hh : s1 = { s with out := s.out ++ [r] } := by rw [hs1]; unfold headS; rw [hm, hu]; simp only [Bool.false_eq_true, if_false, if_true]; rw [show Mp.get s.seen (key x) = some r from hr]; rfl
          have HH := Aside0.mk hh
          have hrv : Mp.get (sV s.seen) x.f3.data.toList = some (.int .i64 r) := by rw [get_sV, show Mp.get s.seen x.f3.data.toList = some r from hr]; rfl
          have HRV := Aside0.mk hrv
          clear h hm hu hh hs1 hr hrv
          have cS : (W.alloc (.cells #[.int .u8 x.f0, .int .i64 x.f1, .int .i64 x.f2, .string x.f3] 61)).cell? ⟨S, 0, none⟩ = some (.map (some b)) := by rw [blk_cell HSX.out.sm]; rfl
          have tx3 : (W.alloc (.cells #[.int .u8 x.f0, .int .i64 x.f1, .int .i64 x.f2, .string x.f3] 61)).cell? ⟨W.heap.size, 3, none⟩ = some (.string x.f3) := by rw [blk_cell HQX.out]; rfl
          have cO : (W.alloc (.cells #[.int .u8 x.f0, .int .i64 x.f1, .int .i64 x.f2, .string x.f3] 61)).cell? ⟨O, 0, none⟩ = some v := by rw [blk_cell HSX.out.o]; rfl
          have hfz : s.fault = 0 := HF0.out
          go_enter Try.func90, Try.ntmps90
          go_wp2_with (first
            | ((with_reducible refine gate_dst (N := 46) rfl ?_); refine at_get2 rfl (.tmp 43) (.tmp 45) 128 3 (.int .i64 0) rfl Try.underlying128 zint rfl HSX.out.own x.f3 rfl HXS.out ?_; rw [HRV.out])
            | ((with_reducible refine gate_builtin (b := .append) (xs := #[.tmp 51, .tmp 53]) rfl ?_); at_builtin; refine Kd.R_append (Kd.int .i64) (w0 := W0) B0 rfl (.tmp 51) (.tmp 53) 50 3 (.int .i64 0) 8 rfl Try.underlying50 info3 rfl (by decide) (by decide) v _ r [.int .i64 r] (fun q => ¬ Bxs T b S M O N F E K q) (fun _ => False) rfl (by first | rfl | (simp only [World.size_alloc]; first | done | rfl)) rfl (fun _ hk => hk.elim) (fun q hq hx => absurd hx (HSX.out.fresh hq)) HSX.out.R HSX.out.B HSX.out.lt.2 (by have := hoL; omega) ?_; intro v1 w1 ho hb hg hat; obtain ⟨A5, c5, e5⟩ := Kd.R_slice ho; have e6 : v1 = .slice A5 (s.out.length + 1) c5 := (by rw [e5, List.length_append]; rfl); clear e5; subst e6; have HAA := Aside0.mk (HSX.out.app ho hg); have HAT := Aside0.mk hat; have gO1 := (Kb.grown hg).blk HSX.out.o (HSX.out.row (by unfold Bxs; omega)); have cO1 : w1.cell? ⟨O, 0, none⟩ = some (v) := (by rw [blk_cell gO1]; rfl); have fO1 := blk_frozen gO1 0; have lO1 := blk_lt gO1; clear gO1; have gN1 := (Kb.grown hg).blk HSX.out.n (HSX.out.row (by unfold Bxs; omega)); have cN1 : w1.cell? ⟨N, 0, none⟩ = some (.int .i64 s.next) := (by rw [blk_cell gN1]; rfl); have fN1 := blk_frozen gN1 0; have lN1 := blk_lt gN1; clear gN1; have gF1 := (Kb.grown hg).blk HSX.out.f (HSX.out.row (by unfold Bxs; omega)); have cF1 : w1.cell? ⟨F, 0, none⟩ = some (.int .i64 s.fault) := (by rw [blk_cell gF1]; rfl); have fF1 := blk_frozen gF1 0; have lF1 := blk_lt gF1; clear gF1; have hxb1 := (Kb.grown hg).blk HQX.out (Kd.R_ne HSX.out.R HQX.out (by decide)); have HXB1 := Aside0.mk hxb1; clear ho hb hg hat hxb1)
            | fail)
          have hf1 : s1.fault = 0 := by rw [HH.out]; exact HF0.out
          have HL : Aside0 (Fr B0 T b S M O N F E K (some ad) c ts W0 W v x W.heap.size ((w1.setCell ⟨O, 0, none⟩ (.slice A5 (s.out.length + 1) c5)).setCell ⟨N, 0, none⟩ (.int .i64 ((s.next : Int) + 1))) s2 (.slice A5 (s.out.length + 1) c5) cnt (.slice none 0 0) []) := ⟨by
            rw [HS2.out, HH.out]
            exact fr_start HS.out (HAA.out.1.setN (s.next + 1)) (((Kb.of_below _ (below_alloc (Below.refl _ _) (.cells #[.int .u8 x.f0, .int .i64 x.f1, .int .i64 x.f2, .string x.f3] 61))).trans HAA.out.2).trans (chgN _ _)) (mv_alloc HAT.out) ((kset _ N _).blk ((kset _ O _).blk HXB1.out (by have := HNE.out; have := HLT.out; omega)) (by have := HNE.out; have := HLT.out; omega))⟩
          have HF1 := Aside0.mk hf1
          clear hf1 HAA HAT HXB1 cO1 fO1 lO1 cN1 fN1 lN1 cF1 fF1 lF1 cO cS tx3
          clear cT cN q0 q1 q2 q3 HSX HQX
          obtain ⟨xb, hxb⟩ : ∃ xb, xb = W.heap.size := ⟨_, rfl⟩
          rw [← hxb] at HL
          rw [← hxb]
          clear hxb
          go_loopg [15, 16] ks.length (fun kk v15 v16 wr => ∃ (j : Nat) (sj : St) (vj : Value) (Am : Option Addr) (cm : Nat) (mj : List Ky) (cj : Nat), v15 = .slice Am mj.length cm ∧ v16 = .int .i64 j ∧ Aside0 (j ≤ ks.length ∧ kk = ks.length - j) ∧ Aside0 (slK (ks.drop j) sj mj = R) ∧
            Aside0 (Pin sj ∧ (sj.fault = 0 → ts.drop sj.next = flats (ks.drop j) ++ rest) ∧ (∀ k ∈ mj, k.length ≤ maxLen) ∧ cj + (flats (ks.drop j)).length ≤ cnt + (flats ks).length ∧ mj.length ≤ j) ∧ Aside0 (Fr B0 T b S M O N F E K (some ad) c ts W0 W v x xb wr sj vj cj (.slice Am mj.length cm) mj))
          case atStart => exact ⟨0, s2, _, none, 0, [], cnt, rfl, rfl, ⟨Nat.zero_le _, rfl⟩, ⟨by rw [HR.out, HS2.out]; rfl⟩, ⟨by rw [HS2.out]; exact ⟨HP.out.1, by have := HP.out.2; dsimp only; omega, fun _ => HP.out.2⟩, fun _ => by rw [HS2.out]; exact HD2.out, (fun k hk => nomatch hk), Nat.le_refl _, Nat.le_refl _⟩, HL⟩
          case round =>
            clear HL
            obtain ⟨j, sj, vj, Am, cm, mj, cj, rfl, rfl, hj, HSK, HPJ, HFR⟩ := hrel
            have tx : wr.cell? ⟨xb, 1, none⟩ = some (.int .i64 x.f1) := by rw [blk_cell HFR.out.x]; rfl
            have tF : wr.cell? ⟨F, 0, none⟩ = some (.int .i64 sj.fault) := by rw [blk_cell HFR.out.sv.f]; rfl
            by_cases hjl : j < ks.length
            · have hjl2 : (j : Int) < x.f1 := by rw [← HKL.out]; omega
              have a1 : decide ((j : Int) < x.f1) = true := decide_eq_true hjl2
              by_cases hfj : sj.fault = 0
              · rw [hfj] at tF
                have tK : wr.cell? ⟨K, 0, none⟩ = some (.func (.func 90) #[] #[.pointer (some ⟨T, 0, none⟩), .pointer (some ⟨N, 0, none⟩), .pointer (some ⟨M, 0, none⟩), .pointer (some ⟨E, 0, none⟩), .pointer (some ⟨S, 0, none⟩), .pointer (some ⟨F, 0, none⟩), .pointer (some ⟨O, 0, none⟩), .pointer (some ⟨K, 0, none⟩)]) := by rw [blk_cell HFR.out.sv.k]; rfl
                obtain ⟨k, hk⟩ : ∃ k, k = ks[j] := ⟨_, rfl⟩
                have hdk : ks.drop j = k :: ks.drop (j + 1) := by rw [hk]; exact List.drop_eq_getElem_cons hjl
                have hkm : k ∈ ks := by rw [hk]; exact List.getElem_mem hjl
                have hpj := HPJ.out
                have hsk := HSK.out
                rw [hdk] at hpj hsk
                obtain ⟨Y, hY⟩ : ∃ Y, Y = slT k sj := ⟨_, rfl⟩
                have hflk : (flats (k :: ks.drop (j + 1))).length = (flat k).length + (flats (ks.drop (j + 1))).length := by simp [flats]
                have hdj : ts.drop sj.next = flat k ++ (flats (ks.drop (j + 1)) ++ rest) := by rw [hpj.2.1 hfj]; simp [flats]
                have hic := HI.out k sj wr vj cj (flats (ks.drop (j + 1)) ++ rest) (HA.out k hkm) hdj HFR.out.sv hfj hpj.1 (by have := HC.out; omega)
                have hpy := slT_pin k sj hpj.1 hfj
                have hnmy := slT_name k sj
                have hszk : (key k.top).length ≤ maxLen := by
                  obtain ⟨y, kk2⟩ := k
                  have h1 : ts.drop sj.next = y :: (flats kk2 ++ (flats (ks.drop (j + 1)) ++ rest)) := by rw [hdj]; rfl
                  have h2 := HSZ.out y (rd_drop h1).2.2.2
                  exact Nat.le_trans (Nat.le_of_eq (Array.length_toList)) h2
                unfold slK at hsk
                rw [if_neg (fun h => h hfj)] at hsk
                rw [← hY] at hic hpy hnmy hsk
                obtain ⟨sy, ny, iy⟩ := Y
                dsimp only at hic hpy hnmy hsk
                have hny : ny.length ≤ maxLen := by rcases hnmy with h | h <;> rw [h]; exact Nat.zero_le _; exact hszk
                have hpos := flat_pos k
                have hcc : cj + (flat k).length - 1 + 1 + (flats (ks.drop (j + 1))).length ≤ cnt + (flats ks).length := by have := hpj.2.2.2.1; omega
                have hdn : sy.fault = 0 → ts.drop sy.next = flats (ks.drop (j + 1)) ++ rest := fun e => by
                  rw [hpy.2 e, ← List.drop_drop, hdj, List.drop_left]
                have HIC := Aside0.mk hic
                have HPY := Aside0.mk hpy.1
                have HNY := Aside0.mk hny
                have HSK2 := Aside0.mk hsk
                have HCC := Aside0.mk hcc
                have HDN := Aside0.mk hdn
                have HMJ := Aside0.mk hpj.2.2
                have HFJ := Aside0.mk hfj
                have HJL := Aside0.mk (show mj.length ≤ j from hpj.2.2.2.2)
                obtain ⟨t, ht⟩ : ∃ t : ByteArray, t = ⟨ny.toArray⟩ := ⟨_, rfl⟩
                rw [← ht] at HIC
                have htl : t.data.toList = ny := by rw [ht]
                clear hk hdk hkm hpj hY hflk hdj hic hpy hnmy hszk hny hpos hcc hdn hsk hfj
                by_cases hn0 : ny = []
                · subst hn0
                  have ht0 : t = ⟨#[]⟩ := ht.trans rfl
                  subst ht0
                  have HSK3 : Aside0 (slK (ks.drop (j + 1)) sy mj = R) := ⟨by have := HSK2.out; rwa [if_neg (fun h => h.1 rfl)] at this⟩
                  clear ht htl HSK2
                  go_wp2_with (first
                    | ((with_reducible refine gate_dst (N := 71) rfl ?_); refine goesF_ (some 71) rfl rfl (.tmp 70) #[.pointer (some ⟨T, 0, none⟩), .pointer (some ⟨N, 0, none⟩), .pointer (some ⟨M, 0, none⟩), .pointer (some ⟨E, 0, none⟩), .pointer (some ⟨S, 0, none⟩), .pointer (some ⟨F, 0, none⟩), .pointer (some ⟨O, 0, none⟩), .pointer (some ⟨K, 0, none⟩)] rfl Try.func90 (by kernel_rfl) rfl #[.pointer (some ⟨T, 0, none⟩), .pointer (some ⟨N, 0, none⟩), .pointer (some ⟨M, 0, none⟩), .pointer (some ⟨E, 0, none⟩), .pointer (some ⟨S, 0, none⟩), .pointer (some ⟨F, 0, none⟩), .pointer (some ⟨O, 0, none⟩), .pointer (some ⟨K, 0, none⟩)] rfl (by (try simp only [List.map_toArray, List.map_cons, List.map_nil]); first | done | rfl) ?_; refine HIC.out.mono ?_; rintro e w6 ⟨he, ha6⟩; subst he; refine ⟨_, rfl, ?_⟩; obtain ⟨v6, hf6⟩ := HFR.out.after ha6; have HF6 := Aside0.mk hf6; have tF6 : w6.cell? ⟨F, 0, none⟩ = some (.int .i64 sy.fault) := (by rw [blk_cell hf6.sv.f]; rfl); clear ha6 hf6)
                    | fail)
                  go_roundg (ks.length - (j + 1))
                  case measure => have := hj.out; omega
                  case rel => exact ⟨j + 1, sy, v6, Am, cm, mj, cj + (flat k).length - 1 + 1, rfl, rfl, ⟨by omega, rfl⟩, HSK3, ⟨HPY.out, HDN.out, HMJ.out.1, HCC.out, by have := HJL.out; omega⟩, ⟨HF6.out.more (Nat.le_succ _)⟩⟩
                · have n1 : (t == (⟨#[]⟩ : ByteArray)) = false := by rw [Bool.eq_false_iff]; intro h; exact hn0 (by rw [← htl, (Go.MapKept.bytes_beq _ _).1 h])
                  have n2 : (t != (⟨#[]⟩ : ByteArray)) = true := by unfold bne; rw [n1]; rfl
                  have n3 : decide (t = (⟨#[]⟩ : ByteArray)) = false := decide_eq_false (fun h => hn0 (by rw [← htl, h]))
                  have n4 : t.toList.isEmpty = false := by
                    rw [ByteArray.toList_eq, htl]
                    cases ny with
                    | nil => exact absurd rfl hn0
                    | cons a r => rfl
                  have n5 : (t.toList = []) = False := eq_false (fun h => by rw [h] at n4; exact absurd n4 (by decide))
                  have HN0 := Aside0.mk hn0
                  have HTL := Aside0.mk htl
                  have HT := Aside0.mk ht
                  by_cases hfy : sy.fault = 0
                  · have HSK3 : Aside0 (slK (ks.drop (j + 1)) { sy with seen := put sy.seen ny iy } (mj ++ [ny]) = R) := ⟨by have := HSK2.out; rwa [if_pos ⟨hn0, hfy⟩] at this⟩
                    have HFY := Aside0.mk hfy
                    clear hn0 htl ht HSK2 hfy
                    go_wp2_with (first
                      | ((with_reducible refine gate_dst (N := 71) rfl ?_); refine goesF_ (some 71) rfl rfl (.tmp 70) #[.pointer (some ⟨T, 0, none⟩), .pointer (some ⟨N, 0, none⟩), .pointer (some ⟨M, 0, none⟩), .pointer (some ⟨E, 0, none⟩), .pointer (some ⟨S, 0, none⟩), .pointer (some ⟨F, 0, none⟩), .pointer (some ⟨O, 0, none⟩), .pointer (some ⟨K, 0, none⟩)] rfl Try.func90 (by kernel_rfl) rfl #[.pointer (some ⟨T, 0, none⟩), .pointer (some ⟨N, 0, none⟩), .pointer (some ⟨M, 0, none⟩), .pointer (some ⟨E, 0, none⟩), .pointer (some ⟨S, 0, none⟩), .pointer (some ⟨F, 0, none⟩), .pointer (some ⟨O, 0, none⟩), .pointer (some ⟨K, 0, none⟩)] rfl (by (try simp only [List.map_toArray, List.map_cons, List.map_nil]); first | done | rfl) ?_; refine HIC.out.mono ?_; rintro e w6 ⟨he, ha6⟩; subst he; refine ⟨_, rfl, ?_⟩; obtain ⟨v6, hf6⟩ := HFR.out.after ha6; have HF6 := Aside0.mk hf6; have tF6 : w6.cell? ⟨F, 0, none⟩ = some (.int .i64 0) := (by rw [blk_cell hf6.sv.f, HFY.out]; rfl); clear ha6 hf6)
                      | ((with_reducible refine gate_builtin (b := .append) (xs := #[.tmp 80, .tmp 82]) rfl ?_); at_builtin; refine Kd.R_append Kd.string (w0 := w6) W.heap.size rfl (.tmp 80) (.tmp 82) 58 9 (.string ⟨#[]⟩) 16 rfl Try.underlying58 info9 rfl (by decide) (by decide) (.slice Am mj.length cm) _ t [.string t] (fun _ => True) (fun _ => False) rfl rfl rfl (fun _ hk => hk.elim) (fun _ _ => trivial) HF6.out.mi (Below.refl _ _) HF6.out.kb.size (by rw [strK_len]; have := HJL.out; omega) ?_; intro v8 w8 ho hb hg hat; obtain ⟨A8, c8, e8⟩ := Kd.R_slice ho; have e9 : v8 = .slice A8 (mj.length + 1) c8 := (by rw [e8, List.length_append, strK_len]; rfl); clear e8; subst e9; rw [HT.out] at ho; have HF7 := Aside0.mk (HF6.out.app ho hg); have tS7 : w8.cell? ⟨S, 0, none⟩ = some (.map (some b)) := (by rw [blk_cell HF7.out.sv.sm]; rfl); clear ho hb hg hat)
                      | ((with_reducible refine gate_ (.mapUpdate 128 (.tmp 84) (.tmp 85) (.tmp 86)) rfl ?_); refine at_put rfl (.tmp 84) (.tmp 85) (.tmp 86) 128 3 rfl Try.underlying128 rfl HF7.out.sv.own (by have := HCC.out; have := HC.out; unfold maxLen; omega) t rfl (by have h1 : t.size = t.data.toList.length := (Array.length_toList).symm; rw [h1, HTL.out]; exact HNY.out) (.int .i64 iy) rfl ?_; intro w9 ho hk; rw [HTL.out, show Value.int .i64 iy = inV iy from rfl, put_sV] at ho; have HF8 := Aside0.mk (HF7.out.seen hk ho); clear ho hk)
                      | fail)
                    go_roundg (ks.length - (j + 1))
                    case measure => have := hj.out; omega
                    case rel => exact ⟨j + 1, { sy with seen := put sy.seen ny iy }, v6, A8, c8, mj ++ [ny], cj + (flat k).length - 1 + 1, by rw [List.length_append]; rfl, rfl, ⟨by omega, rfl⟩, HSK3, ⟨HPY.out, HDN.out, fun q hq => (List.mem_append.1 hq).elim (HMJ.out.1 q) (fun e => by rw [List.mem_singleton.1 e]; exact HNY.out), HCC.out, by have := HJL.out; rw [List.length_append]; show mj.length + 1 ≤ j + 1; omega⟩, ⟨by rw [List.length_append]; exact HF8.out⟩⟩
                  · have HSK3 : Aside0 (slK (ks.drop (j + 1)) sy mj = R) := ⟨by have := HSK2.out; rwa [if_neg (fun h => hfy h.2)] at this⟩
                    have m1 : (sy.fault == 0) = false := beq_eq_false_iff_ne.2 hfy
                    have m2 : decide (sy.fault = 0) = false := decide_eq_false hfy
                    clear hn0 htl ht HSK2 hfy
                    go_wp2_with (first
                      | ((with_reducible refine gate_dst (N := 71) rfl ?_); refine goesF_ (some 71) rfl rfl (.tmp 70) #[.pointer (some ⟨T, 0, none⟩), .pointer (some ⟨N, 0, none⟩), .pointer (some ⟨M, 0, none⟩), .pointer (some ⟨E, 0, none⟩), .pointer (some ⟨S, 0, none⟩), .pointer (some ⟨F, 0, none⟩), .pointer (some ⟨O, 0, none⟩), .pointer (some ⟨K, 0, none⟩)] rfl Try.func90 (by kernel_rfl) rfl #[.pointer (some ⟨T, 0, none⟩), .pointer (some ⟨N, 0, none⟩), .pointer (some ⟨M, 0, none⟩), .pointer (some ⟨E, 0, none⟩), .pointer (some ⟨S, 0, none⟩), .pointer (some ⟨F, 0, none⟩), .pointer (some ⟨O, 0, none⟩), .pointer (some ⟨K, 0, none⟩)] rfl (by (try simp only [List.map_toArray, List.map_cons, List.map_nil]); first | done | rfl) ?_; refine HIC.out.mono ?_; rintro e w6 ⟨he, ha6⟩; subst he; refine ⟨_, rfl, ?_⟩; obtain ⟨v6, hf6⟩ := HFR.out.after ha6; have HF6 := Aside0.mk hf6; have tF6 : w6.cell? ⟨F, 0, none⟩ = some (.int .i64 sy.fault) := (by rw [blk_cell hf6.sv.f]; rfl); clear ha6 hf6)
                      | fail)
                    go_roundg (ks.length - (j + 1))
                    case measure => have := hj.out; omega
                    case rel => exact ⟨j + 1, sy, v6, Am, cm, mj, cj + (flat k).length - 1 + 1, rfl, rfl, ⟨by omega, rfl⟩, HSK3, ⟨HPY.out, HDN.out, HMJ.out.1, HCC.out, by have := HJL.out; omega⟩, ⟨HF6.out.more (Nat.le_succ _)⟩⟩
              · have m1 : (sj.fault == 0) = false := beq_eq_false_iff_ne.2 hfj
                have m2 : decide (sj.fault = 0) = false := decide_eq_false hfj
                have HRE : Aside0 (R = (sj, mj)) := ⟨by
                  rw [← HSK.out]
                  cases hdk : ks.drop j with
                  | nil => rfl
                  | cons k r => unfold slK; rw [if_pos hfj]⟩
                clear hfj
                have hml : mj.length ≤ 2048 := by have := HPJ.out.2.2.2.2; have := hj.out; omega
                have HML := Aside0.mk HPJ.out.2.2
                clear HPJ HSK
                go_wp2_with (fail)
                go_loopg [89] mj.length (fun kk v89 wq => ∃ i : Nat, v89 = .int .i64 i ∧ Aside0 (i ≤ mj.length ∧ kk = mj.length - i) ∧ Aside0 (Fr B0 T b S M O N F E K (some ad) c ts W0 W v x xb wq { sj with seen := dels sj.seen (mj.take i) } vj cj (.slice Am mj.length cm) mj))
                case atStart => exact ⟨0, rfl, ⟨Nat.zero_le _, rfl⟩, HFR⟩
                case round =>
                  clear HFR tx tF
                  obtain ⟨i, rfl, hi, HFR⟩ := hrel
                  by_cases hil : i < mj.length
                  · have c1 : decide ((i : Int) < (mj.length : Int)) = true := decide_eq_true (by omega)
                    have c2 : decide (i < mj.length) = true := decide_eq_true hil
                    have c3 : (i : Int) < (mj.length : Int) := by omega
                    have c4 : (0 : Int) ≤ (i : Int) := by omega
                    have c5 : (i : Int) < ((strK mj).length : Int) := by rw [strK_len]; exact c3
                    obtain ⟨an, csn, eN, _, hKn, hcelln⟩ := Kd.C_get (Kd.R_reads' HFR.out.mi).2.2 ByteArray.empty (i : Int) c4 c5
                    rw [Int.toNat_natCast] at hKn hcelln
                    rw [strK_get mj i hil] at hKn
                    obtain ⟨t, ht⟩ : ∃ t : ByteArray, t = ⟨(mj[i]).toArray⟩ := ⟨_, rfl⟩
                    rw [← ht] at hKn
                    subst eN
                    have hKn' : csn = [.string t] := hKn
                    subst hKn'
                    have cn := hcelln 0 _ rfl
                    rw [show Kd.string.sz = 1 from rfl, Nat.mul_one, Nat.add_zero] at cn
                    have cS := HFR.out.cS
                    have htl : t.data.toList = mj[i] := by rw [ht]
                    have hts : t.size ≤ maxLen := by
                      have h1 : t.size = t.data.toList.length := (Array.length_toList).symm
                      rw [h1, htl]
                      exact HML.out.1 _ (List.getElem_mem hil)
                    have HTL := Aside0.mk htl
                    have HTS := Aside0.mk hts
                    clear ht htl hts hKn hcelln
                    go_wp2_with (first
                      | ((with_reducible refine gate_builtin (b := .delete) (xs := #[.tmp 93, .tmp 94]) rfl ?_); refine at_del rfl (.tmp 93) (.tmp 94) 128 3 rfl Try.underlying128 rfl HFR.out.sv.own t rfl HTS.out ?_; intro w9 ho hk; rw [HTL.out, del_sV] at ho; have HF9 := Aside0.mk (HFR.out.seen hk ho); clear ho hk)
                      | fail)
                    go_roundg (mj.length - (i + 1))
                    case measure => have := hi.out; omega
                    case rel => exact ⟨i + 1, rfl, ⟨by omega, rfl⟩, ⟨by rw [dels_take _ _ _ hil]; exact HF9.out⟩⟩
                  · have c1 : decide ((i : Int) < (mj.length : Int)) = false := decide_eq_false (by omega)
                    have c2 : decide (i < mj.length) = false := decide_eq_false hil
                    have hZ : Z = ({ sj with seen := dels sj.seen mj }, tellS x s) := by rw [HSL.out, if_neg (fun h => h HF1.out), HRE.out]
                    have hti : mj.take i = mj := List.take_of_length_le (by omega)
                    rw [hti] at HFR
                    have HZ := Aside0.mk hZ
                    clear hZ hti
                    go_wp2_with (fail)
                    go_ret2
                    exact ⟨by rw [HZ.out, HTE.out]; rfl, by rw [HZ.out]; exact ⟨vj, HFR.out.sv.more (by have := HML.out.2.1; omega), HFR.out.kb, HFR.out.V⟩⟩
            · have a1 : decide ((j : Int) < x.f1) = false := decide_eq_false (by rw [← HKL.out]; omega)
              have HRE : Aside0 (R = (sj, mj)) := ⟨by
                rw [← HSK.out, List.drop_of_length_le (by omega)]
                rfl⟩
              have hml : mj.length ≤ 2048 := by have := HPJ.out.2.2.2.2; have := hj.out; omega
              have HML := Aside0.mk HPJ.out.2.2
              clear HPJ HSK
              go_wp2_with (fail)
              go_loopg [89] mj.length (fun kk v89 wq => ∃ i : Nat, v89 = .int .i64 i ∧ Aside0 (i ≤ mj.length ∧ kk = mj.length - i) ∧ Aside0 (Fr B0 T b S M O N F E K (some ad) c ts W0 W v x xb wq { sj with seen := dels sj.seen (mj.take i) } vj cj (.slice Am mj.length cm) mj))
              case atStart => exact ⟨0, rfl, ⟨Nat.zero_le _, rfl⟩, HFR⟩
              case round =>
                clear HFR tx tF
                obtain ⟨i, rfl, hi, HFR⟩ := hrel
                by_cases hil : i < mj.length
                · have c1 : decide ((i : Int) < (mj.length : Int)) = true := decide_eq_true (by omega)
                  have c2 : decide (i < mj.length) = true := decide_eq_true hil
                  have c3 : (i : Int) < (mj.length : Int) := by omega
                  have c4 : (0 : Int) ≤ (i : Int) := by omega
                  have c5 : (i : Int) < ((strK mj).length : Int) := by rw [strK_len]; exact c3
                  obtain ⟨an, csn, eN, _, hKn, hcelln⟩ := Kd.C_get (Kd.R_reads' HFR.out.mi).2.2 ByteArray.empty (i : Int) c4 c5
                  rw [Int.toNat_natCast] at hKn hcelln
                  rw [strK_get mj i hil] at hKn
                  obtain ⟨t, ht⟩ : ∃ t : ByteArray, t = ⟨(mj[i]).toArray⟩ := ⟨_, rfl⟩
                  rw [← ht] at hKn
                  subst eN
                  have hKn' : csn = [.string t] := hKn
                  subst hKn'
                  have cn := hcelln 0 _ rfl
                  rw [show Kd.string.sz = 1 from rfl, Nat.mul_one, Nat.add_zero] at cn
                  have cS := HFR.out.cS
                  have htl : t.data.toList = mj[i] := by rw [ht]
                  have hts : t.size ≤ maxLen := by
                    have h1 : t.size = t.data.toList.length := (Array.length_toList).symm
                    rw [h1, htl]
                    exact HML.out.1 _ (List.getElem_mem hil)
                  have HTL := Aside0.mk htl
                  have HTS := Aside0.mk hts
                  clear ht htl hts hKn hcelln
                  go_wp2_with (first
                    | ((with_reducible refine gate_builtin (b := .delete) (xs := #[.tmp 93, .tmp 94]) rfl ?_); refine at_del rfl (.tmp 93) (.tmp 94) 128 3 rfl Try.underlying128 rfl HFR.out.sv.own t rfl HTS.out ?_; intro w9 ho hk; rw [HTL.out, del_sV] at ho; have HF9 := Aside0.mk (HFR.out.seen hk ho); clear ho hk)
                    | fail)
                  go_roundg (mj.length - (i + 1))
                  case measure => have := hi.out; omega
                  case rel => exact ⟨i + 1, rfl, ⟨by omega, rfl⟩, ⟨by rw [dels_take _ _ _ hil]; exact HF9.out⟩⟩
                · have c1 : decide ((i : Int) < (mj.length : Int)) = false := decide_eq_false (by omega)
                  have c2 : decide (i < mj.length) = false := decide_eq_false hil
                  have hZ : Z = ({ sj with seen := dels sj.seen mj }, tellS x s) := by rw [HSL.out, if_neg (fun h => h HF1.out), HRE.out]
                  have hti : mj.take i = mj := List.take_of_length_le (by omega)
                  rw [hti] at HFR
                  have HZ := Aside0.mk hZ
                  clear hZ hti
                  go_wp2_with (fail)
                  go_ret2
                  exact ⟨by rw [HZ.out, HTE.out]; rfl, by rw [HZ.out]; exact ⟨vj, HFR.out.sv.more (by have := HML.out.2.1; omega), HFR.out.kb, HFR.out.V⟩⟩
    · have e2 : (x.f0 == 2) = false := beq_eq_false_iff_ne.2 h2
      have e4 : (x.f0 == 4) = false := beq_eq_false_iff_ne.2 h4
      have e5 : (x.f0 == 5) = false := beq_eq_false_iff_ne.2 h5
      have e26 : (x.f0 == 26) = false := beq_eq_false_iff_ne.2 h26
      have hm : makes x = false := by unfold makes; rw [e2, e4]; rfl
      have hu : uses x = false := by unfold uses; rw [e5, e26]; rfl
      have hh : s1 = { s with out := s.out ++ [-1] } := by rw [hs1]; unfold headS; rw [hm, hu]; rfl
      have HH := Aside0.mk hh
      have HTE : Aside0 (tellS x s = ([], -1)) := ⟨by unfold tellS; rw [hm]; rfl⟩
      clear h2 h4 h5 h26 hm hu hh hs1
      have cO : (W.alloc (.cells #[.int .u8 x.f0, .int .i64 x.f1, .int .i64 x.f2, .string x.f3] 61)).cell? ⟨O, 0, none⟩ = some v := by rw [blk_cell HSX.out.o]; rfl
      have hfz : s.fault = 0 := HF0.out
      go_enter Try.func90, Try.ntmps90
      go_wp2_with (first
        | ((with_reducible refine gate_builtin (b := .append) (xs := #[.tmp 27, .tmp 28]) rfl ?_); at_builtin; refine Kd.R_append (Kd.int .i64) (w0 := W0) B0 rfl (.tmp 27) (.tmp 28) 50 3 (.int .i64 0) 8 rfl Try.underlying50 info3 rfl (by decide) (by decide) v _ (-1 : Int) [.int .i64 (-1 : Int)] (fun q => ¬ Bxs T b S M O N F E K q) (fun _ => False) rfl (by first | rfl | (simp only [World.size_alloc]; first | done | rfl)) rfl (fun _ hk => hk.elim) (fun q hq hx => absurd hx (HSX.out.fresh hq)) HSX.out.R HSX.out.B HSX.out.lt.2 (by have := hoL; omega) ?_; intro v1 w1 ho hb hg hat; obtain ⟨A5, c5, e5⟩ := Kd.R_slice ho; have e6 : v1 = .slice A5 (s.out.length + 1) c5 := (by rw [e5, List.length_append]; rfl); clear e5; subst e6; have HAA := Aside0.mk (HSX.out.app ho hg); have HAT := Aside0.mk hat; have gO1 := (Kb.grown hg).blk HSX.out.o (HSX.out.row (by unfold Bxs; omega)); have cO1 : w1.cell? ⟨O, 0, none⟩ = some (v) := (by rw [blk_cell gO1]; rfl); have fO1 := blk_frozen gO1 0; have lO1 := blk_lt gO1; clear gO1; have gN1 := (Kb.grown hg).blk HSX.out.n (HSX.out.row (by unfold Bxs; omega)); have cN1 : w1.cell? ⟨N, 0, none⟩ = some (.int .i64 s.next) := (by rw [blk_cell gN1]; rfl); have fN1 := blk_frozen gN1 0; have lN1 := blk_lt gN1; clear gN1; have gF1 := (Kb.grown hg).blk HSX.out.f (HSX.out.row (by unfold Bxs; omega)); have cF1 : w1.cell? ⟨F, 0, none⟩ = some (.int .i64 s.fault) := (by rw [blk_cell gF1]; rfl); have fF1 := blk_frozen gF1 0; have lF1 := blk_lt gF1; clear gF1; have hxb1 := (Kb.grown hg).blk HQX.out (Kd.R_ne HSX.out.R HQX.out (by decide)); have HXB1 := Aside0.mk hxb1; clear ho hb hg hat hxb1)
        | fail)
      have hf1 : s1.fault = 0 := by rw [HH.out]; exact HF0.out
      have HL : Aside0 (Fr B0 T b S M O N F E K (some ad) c ts W0 W v x W.heap.size ((w1.setCell ⟨O, 0, none⟩ (.slice A5 (s.out.length + 1) c5)).setCell ⟨N, 0, none⟩ (.int .i64 ((s.next : Int) + 1))) s2 (.slice A5 (s.out.length + 1) c5) cnt (.slice none 0 0) []) := ⟨by
        rw [HS2.out, HH.out]
        exact fr_start HS.out (HAA.out.1.setN (s.next + 1)) (((Kb.of_below _ (below_alloc (Below.refl _ _) (.cells #[.int .u8 x.f0, .int .i64 x.f1, .int .i64 x.f2, .string x.f3] 61))).trans HAA.out.2).trans (chgN _ _)) (mv_alloc HAT.out) ((kset _ N _).blk ((kset _ O _).blk HXB1.out (by have := HNE.out; have := HLT.out; omega)) (by have := HNE.out; have := HLT.out; omega))⟩
      have HF1 := Aside0.mk hf1
      clear hf1 HAA HAT HXB1 cO1 fO1 lO1 cN1 fN1 lN1 cF1 fF1 lF1 cO
      clear cT cN q0 q1 q2 q3 HSX HQX
      obtain ⟨xb, hxb⟩ : ∃ xb, xb = W.heap.size := ⟨_, rfl⟩
      rw [← hxb] at HL
      rw [← hxb]
      clear hxb
      go_loopg [15, 16] ks.length (fun kk v15 v16 wr => ∃ (j : Nat) (sj : St) (vj : Value) (Am : Option Addr) (cm : Nat) (mj : List Ky) (cj : Nat), v15 = .slice Am mj.length cm ∧ v16 = .int .i64 j ∧ Aside0 (j ≤ ks.length ∧ kk = ks.length - j) ∧ Aside0 (slK (ks.drop j) sj mj = R) ∧
        Aside0 (Pin sj ∧ (sj.fault = 0 → ts.drop sj.next = flats (ks.drop j) ++ rest) ∧ (∀ k ∈ mj, k.length ≤ maxLen) ∧ cj + (flats (ks.drop j)).length ≤ cnt + (flats ks).length ∧ mj.length ≤ j) ∧ Aside0 (Fr B0 T b S M O N F E K (some ad) c ts W0 W v x xb wr sj vj cj (.slice Am mj.length cm) mj))
      case atStart => exact ⟨0, s2, _, none, 0, [], cnt, rfl, rfl, ⟨Nat.zero_le _, rfl⟩, ⟨by rw [HR.out, HS2.out]; rfl⟩, ⟨by rw [HS2.out]; exact ⟨HP.out.1, by have := HP.out.2; dsimp only; omega, fun _ => HP.out.2⟩, fun _ => by rw [HS2.out]; exact HD2.out, (fun k hk => nomatch hk), Nat.le_refl _, Nat.le_refl _⟩, HL⟩
      case round =>
        clear HL
        obtain ⟨j, sj, vj, Am, cm, mj, cj, rfl, rfl, hj, HSK, HPJ, HFR⟩ := hrel
        have tx : wr.cell? ⟨xb, 1, none⟩ = some (.int .i64 x.f1) := by rw [blk_cell HFR.out.x]; rfl
        have tF : wr.cell? ⟨F, 0, none⟩ = some (.int .i64 sj.fault) := by rw [blk_cell HFR.out.sv.f]; rfl
        by_cases hjl : j < ks.length
        · have hjl2 : (j : Int) < x.f1 := by rw [← HKL.out]; omega
          have a1 : decide ((j : Int) < x.f1) = true := decide_eq_true hjl2
          by_cases hfj : sj.fault = 0
          · rw [hfj] at tF
            have tK : wr.cell? ⟨K, 0, none⟩ = some (.func (.func 90) #[] #[.pointer (some ⟨T, 0, none⟩), .pointer (some ⟨N, 0, none⟩), .pointer (some ⟨M, 0, none⟩), .pointer (some ⟨E, 0, none⟩), .pointer (some ⟨S, 0, none⟩), .pointer (some ⟨F, 0, none⟩), .pointer (some ⟨O, 0, none⟩), .pointer (some ⟨K, 0, none⟩)]) := by rw [blk_cell HFR.out.sv.k]; rfl
            obtain ⟨k, hk⟩ : ∃ k, k = ks[j] := ⟨_, rfl⟩
            have hdk : ks.drop j = k :: ks.drop (j + 1) := by rw [hk]; exact List.drop_eq_getElem_cons hjl
            have hkm : k ∈ ks := by rw [hk]; exact List.getElem_mem hjl
            have hpj := HPJ.out
            have hsk := HSK.out
            rw [hdk] at hpj hsk
            obtain ⟨Y, hY⟩ : ∃ Y, Y = slT k sj := ⟨_, rfl⟩
            have hflk : (flats (k :: ks.drop (j + 1))).length = (flat k).length + (flats (ks.drop (j + 1))).length := by simp [flats]
            have hdj : ts.drop sj.next = flat k ++ (flats (ks.drop (j + 1)) ++ rest) := by rw [hpj.2.1 hfj]; simp [flats]
            have hic := HI.out k sj wr vj cj (flats (ks.drop (j + 1)) ++ rest) (HA.out k hkm) hdj HFR.out.sv hfj hpj.1 (by have := HC.out; omega)
            have hpy := slT_pin k sj hpj.1 hfj
            have hnmy := slT_name k sj
            have hszk : (key k.top).length ≤ maxLen := by
              obtain ⟨y, kk2⟩ := k
              have h1 : ts.drop sj.next = y :: (flats kk2 ++ (flats (ks.drop (j + 1)) ++ rest)) := by rw [hdj]; rfl
              have h2 := HSZ.out y (rd_drop h1).2.2.2
              exact Nat.le_trans (Nat.le_of_eq (Array.length_toList)) h2
            unfold slK at hsk
            rw [if_neg (fun h => h hfj)] at hsk
            rw [← hY] at hic hpy hnmy hsk
            obtain ⟨sy, ny, iy⟩ := Y
            dsimp only at hic hpy hnmy hsk
            have hny : ny.length ≤ maxLen := by rcases hnmy with h | h <;> rw [h]; exact Nat.zero_le _; exact hszk
            have hpos := flat_pos k
            have hcc : cj + (flat k).length - 1 + 1 + (flats (ks.drop (j + 1))).length ≤ cnt + (flats ks).length := by have := hpj.2.2.2.1; omega
            have hdn : sy.fault = 0 → ts.drop sy.next = flats (ks.drop (j + 1)) ++ rest := fun e => by
              rw [hpy.2 e, ← List.drop_drop, hdj, List.drop_left]
            have HIC := Aside0.mk hic
            have HPY := Aside0.mk hpy.1
            have HNY := Aside0.mk hny
            have HSK2 := Aside0.mk hsk
            have HCC := Aside0.mk hcc
            have HDN := Aside0.mk hdn
            have HMJ := Aside0.mk hpj.2.2
            have HFJ := Aside0.mk hfj
            have HJL := Aside0.mk (show mj.length ≤ j from hpj.2.2.2.2)
            obtain ⟨t, ht⟩ : ∃ t : ByteArray, t = ⟨ny.toArray⟩ := ⟨_, rfl⟩
            rw [← ht] at HIC
            have htl : t.data.toList = ny := by rw [ht]
            clear hk hdk hkm hpj hY hflk hdj hic hpy hnmy hszk hny hpos hcc hdn hsk hfj
            by_cases hn0 : ny = []
            · subst hn0
              have ht0 : t = ⟨#[]⟩ := ht.trans rfl
              subst ht0
              have HSK3 : Aside0 (slK (ks.drop (j + 1)) sy mj = R) := ⟨by have := HSK2.out; rwa [if_neg (fun h => h.1 rfl)] at this⟩
              clear ht htl HSK2
              go_wp2_with (first
                | ((with_reducible refine gate_dst (N := 71) rfl ?_); refine goesF_ (some 71) rfl rfl (.tmp 70) #[.pointer (some ⟨T, 0, none⟩), .pointer (some ⟨N, 0, none⟩), .pointer (some ⟨M, 0, none⟩), .pointer (some ⟨E, 0, none⟩), .pointer (some ⟨S, 0, none⟩), .pointer (some ⟨F, 0, none⟩), .pointer (some ⟨O, 0, none⟩), .pointer (some ⟨K, 0, none⟩)] rfl Try.func90 (by kernel_rfl) rfl #[.pointer (some ⟨T, 0, none⟩), .pointer (some ⟨N, 0, none⟩), .pointer (some ⟨M, 0, none⟩), .pointer (some ⟨E, 0, none⟩), .pointer (some ⟨S, 0, none⟩), .pointer (some ⟨F, 0, none⟩), .pointer (some ⟨O, 0, none⟩), .pointer (some ⟨K, 0, none⟩)] rfl (by (try simp only [List.map_toArray, List.map_cons, List.map_nil]); first | done | rfl) ?_; refine HIC.out.mono ?_; rintro e w6 ⟨he, ha6⟩; subst he; refine ⟨_, rfl, ?_⟩; obtain ⟨v6, hf6⟩ := HFR.out.after ha6; have HF6 := Aside0.mk hf6; have tF6 : w6.cell? ⟨F, 0, none⟩ = some (.int .i64 sy.fault) := (by rw [blk_cell hf6.sv.f]; rfl); clear ha6 hf6)
                | fail)
              go_roundg (ks.length - (j + 1))
              case measure => have := hj.out; omega
              case rel => exact ⟨j + 1, sy, v6, Am, cm, mj, cj + (flat k).length - 1 + 1, rfl, rfl, ⟨by omega, rfl⟩, HSK3, ⟨HPY.out, HDN.out, HMJ.out.1, HCC.out, by have := HJL.out; omega⟩, ⟨HF6.out.more (Nat.le_succ _)⟩⟩
            · have n1 : (t == (⟨#[]⟩ : ByteArray)) = false := by rw [Bool.eq_false_iff]; intro h; exact hn0 (by rw [← htl, (Go.MapKept.bytes_beq _ _).1 h])
              have n2 : (t != (⟨#[]⟩ : ByteArray)) = true := by unfold bne; rw [n1]; rfl
              have n3 : decide (t = (⟨#[]⟩ : ByteArray)) = false := decide_eq_false (fun h => hn0 (by rw [← htl, h]))
              have n4 : t.toList.isEmpty = false := by
                rw [ByteArray.toList_eq, htl]
                cases ny with
                | nil => exact absurd rfl hn0
                | cons a r => rfl
              have n5 : (t.toList = []) = False := eq_false (fun h => by rw [h] at n4; exact absurd n4 (by decide))
              have HN0 := Aside0.mk hn0
              have HTL := Aside0.mk htl
              have HT := Aside0.mk ht
              by_cases hfy : sy.fault = 0
              · have HSK3 : Aside0 (slK (ks.drop (j + 1)) { sy with seen := put sy.seen ny iy } (mj ++ [ny]) = R) := ⟨by have := HSK2.out; rwa [if_pos ⟨hn0, hfy⟩] at this⟩
                have HFY := Aside0.mk hfy
                clear hn0 htl ht HSK2 hfy
                go_wp2_with (first
                  | ((with_reducible refine gate_dst (N := 71) rfl ?_); refine goesF_ (some 71) rfl rfl (.tmp 70) #[.pointer (some ⟨T, 0, none⟩), .pointer (some ⟨N, 0, none⟩), .pointer (some ⟨M, 0, none⟩), .pointer (some ⟨E, 0, none⟩), .pointer (some ⟨S, 0, none⟩), .pointer (some ⟨F, 0, none⟩), .pointer (some ⟨O, 0, none⟩), .pointer (some ⟨K, 0, none⟩)] rfl Try.func90 (by kernel_rfl) rfl #[.pointer (some ⟨T, 0, none⟩), .pointer (some ⟨N, 0, none⟩), .pointer (some ⟨M, 0, none⟩), .pointer (some ⟨E, 0, none⟩), .pointer (some ⟨S, 0, none⟩), .pointer (some ⟨F, 0, none⟩), .pointer (some ⟨O, 0, none⟩), .pointer (some ⟨K, 0, none⟩)] rfl (by (try simp only [List.map_toArray, List.map_cons, List.map_nil]); first | done | rfl) ?_; refine HIC.out.mono ?_; rintro e w6 ⟨he, ha6⟩; subst he; refine ⟨_, rfl, ?_⟩; obtain ⟨v6, hf6⟩ := HFR.out.after ha6; have HF6 := Aside0.mk hf6; have tF6 : w6.cell? ⟨F, 0, none⟩ = some (.int .i64 0) := (by rw [blk_cell hf6.sv.f, HFY.out]; rfl); clear ha6 hf6)
                  | ((with_reducible refine gate_builtin (b := .append) (xs := #[.tmp 80, .tmp 82]) rfl ?_); at_builtin; refine Kd.R_append Kd.string (w0 := w6) W.heap.size rfl (.tmp 80) (.tmp 82) 58 9 (.string ⟨#[]⟩) 16 rfl Try.underlying58 info9 rfl (by decide) (by decide) (.slice Am mj.length cm) _ t [.string t] (fun _ => True) (fun _ => False) rfl rfl rfl (fun _ hk => hk.elim) (fun _ _ => trivial) HF6.out.mi (Below.refl _ _) HF6.out.kb.size (by rw [strK_len]; have := HJL.out; omega) ?_; intro v8 w8 ho hb hg hat; obtain ⟨A8, c8, e8⟩ := Kd.R_slice ho; have e9 : v8 = .slice A8 (mj.length + 1) c8 := (by rw [e8, List.length_append, strK_len]; rfl); clear e8; subst e9; rw [HT.out] at ho; have HF7 := Aside0.mk (HF6.out.app ho hg); have tS7 : w8.cell? ⟨S, 0, none⟩ = some (.map (some b)) := (by rw [blk_cell HF7.out.sv.sm]; rfl); clear ho hb hg hat)
                  | ((with_reducible refine gate_ (.mapUpdate 128 (.tmp 84) (.tmp 85) (.tmp 86)) rfl ?_); refine at_put rfl (.tmp 84) (.tmp 85) (.tmp 86) 128 3 rfl Try.underlying128 rfl HF7.out.sv.own (by have := HCC.out; have := HC.out; unfold maxLen; omega) t rfl (by have h1 : t.size = t.data.toList.length := (Array.length_toList).symm; rw [h1, HTL.out]; exact HNY.out) (.int .i64 iy) rfl ?_; intro w9 ho hk; rw [HTL.out, show Value.int .i64 iy = inV iy from rfl, put_sV] at ho; have HF8 := Aside0.mk (HF7.out.seen hk ho); clear ho hk)
                  | fail)
                go_roundg (ks.length - (j + 1))
                case measure => have := hj.out; omega
                case rel => exact ⟨j + 1, { sy with seen := put sy.seen ny iy }, v6, A8, c8, mj ++ [ny], cj + (flat k).length - 1 + 1, by rw [List.length_append]; rfl, rfl, ⟨by omega, rfl⟩, HSK3, ⟨HPY.out, HDN.out, fun q hq => (List.mem_append.1 hq).elim (HMJ.out.1 q) (fun e => by rw [List.mem_singleton.1 e]; exact HNY.out), HCC.out, by have := HJL.out; rw [List.length_append]; show mj.length + 1 ≤ j + 1; omega⟩, ⟨by rw [List.length_append]; exact HF8.out⟩⟩
              · have HSK3 : Aside0 (slK (ks.drop (j + 1)) sy mj = R) := ⟨by have := HSK2.out; rwa [if_neg (fun h => hfy h.2)] at this⟩
                have m1 : (sy.fault == 0) = false := beq_eq_false_iff_ne.2 hfy
                have m2 : decide (sy.fault = 0) = false := decide_eq_false hfy
                clear hn0 htl ht HSK2 hfy
                go_wp2_with (first
                  | ((with_reducible refine gate_dst (N := 71) rfl ?_); refine goesF_ (some 71) rfl rfl (.tmp 70) #[.pointer (some ⟨T, 0, none⟩), .pointer (some ⟨N, 0, none⟩), .pointer (some ⟨M, 0, none⟩), .pointer (some ⟨E, 0, none⟩), .pointer (some ⟨S, 0, none⟩), .pointer (some ⟨F, 0, none⟩), .pointer (some ⟨O, 0, none⟩), .pointer (some ⟨K, 0, none⟩)] rfl Try.func90 (by kernel_rfl) rfl #[.pointer (some ⟨T, 0, none⟩), .pointer (some ⟨N, 0, none⟩), .pointer (some ⟨M, 0, none⟩), .pointer (some ⟨E, 0, none⟩), .pointer (some ⟨S, 0, none⟩), .pointer (some ⟨F, 0, none⟩), .pointer (some ⟨O, 0, none⟩), .pointer (some ⟨K, 0, none⟩)] rfl (by (try simp only [List.map_toArray, List.map_cons, List.map_nil]); first | done | rfl) ?_; refine HIC.out.mono ?_; rintro e w6 ⟨he, ha6⟩; subst he; refine ⟨_, rfl, ?_⟩; obtain ⟨v6, hf6⟩ := HFR.out.after ha6; have HF6 := Aside0.mk hf6; have tF6 : w6.cell? ⟨F, 0, none⟩ = some (.int .i64 sy.fault) := (by rw [blk_cell hf6.sv.f]; rfl); clear ha6 hf6)
                  | fail)
                go_roundg (ks.length - (j + 1))
                case measure => have := hj.out; omega
                case rel => exact ⟨j + 1, sy, v6, Am, cm, mj, cj + (flat k).length - 1 + 1, rfl, rfl, ⟨by omega, rfl⟩, HSK3, ⟨HPY.out, HDN.out, HMJ.out.1, HCC.out, by have := HJL.out; omega⟩, ⟨HF6.out.more (Nat.le_succ _)⟩⟩
          · have m1 : (sj.fault == 0) = false := beq_eq_false_iff_ne.2 hfj
            have m2 : decide (sj.fault = 0) = false := decide_eq_false hfj
            have HRE : Aside0 (R = (sj, mj)) := ⟨by
              rw [← HSK.out]
              cases hdk : ks.drop j with
              | nil => rfl
              | cons k r => unfold slK; rw [if_pos hfj]⟩
            clear hfj
            have hml : mj.length ≤ 2048 := by have := HPJ.out.2.2.2.2; have := hj.out; omega
            have HML := Aside0.mk HPJ.out.2.2
            clear HPJ HSK
            go_wp2_with (fail)
            go_loopg [89] mj.length (fun kk v89 wq => ∃ i : Nat, v89 = .int .i64 i ∧ Aside0 (i ≤ mj.length ∧ kk = mj.length - i) ∧ Aside0 (Fr B0 T b S M O N F E K (some ad) c ts W0 W v x xb wq { sj with seen := dels sj.seen (mj.take i) } vj cj (.slice Am mj.length cm) mj))
            case atStart => exact ⟨0, rfl, ⟨Nat.zero_le _, rfl⟩, HFR⟩
            case round =>
              clear HFR tx tF
              obtain ⟨i, rfl, hi, HFR⟩ := hrel
              by_cases hil : i < mj.length
              · have c1 : decide ((i : Int) < (mj.length : Int)) = true := decide_eq_true (by omega)
                have c2 : decide (i < mj.length) = true := decide_eq_true hil
                have c3 : (i : Int) < (mj.length : Int) := by omega
                have c4 : (0 : Int) ≤ (i : Int) := by omega
                have c5 : (i : Int) < ((strK mj).length : Int) := by rw [strK_len]; exact c3
                obtain ⟨an, csn, eN, _, hKn, hcelln⟩ := Kd.C_get (Kd.R_reads' HFR.out.mi).2.2 ByteArray.empty (i : Int) c4 c5
                rw [Int.toNat_natCast] at hKn hcelln
                rw [strK_get mj i hil] at hKn
                obtain ⟨t, ht⟩ : ∃ t : ByteArray, t = ⟨(mj[i]).toArray⟩ := ⟨_, rfl⟩
                rw [← ht] at hKn
                subst eN
                have hKn' : csn = [.string t] := hKn
                subst hKn'
                have cn := hcelln 0 _ rfl
                rw [show Kd.string.sz = 1 from rfl, Nat.mul_one, Nat.add_zero] at cn
                have cS := HFR.out.cS
                have htl : t.data.toList = mj[i] := by rw [ht]
                have hts : t.size ≤ maxLen := by
                  have h1 : t.size = t.data.toList.length := (Array.length_toList).symm
                  rw [h1, htl]
                  exact HML.out.1 _ (List.getElem_mem hil)
                have HTL := Aside0.mk htl
                have HTS := Aside0.mk hts
                clear ht htl hts hKn hcelln
                go_wp2_with (first
                  | ((with_reducible refine gate_builtin (b := .delete) (xs := #[.tmp 93, .tmp 94]) rfl ?_); refine at_del rfl (.tmp 93) (.tmp 94) 128 3 rfl Try.underlying128 rfl HFR.out.sv.own t rfl HTS.out ?_; intro w9 ho hk; rw [HTL.out, del_sV] at ho; have HF9 := Aside0.mk (HFR.out.seen hk ho); clear ho hk)
                  | fail)
                go_roundg (mj.length - (i + 1))
                case measure => have := hi.out; omega
                case rel => exact ⟨i + 1, rfl, ⟨by omega, rfl⟩, ⟨by rw [dels_take _ _ _ hil]; exact HF9.out⟩⟩
              · have c1 : decide ((i : Int) < (mj.length : Int)) = false := decide_eq_false (by omega)
                have c2 : decide (i < mj.length) = false := decide_eq_false hil
                have hZ : Z = ({ sj with seen := dels sj.seen mj }, tellS x s) := by rw [HSL.out, if_neg (fun h => h HF1.out), HRE.out]
                have hti : mj.take i = mj := List.take_of_length_le (by omega)
                rw [hti] at HFR
                have HZ := Aside0.mk hZ
                clear hZ hti
                go_wp2_with (fail)
                go_ret2
                exact ⟨by rw [HZ.out, HTE.out]; rfl, by rw [HZ.out]; exact ⟨vj, HFR.out.sv.more (by have := HML.out.2.1; omega), HFR.out.kb, HFR.out.V⟩⟩
        · have a1 : decide ((j : Int) < x.f1) = false := decide_eq_false (by rw [← HKL.out]; omega)
          have HRE : Aside0 (R = (sj, mj)) := ⟨by
            rw [← HSK.out, List.drop_of_length_le (by omega)]
            rfl⟩
          have hml : mj.length ≤ 2048 := by have := HPJ.out.2.2.2.2; have := hj.out; omega
          have HML := Aside0.mk HPJ.out.2.2
          clear HPJ HSK
          go_wp2_with (fail)
          go_loopg [89] mj.length (fun kk v89 wq => ∃ i : Nat, v89 = .int .i64 i ∧ Aside0 (i ≤ mj.length ∧ kk = mj.length - i) ∧ Aside0 (Fr B0 T b S M O N F E K (some ad) c ts W0 W v x xb wq { sj with seen := dels sj.seen (mj.take i) } vj cj (.slice Am mj.length cm) mj))
          case atStart => exact ⟨0, rfl, ⟨Nat.zero_le _, rfl⟩, HFR⟩
          case round =>
            clear HFR tx tF
            obtain ⟨i, rfl, hi, HFR⟩ := hrel
            by_cases hil : i < mj.length
            · have c1 : decide ((i : Int) < (mj.length : Int)) = true := decide_eq_true (by omega)
              have c2 : decide (i < mj.length) = true := decide_eq_true hil
              have c3 : (i : Int) < (mj.length : Int) := by omega
              have c4 : (0 : Int) ≤ (i : Int) := by omega
              have c5 : (i : Int) < ((strK mj).length : Int) := by rw [strK_len]; exact c3
              obtain ⟨an, csn, eN, _, hKn, hcelln⟩ := Kd.C_get (Kd.R_reads' HFR.out.mi).2.2 ByteArray.empty (i : Int) c4 c5
              rw [Int.toNat_natCast] at hKn hcelln
              rw [strK_get mj i hil] at hKn
              obtain ⟨t, ht⟩ : ∃ t : ByteArray, t = ⟨(mj[i]).toArray⟩ := ⟨_, rfl⟩
              rw [← ht] at hKn
              subst eN
              have hKn' : csn = [.string t] := hKn
              subst hKn'
              have cn := hcelln 0 _ rfl
              rw [show Kd.string.sz = 1 from rfl, Nat.mul_one, Nat.add_zero] at cn
              have cS := HFR.out.cS
              have htl : t.data.toList = mj[i] := by rw [ht]
              have hts : t.size ≤ maxLen := by
                have h1 : t.size = t.data.toList.length := (Array.length_toList).symm
                rw [h1, htl]
                exact HML.out.1 _ (List.getElem_mem hil)
              have HTL := Aside0.mk htl
              have HTS := Aside0.mk hts
              clear ht htl hts hKn hcelln
              go_wp2_with (first
                | ((with_reducible refine gate_builtin (b := .delete) (xs := #[.tmp 93, .tmp 94]) rfl ?_); refine at_del rfl (.tmp 93) (.tmp 94) 128 3 rfl Try.underlying128 rfl HFR.out.sv.own t rfl HTS.out ?_; intro w9 ho hk; rw [HTL.out, del_sV] at ho; have HF9 := Aside0.mk (HFR.out.seen hk ho); clear ho hk)
                | fail)
              go_roundg (mj.length - (i + 1))
              case measure => have := hi.out; omega
              case rel => exact ⟨i + 1, rfl, ⟨by omega, rfl⟩, ⟨by rw [dels_take _ _ _ hil]; exact HF9.out⟩⟩
            · have c1 : decide ((i : Int) < (mj.length : Int)) = false := decide_eq_false (by omega)
              have c2 : decide (i < mj.length) = false := decide_eq_false hil
              have hZ : Z = ({ sj with seen := dels sj.seen mj }, tellS x s) := by rw [HSL.out, if_neg (fun h => h HF1.out), HRE.out]
              have hti : mj.take i = mj := List.take_of_length_le (by omega)
              rw [hti] at HFR
              have HZ := Aside0.mk hZ
              clear hZ hti
              go_wp2_with (fail)
              go_ret2
              exact ⟨by rw [HZ.out, HTE.out]; rfl, by rw [HZ.out]; exact ⟨vj, HFR.out.sv.more (by have := HML.out.2.1; omega), HFR.out.kb, HFR.out.V⟩⟩
end Go.Proofs.Ytobgijpbfmpdaaa.Ck
