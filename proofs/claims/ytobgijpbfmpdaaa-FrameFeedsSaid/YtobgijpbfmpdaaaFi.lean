/- FrameFeeds: what holds between two pieces, and within a round. -/
import Derived.Test.YtobgijpbfmpdaaaFf
import Derived.Test.YtobgijpbfmpdaaaFm
set_option linter.unusedVariables false
set_option linter.unusedSimpArgs false
namespace Go.Proofs.Ytobgijpbfmpdaaa.Fi
open Go.RowKit Go.Proofs.Ytobgijpbfmpdaaa.PFr Go.Proofs.YtobgijpbfmpdaaaW.PrintWords
open Go.Proofs.Ytobgijpbfmpdaaa.Crc (readP bytesOk)
open Go.Proofs.Ytobgijpbfmpdaaa.SpQ Go.Proofs.Ytobgijpbfmpdaaa.Fd Go.Proofs.Ytobgijpbfmpdaaa.Fm
/-- What a piece turns: the bodies, what is left, what was taken, what is wrong. -/
def stp (left : List Int) (taken e : Int) (x : List Int) : List (List Int) × List Int × Int × Int :=
  if e = 0 then ((spl (left ++ x)).1, (left ++ x).drop (spl (left ++ x)).2.1.toNat, taken + (spl (left ++ x)).2.1, if (spl (left ++ x)).2.2 = 4 then 0 else (spl (left ++ x)).2.2) else ([], left, taken, e)
theorem stp_nums (left : List Int) (taken e : Int) (x : List Int) (room : Nat) (hb : bytesOk left = true) (hx : bytesOk x = true) (ht : 0 ≤ taken) (h : taken + left.length + room ≤ 3000) (hxr : x.length ≤ room) :
    bytesOk (stp left taken e x).2.1 = true ∧ 0 ≤ (stp left taken e x).2.2.1 ∧ (stp left taken e x).2.2.1 + (stp left taken e x).2.1.length + ((room - x.length : Nat) : Int) ≤ 3000 := by
  unfold stp
  have hz : bytesOk (left ++ x) = true := Crc.bytesOk_append hb hx
  by_cases he : e = 0
  · rw [if_pos he]
    have hr : 0 ≤ (spl (left ++ x)).2.1 ∧ (spl (left ++ x)).2.1 ≤ ((left ++ x).length : Int) := splitL_n (left ++ x) hz (left ++ x).length [] 0 (Int.le_refl _) (by omega)
    refine ⟨Crc.bytesOk_drop hz _, by simp only []; omega, ?_⟩
    simp only [List.length_drop]
    rw [List.length_append] at hr ⊢
    omega
  · rw [if_neg he]
    exact ⟨hb, ht, by simp only []; omega⟩
structure FI (w W : World) (g h : Nat) (left : List Int) (taken e : Int) (lv : Value) (As : Option Addr) (cs : Nat) : Prop where
  hg : W.heap[g]? = some (.cells #[.bool true, lv, .int .i64 taken, .int .i64 e] 43 (0, 0))
  hh : W.heap[h]? = some (.cells #[.slice As left.length cs, .int .i64 taken, .int .i64 e] 48 (0, 0))
  hl : Kd.R (Kd.int .u8) 5 W w.heap.size (fun _ => True) lv left
  hs : Kd.F (Kd.int .u8) W (fun k => w.heap.size ≤ k ∧ k ≠ g ∧ k ≠ h ∧ some k ≠ lv.ownBlock) As left.length left
  hcs : left.length ≤ cs
  below : Below w.heap.size w W
  lo1 : w.heap.size ≤ g
  lo2 : w.heap.size ≤ h
structure Mid (w W : World) (g h b0 : Nat) (left left' : List Int) (taken taken' e e' : Int) (lv : Value) (As : Option Addr) (cs : Nat) (v : Value) (l : List (List Int)) : Prop where
  hg : W.heap[g]? = some (.cells #[.bool true, lv, .int .i64 taken', .int .i64 e'] 43 (0, 0))
  hh : W.heap[h]? = some (.cells #[.slice As left.length cs, .int .i64 taken, .int .i64 e] 48 (0, 0))
  hl : Kd.R (Kd.int .u8) 5 W w.heap.size (fun k => k ≠ b0) lv left'
  hs : Kd.F (Kd.int .u8) W (fun k => w.heap.size ≤ k ∧ k ≠ g ∧ k ≠ h ∧ k < b0 ∧ some k ≠ lv.ownBlock) As left.length left
  hv : Kd.R (Kd.slice 5 (Kd.int .u8)) 22 W (b0 + 1) (fun k => some k ≠ lv.ownBlock) v l
  hcs : left.length ≤ cs
  below : Below w.heap.size w W
  lo1 : w.heap.size ≤ g
  lo2 : w.heap.size ≤ h
  hi1 : g < b0
  hi2 : h < b0
  hb : b0 < W.heap.size
theorem FI.gh {w W : World} {g h : Nat} {left : List Int} {taken e : Int} {lv : Value} {As : Option Addr} {cs : Nat} (H : FI w W g h left taken e lv As cs) : g ≠ h := blk_ne H.hg H.hh (by decide)
theorem Mid.kb {w W W' : World} {g h b0 : Nat} {left left' : List Int} {taken taken' e e' : Int} {lv : Value} {As : Option Addr} {cs : Nat} {v : Value} {l : List (List Int)} (H : Mid w W g h b0 left left' taken taken' e e' lv As cs v l)
    (hk : Kb (fun k => k = b0) W W') : Mid w W' g h b0 left left' taken taken' e e' lv As cs v l := by
  have h1 := H.hi1; have h2 := H.hi2; have h3 := H.lo1
  exact ⟨hk.blk H.hg (by omega), hk.blk H.hh (by omega), Kd.R_step H.hl (fun k hk' hlt => hk.block k hlt hk'), Kd.F_step H.hs (fun k hk' hlt => hk.block k hlt (by have := hk'.2.2.2.1; omega)),
    Kd.R_mono (Kd.R_step (Kd.R_bound H.hv) (fun k hk' hlt => hk.block k hlt (by have := hk'.2.1; omega))) (fun k hk' => hk'.1), H.hcs,
    H.below.trans (hk.to_below (Nat.le_trans h3 (Nat.le_of_lt (blk_lt H.hg))) (fun k e => by omega)), H.lo1, H.lo2, H.hi1, H.hi2, Nat.lt_of_lt_of_le H.hb hk.size⟩
/-- The program's Feed: W the round's head, W1 with the piece's copy (block b0, the last). -/
theorem fed {w W W1 : World} {g h : Nat} {left : List Int} {taken e : Int} {lv : Value} {As : Option Addr} {cs : Nat} (H : FI w W g h left taken e lv As cs) (hb : Below W.heap.size W W1) (hsz : W1.heap.size = W.heap.size + 1)
    (A : Option Addr) (c : Nat) (x : List Int) (hx : Kd.C (Kd.int .u8) W1 A x.length x) (hxc : x.length ≤ c) (hbl : bytesOk left = true) (hbx : bytesOk x = true) (ht : 0 ≤ taken) (hn : taken + left.length + x.length ≤ 3000) :
    Calls Try.prog 32 #[.pointer (some ⟨g, 0, none⟩), .slice A x.length c] W1 fun en W2 => ∃ v lv2, en = .returned (.tuple #[v, .int .i64 (stp left taken e x).2.2.2]) ∧
      Mid w W2 g h W.heap.size left (stp left taken e x).2.1 taken (stp left taken e x).2.2.1 e (stp left taken e x).2.2.2 lv2 As cs v (stp left taken e x).1 ∧ Kb (fun k => k = g ∨ some k = lv.ownBlock) W1 W2 := by
  have hgh := H.gh
  have hgW := blk_lt H.hg
  have hhW := blk_lt H.hh
  have hg1 := blk_below H.hg hb
  have hwW := H.below.size
  have hl1 := Kd.R_below H.hl hb
  by_cases he : e = 0
  · have hst : stp left taken e x = ((spl (left ++ x)).1, (left ++ x).drop (spl (left ++ x)).2.1.toNat, taken + (spl (left ++ x)).2.1, if (spl (left ++ x)).2.2 = 4 then 0 else (spl (left ++ x)).2.2) := by unfold stp; rw [if_pos he]
    rw [hst]
    subst he
    refine (feed g left x lv taken A c w.heap.size W1 hg1 hl1 (by omega) hx hxc (Crc.bytesOk_append hbl hbx) (by rw [List.length_append]; omega) ht (by omega)).mono ?_
    rintro en W2 ⟨v, lv2, rfl, hS, hG, hR, hU⟩
    have hsz2 := hU.size
    have hne : ∀ k, lv.ownBlock = some k → k ≠ h := fun k hk e => by subst e; exact Kd.R_ne H.hl H.hh (by decide) hk.symm
    have hkb : Kb (fun k => k = g ∨ some k = lv.ownBlock) W1 W2 := ⟨hU.os, hU.tape, hU.output, hU.size, fun k hk hn => hU.block k hk (fun e => hn (.inl e)) (fun e => hn (.inr e))⟩
    refine ⟨v, lv2, rfl, ⟨hG, ?_, ?_, ?_, ?_, H.hcs, ?_, H.lo1, H.lo2, hgW, hhW, by omega⟩, hkb⟩
    · exact (hU.block h (by omega) (fun e => hgh e.symm) (fun e => hne h e.symm rfl)).trans (blk_below H.hh hb)
    · exact Kd.R_lower (Kd.R_mono (Kd.R_bound hR) (fun k hk => by have := hk.2.1; omega)) (by omega)
    · refine Kd.F_step (Kd.F_mono (Kd.F_step (Kd.F_bound H.hs) (fun k hk hlt => hb.block k hlt)) (ok' := fun k => w.heap.size ≤ k ∧ k ≠ g ∧ k ≠ h ∧ k < W.heap.size ∧ some k ≠ lv2.ownBlock ∧ some k ≠ lv.ownBlock) (fun k hk => ⟨hk.1.1, hk.1.2.1, hk.1.2.2.1, hk.2, fun e => ?_, hk.1.2.2.2⟩)) (fun k hk hlt => hU.block k hlt hk.2.1 hk.2.2.2.2.2) |> fun h => Kd.F_mono h (fun k hk => ⟨hk.1, hk.2.1, hk.2.2.1, hk.2.2.2.1, hk.2.2.2.2.1⟩)
      have := Kd.R_base hR k e.symm
      have := hk.2
      omega
    · rw [← hsz]; exact Kd.R_mono (Kd.S_R hS) (fun k hk => hk.2)
    · exact H.below.trans ((hb.mono hwW).trans (hkb.to_below (by omega) (fun k hk => by
        rcases hk with rfl | hk
        · exact H.lo1
        · exact Kd.R_base H.hl k hk.symm)))
  · have hst : stp left taken e x = ([], left, taken, e) := by unfold stp; rw [if_neg he]
    rw [hst]
    refine (Ff.feed_broken _ W1 g lv taken e (by simpa using he) hg1).mono ?_
    rintro en W2 ⟨rfl, n, rfl⟩
    refine ⟨_, lv, rfl, ⟨hg1, blk_drewN (blk_below H.hh hb) n, ?_, ?_, Kd.R_nil _ _ _ _ _, H.hcs, H.below.trans (pw_below_drewN (hb.mono hwW) n), H.lo1, H.lo2, hgW, hhW, by show W.heap.size < W1.heap.size; omega⟩, Kb.drewN _ _ _⟩
    · exact Kd.R_drewN (Kd.R_mono (Kd.R_step (Kd.R_bound H.hl) (fun k hk hlt => hb.block k hlt)) (fun k hk => by have := hk.2.2.1; omega)) n
    · exact Kd.F_drewN (Kd.F_mono (Kd.F_step (Kd.F_bound H.hs) (fun k hk hlt => hb.block k hlt)) (fun k hk => ⟨hk.1.1, hk.1.2.1, hk.1.2.2.1, hk.2, hk.1.2.2.2⟩)) n
structure Fin (w W : World) (g h b0 N : Nat) (left : List Int) (taken e : Int) (lv : Value) (As : Option Addr) (cs : Nat) (v : Value) (l : List (List Int)) (Am : Option Addr) (cm : Nat) : Prop where
  hg : W.heap[g]? = some (.cells #[.bool true, lv, .int .i64 taken, .int .i64 e] 43 (0, 0))
  hh : W.heap[h]? = some (.cells #[.slice As left.length cs, .int .i64 taken, .int .i64 e] 48 (0, 0))
  hl : Kd.R (Kd.int .u8) 5 W w.heap.size (fun _ => True) lv left
  hs : Kd.F (Kd.int .u8) W (fun k => w.heap.size ≤ k ∧ k ≠ g ∧ k ≠ h ∧ some k ≠ lv.ownBlock ∧ (k < b0 ∨ N ≤ k)) As left.length left
  hv : Kd.R (Kd.slice 5 (Kd.int .u8)) 22 W (b0 + 1) (fun k => some k ≠ lv.ownBlock ∧ k < N) v l
  hm : Kd.C (Kd.slice 5 (Kd.int .u8)) W Am l.length l
  hmc : l.length ≤ cm
  hcs : left.length ≤ cs
  below : Below w.heap.size w W
  lo1 : w.heap.size ≤ g
  lo2 : w.heap.size ≤ h
  hi1 : g < b0
  hi2 : h < b0
  hN : N ≤ W.heap.size
/-- The reference's Feed. -/
theorem refed {w W : World} {g h b0 : Nat} {left : List Int} {taken e : Int} {x : List Int} {lv : Value} {As : Option Addr} {cs : Nat} {v : Value}
    (H : Mid w W g h b0 left (stp left taken e x).2.1 taken (stp left taken e x).2.2.1 e (stp left taken e x).2.2.2 lv As cs v (stp left taken e x).1)
    (A : Option Addr) (c : Nat) (hx : Kd.C (Kd.int .u8) W A x.length x) (hxc : x.length ≤ c) (hbl : bytesOk left = true) (hbx : bytesOk x = true) (ht : 0 ≤ taken) (hn : taken + left.length + x.length ≤ 3000) :
    Calls Try.prog 36 #[.pointer (some ⟨h, 0, none⟩), .slice A x.length c] W fun en W2 => ∃ Am cm As' cs', en = .returned (.tuple #[.slice Am (stp left taken e x).1.length cm, .int .i64 (stp left taken e x).2.2.2]) ∧
      Fin w W2 g h b0 W.heap.size (stp left taken e x).2.1 (stp left taken e x).2.2.1 (stp left taken e x).2.2.2 lv As' cs' v (stp left taken e x).1 Am cm := by
  have hgh : g ≠ h := blk_ne H.hg H.hh (by decide)
  have hgW := blk_lt H.hg
  have hhW := blk_lt H.hh
  have h1 := H.hi1; have h2 := H.hi2; have h3 := H.hb; have h4 := H.lo1; have h5 := H.lo2
  by_cases he : e = 0
  · have hst : stp left taken e x = ((spl (left ++ x)).1, (left ++ x).drop (spl (left ++ x)).2.1.toNat, taken + (spl (left ++ x)).2.1, if (spl (left ++ x)).2.2 = 4 then 0 else (spl (left ++ x)).2.2) := by unfold stp; rw [if_pos he]
    rw [hst] at H ⊢
    subst he
    refine (Ff.ref_feed h left x As cs taken A c W H.hh (Kd.F_now H.hs) H.hcs hx hxc (Crc.bytesOk_append hbl hbx) (by rw [List.length_append]; omega) ht (by omega)).mono ?_
    rintro en W2 ⟨vm, As', cs', rfl, hS, hG, hF, hc', hU⟩
    have hsz2 := hU.size
    have hkb : Kb (fun k => k = h) W W2 := ⟨hU.os, hU.tape, hU.output, hU.size, fun k hk hn => hU.block k hk hn (by simp)⟩
    obtain ⟨Am, cm, rfl⟩ := Kd.S_slice hS
    obtain ⟨_, hmc, hmC⟩ := Kd.S_reads' hS
    have hne : ∀ k, lv.ownBlock = some k → k < W.heap.size := fun k hk => ((Kd.R_bound H.hl).1 k hk).2.2.1
    refine ⟨Am, cm, As', cs', rfl, ⟨hkb.blk H.hg hgh, hG, ?_, ?_, ?_, hmC, hmc, hc', H.below.trans (hkb.to_below (by omega) (fun k hk => by omega)), h4, h5, h1, h2, hsz2⟩⟩
    · exact Kd.R_mono (Kd.R_step (Kd.R_types H.hl H.hh (by decide)) (fun k hk hlt => hkb.block k hlt hk.2)) (fun _ _ => trivial)
    · refine Kd.F_mono hF (fun k hk => ⟨by omega, by omega, by omega, fun e => ?_, .inr hk⟩)
      have := hne k e.symm
      omega
    · exact Kd.R_mono (Kd.R_step (Kd.R_bound (Kd.R_types H.hv H.hh (by decide))) (fun k hk hlt => hkb.block k hlt hk.1.2)) (fun k hk => ⟨hk.1.1, hk.2.2.1⟩)
  · have hst : stp left taken e x = ([], left, taken, e) := by unfold stp; rw [if_neg he]
    rw [hst] at H ⊢
    refine (Ff.ref_broken _ _ W h taken e (by simpa using he) H.hh).mono ?_
    rintro en W2 ⟨rfl, n, rfl⟩
    refine ⟨none, 0, As, cs, rfl, ⟨H.hg, H.hh, ?_, ?_, ?_, Kd.C_nil _ _, Nat.le_refl _, H.hcs, pw_below_drewN H.below n, h4, h5, h1, h2, Nat.le_refl _⟩⟩
    · exact Kd.R_drewN (Kd.R_mono H.hl (fun _ _ => trivial)) n
    · exact Kd.F_drewN (Kd.F_mono H.hs (fun k hk => ⟨hk.1, hk.2.1, hk.2.2.1, hk.2.2.2.2, .inl hk.2.2.2.1⟩)) n
    · exact Kd.R_drewN (Kd.R_mono (Kd.R_bound H.hv) (fun k hk => ⟨hk.1, hk.2.2.1⟩)) n
/-- Behind the writing over. -/
theorem Fin.over {w W W' : World} {g h b0 N : Nat} {left : List Int} {taken e : Int} {lv : Value} {As : Option Addr} {cs : Nat} {v : Value} {l : List (List Int)} {Am : Option Addr} {cm : Nat} (H : Fin w W g h b0 N left taken e lv As cs v l Am cm)
    (hk : Kb (fun k => b0 ≤ k ∧ k < N ∧ some k ≠ lv.ownBlock) W W') : FI w W' g h left taken e lv As cs := by
  have h1 := H.hi1; have h2 := H.hi2; have h4 := H.lo1; have h5 := H.lo2
  refine ⟨hk.blk H.hg (by omega), hk.blk H.hh (by omega), ?_, ?_, H.hcs, ?_, h4, h5⟩
  · exact Kd.R_mono (Kd.R_step (Kd.R_tight rfl H.hl) (fun k hk' hlt => hk.block k hlt (fun e => e.2.2 hk'))) (fun _ _ => trivial)
  · exact Kd.F_mono (Kd.F_step H.hs (fun k hk' hlt => hk.block k hlt (by omega))) (fun k hk' => ⟨hk'.1, hk'.2.1, hk'.2.2.1, hk'.2.2.2.1⟩)
  · exact H.below.trans (hk.to_below (by have := blk_lt H.hg; omega) (fun k e => by omega))
end Go.Proofs.Ytobgijpbfmpdaaa.Fi
