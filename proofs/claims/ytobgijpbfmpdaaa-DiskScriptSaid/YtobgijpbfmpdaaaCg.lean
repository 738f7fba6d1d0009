/- A change of a disk: its contract. -/
import Derived.Test.YtobgijpbfmpdaaaLs
set_option linter.unusedVariables false
set_option linter.unusedSimpArgs false
set_option maxRecDepth 100000
namespace Go.Proofs.Ytobgijpbfmpdaaa.Ls
open Go.RowKit Go.Proofs.YtobgijpbfmpdaaaW.PrintWords Go.Proofs.YtobgijpbfmpdaaaW.PrintLast Go.Proofs.YtobgijpbfmpdaaaW.PrintMore
open Go.Proofs.Ytobgijpbfmpdaaa.Fm Go.Proofs.Ytobgijpbfmpdaaa.Mp Go.Proofs.Ytobgijpbfmpdaaa.Dk Go.Proofs.Ytobgijpbfmpdaaa.PDp
set_option maxHeartbeats 8000000
abbrev key (s : ByteArray) : Ky := s.data.toList
/-- What a change comes to. -/
def chF (off : Bool) (fuse : Int) (F : Fls) (x : S93) : Bool × Int × Fls × Int :=
  if x.f0 = 0 then appR off fuse F (key x.f1) x.f3
  else if x.f0 = 1 then askR off fuse F (put F (key x.f1) ((cur F (key x.f1)).1, (cur F (key x.f1)).1.length)) (key x.f1)
  else if x.f0 = 2 then askR off fuse F (put (Mp.del F (key x.f1)) (key x.f2) (cur F (key x.f1))) (key x.f1)
  else askR off fuse F (Mp.del F (key x.f1)) (key x.f1)
theorem change_c (g b n : Nat) (off : Bool) (fuse : Int) (F : List (Ky × Cont)) (S : Nat → Prop) (x : S93) (Ad : Option Addr) (cd : Nat) (Ak : Option Addr) (ck : Nat) (W : World) (D : Dsk W g b n off fuse F S) (hs : x.f1.size ≤ maxLen) (ht : x.f2.size ≤ maxLen)
    (hC : Kd.C (Kd.int .u8) W Ad x.f3.length x.f3) (hn : n < maxLen) (hfresh : ∀ k, W.heap.size ≤ k → S k) (hl : (cur F (key x.f1)).1.length + x.f3.length ≤ 1000000) (hfu : -1 ≤ fuse ∧ fuse ≤ 9223372036854775807) :
    Calls Try.prog 69 #[.pointer (some ⟨g, 0, none⟩), .agg #[.int .u8 x.f0, .string x.f1, .string x.f2, .slice Ad x.f3.length cd, .int .i64 x.f4, .slice Ak x.f5.length ck]] W fun e W' => e = .returned (.int .i64 (chF off fuse F x).2.2.2) ∧
      Dsk W' g b (n + 1) (chF off fuse F x).1 (chF off fuse F x).2.1 (chF off fuse F x).2.2.1 S ∧ Kb (fun k => k = g ∨ k = b) W W' := by
  have hba : Below W.heap.size W (W.alloc (.cells #[.int .u8 x.f0, .string x.f1, .string x.f2, .slice Ad x.f3.length cd, .int .i64 x.f4, .slice Ak x.f5.length ck] 93)) := below_alloc (Below.refl _ _) _
  have HD := Aside0.mk (D.below hba)
  have HC := Aside0.mk (Kd.C_below hC hba)
  have HS := Aside0.mk (fun k hk => hfresh k (Nat.le_trans hba.size hk))
  have HB := Aside0.mk hba
  clear D hC hba hfresh
  by_cases h0 : x.f0 = 0
  · rw [show chF off fuse F x = appR off fuse F (key x.f1) x.f3 from by unfold chF; rw [if_pos h0]]
    have b0 : (x.f0 == 0) = true := by simpa using h0
    clear h0
    go_enter Try.func69, Try.ntmps69
    go_wp2_with (first
        | ((with_reducible refine gate_callee (f := 62) rfl ?_); refine goesL_ (some 14) rfl rfl Try.func62 (by kernel_rfl) rfl #[.pointer (some ⟨g, 0, none⟩), .string x.f1, .slice Ad x.f3.length cd] rfl (by (try simp only [List.map_toArray, List.map_cons, List.map_nil]); first | done | rfl) ?_; refine (append_dsk _ _ _ _ _ _ _ x.f1 Ad cd x.f3 _ HD.out hs HC.out hn HS.out hl hfu).mono ?_; rintro e w2 ⟨rfl, hD, hK⟩; refine ⟨_, rfl, ?_⟩; have HD2 := Aside0.mk hD; have HK2 := Aside0.mk hK; clear hD hK)
        | fail)
    go_ret
    exact ⟨rfl, HD2.out, (Kb.of_below _ HB.out).trans HK2.out⟩
  · skip
    by_cases h1 : x.f0 = 1
    · rw [show chF off fuse F x = askR off fuse F (put F (key x.f1) ((cur F (key x.f1)).1, (cur F (key x.f1)).1.length)) (key x.f1) from by unfold chF; rw [if_neg h0, if_pos h1]]
      have b0 : (x.f0 == 0) = false := by simpa using h0
      have b1 : (x.f0 == 1) = true := by simpa using h1
      clear h1
      go_enter Try.func69, Try.ntmps69
      go_wp2_with (first
          | ((with_reducible refine gate_callee (f := 63) rfl ?_); refine goesL_ (some 20) rfl rfl Try.func63 (by kernel_rfl) rfl #[.pointer (some ⟨g, 0, none⟩), .string x.f1] rfl (by (try simp only [List.map_toArray, List.map_cons, List.map_nil]); first | done | rfl) ?_; refine (sync_dsk _ _ _ _ _ _ _ x.f1 _ HD.out hs hn hfu).mono ?_; rintro e w2 ⟨rfl, hD, hK⟩; refine ⟨_, rfl, ?_⟩; have HD2 := Aside0.mk hD; have HK2 := Aside0.mk hK; clear hD hK)
          | fail)
      go_ret
      exact ⟨rfl, HD2.out, (Kb.of_below _ HB.out).trans HK2.out⟩
    · skip
      by_cases h2 : x.f0 = 2
      · rw [show chF off fuse F x = askR off fuse F (put (Mp.del F (key x.f1)) (key x.f2) (cur F (key x.f1))) (key x.f1) from by unfold chF; rw [if_neg h0, if_neg h1, if_pos h2]]
        have b0 : (x.f0 == 0) = false := by simpa using h0
        have b1 : (x.f0 == 1) = false := by simpa using h1
        have b2 : (x.f0 == 2) = true := by simpa using h2
        clear h2
        go_enter Try.func69, Try.ntmps69
        go_wp2_with (first
            | ((with_reducible refine gate_callee (f := 77) rfl ?_); refine goesL_ (some 28) rfl rfl Try.func77 (by kernel_rfl) rfl #[.pointer (some ⟨g, 0, none⟩), .string x.f1, .string x.f2] rfl (by (try simp only [List.map_toArray, List.map_cons, List.map_nil]); first | done | rfl) ?_; refine (rename_dsk _ _ _ _ _ _ _ x.f1 x.f2 _ HD.out hs ht hn hfu).mono ?_; rintro e w2 ⟨rfl, hD, hK⟩; refine ⟨_, rfl, ?_⟩; have HD2 := Aside0.mk hD; have HK2 := Aside0.mk hK; clear hD hK)
            | fail)
        go_ret
        exact ⟨rfl, HD2.out, (Kb.of_below _ HB.out).trans HK2.out⟩
      · skip
        rw [show chF off fuse F x = askR off fuse F (Mp.del F (key x.f1)) (key x.f1) from by unfold chF; rw [if_neg h0, if_neg h1, if_neg h2]]
        have b0 : (x.f0 == 0) = false := by simpa using h0
        have b1 : (x.f0 == 1) = false := by simpa using h1
        have b2 : (x.f0 == 2) = false := by simpa using h2
        go_enter Try.func69, Try.ntmps69
        go_wp2_with (first
            | ((with_reducible refine gate_callee (f := 74) rfl ?_); refine goesL_ (some 32) rfl rfl Try.func74 (by kernel_rfl) rfl #[.pointer (some ⟨g, 0, none⟩), .string x.f1] rfl (by (try simp only [List.map_toArray, List.map_cons, List.map_nil]); first | done | rfl) ?_; refine (remove_dsk _ _ _ _ _ _ _ x.f1 _ HD.out hs hfu).mono ?_; rintro e w2 ⟨rfl, hD, hK⟩; refine ⟨_, rfl, ?_⟩; have HD2 := Aside0.mk hD; have HK2 := Aside0.mk hK; clear hD hK)
            | fail)
        go_ret
        exact ⟨rfl, HD2.out, (Kb.of_below _ HB.out).trans HK2.out⟩
end Go.Proofs.Ytobgijpbfmpdaaa.Ls
