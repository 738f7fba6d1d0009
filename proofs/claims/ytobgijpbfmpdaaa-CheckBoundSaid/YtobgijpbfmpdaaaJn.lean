/- The facts of a row that the kernel counts, each by itself, put together. -/
import Derived.JoinedOf
namespace Go.Proofs.Ytobgijpbfmpdaaa.Mine
open Go
theorem joined_of {P : Program} {f : FuncId} {fn : Func} {s : ChangeSpec} {c : OpenClaim}
    (a1 : c.wf (OpenSpec.ofChange s) = true) (a2 : laidOutB P = true) (a3 : mapsRowed P = true)
    (a4 : (fn.params.all (P.readableRec ·) && namedTie P c.named s.vars && (c.stops == []) && (c.knobs == [])) = true)
    (a5 : (P.stops == []) = true) (a6 : (P.stopKnobs == []) = true)
    (a7 : (c.inPlace == P.inPlace f) = true) (a8 : (c.unfollowed == P.unfollowed f) = true) (a9 : (c.recurses == P.recurses f) = true) (a10 : (c.named == P.varsNamed f) = true)
    (a11 : ((c.maps == (fn.params.toList ++ s.plain.varTypes P).any (P.mapsRec ·)) && (c.ifaces == (fn.params.toList ++ s.plain.varTypes P).any (P.ifacesRec ·)) && (c.mapsOut == P.mapsAmong fn.resultTypes.toList) &&
      (c.loops == (fn.params.toList ++ s.plain.varTypes P).any (P.loopsFrom ·)) && (c.wideKeys == (fn.params.toList ++ s.plain.varTypes P ++ fn.resultTypes.toList).any (P.wideKeysFrom ·)) &&
      s.vars.all (P.varReadable ·) && fn.resultTypes.all (fun t => P.readableRec t && decide (t < P.types.size)) && (c.ifacesOut == fn.resultTypes.toList.any (P.ifacesRec ·)) && (c.loopsOut == fn.resultTypes.toList.any (P.loopsFrom ·))) = true)
    (a12 : (c.plainKeys == P.plainKeys) = true) (a13 : c.shortTexts.isNone = true) (a14 : P.stopsHeard = true) (a15 : P.mayEnter = true) (a16 : (c.lifted == P.liftsFinal) = true) (a17 : (P.make == some c.make) = true)
    (a18 : (c.domain.isEmpty && (c.kinds == []) && (c.pinned == c.pinnedBy) &&
      (c.veiled == (fn.params.toList ++ s.plain.varTypes P ++ fn.resultTypes.toList).any (P.veiledRec ·)) && c.veiledFits P fn.params.toList (fn.params.toList ++ s.plain.varTypes P ++ fn.resultTypes.toList)) = true) :
    joinedFacts P f fn s c = true := by
  simp only [Bool.and_eq_true] at a4 a11 a18
  unfold joinedFacts
  simp only [Bool.and_eq_true]
  obtain ⟨⟨⟨b1, b2⟩, b3⟩, b4⟩ := a4
  obtain ⟨⟨⟨⟨⟨⟨⟨⟨c1, c2⟩, c3⟩, c4⟩, c5⟩, c6⟩, c7⟩, c8⟩, c9⟩ := a11
  obtain ⟨⟨⟨⟨d0, d1⟩, d2⟩, d3⟩, d4⟩ := a18
  rw [if_pos d0]
  exact ⟨⟨⟨⟨⟨⟨⟨⟨⟨⟨⟨⟨⟨⟨⟨⟨⟨⟨⟨⟨⟨⟨⟨⟨⟨⟨⟨⟨⟨⟨⟨a1, a2⟩, a3⟩, b1⟩, b2⟩, b3⟩, a5⟩, b4⟩, a6⟩, a7⟩, a8⟩, a9⟩, a10⟩, c1⟩, c2⟩, c3⟩, c4⟩, c5⟩, c6⟩, c7⟩, c8⟩, c9⟩, a12⟩, a13⟩, a14⟩, a15⟩, a16⟩, a17⟩, d1⟩, d2⟩, d3⟩, d4⟩
end Go.Proofs.Ytobgijpbfmpdaaa.Mine
