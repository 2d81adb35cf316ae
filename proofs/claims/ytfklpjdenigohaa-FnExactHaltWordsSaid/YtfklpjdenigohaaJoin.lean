/-
  The closed facts of a row, one by one. No condition.
-/
import Derived.JoinedOf
namespace Go.Tc
open Go
def kindsOk (P : Program) (fn : Func) (c : OpenClaim) : Bool := ((c.kinds == (if c.domain.isEmpty then [] else fn.params.toList.map fun t => match P.underlying t with | some (.int k) => some k | _ => none)) && (c.pinned == c.pinnedBy))
theorem joined_of {P : Program} {f : FuncId} {fn : Func} {s : ChangeSpec} {c : OpenClaim} (h1 : c.wf (OpenSpec.ofChange s) = true) (h2 : laidOutB P = true)
    (h3 : (mapsRowed P && fn.params.all (P.readableRec ·) && namedTie P c.named s.vars) = true) (h4 : ((c.stops == []) && (P.stops == []) && (c.knobs == []) && (P.stopKnobs == [])) = true)
    (h5 : (c.inPlace == P.inPlace f) = true) (h6 : (c.unfollowed == P.unfollowed f) = true) (h7 : (c.recurses == P.recurses f) = true) (h8 : (c.named == P.varsNamed f) = true)
    (h9 : ((c.maps == (fn.params.toList ++ s.plain.varTypes P).any (P.mapsRec ·)) && (c.ifaces == (fn.params.toList ++ s.plain.varTypes P).any (P.ifacesRec ·)) && (c.mapsOut == P.mapsAmong fn.resultTypes.toList)) = true)
    (h10 : ((c.loops == (fn.params.toList ++ s.plain.varTypes P).any (P.loopsFrom ·)) && (c.wideKeys == (fn.params.toList ++ s.plain.varTypes P ++ fn.resultTypes.toList).any (P.wideKeysFrom ·))) = true)
    (h11 : (s.vars.all (P.varReadable ·) && fn.resultTypes.all (fun t => P.readableRec t && decide (t < P.types.size)) && (c.ifacesOut == fn.resultTypes.toList.any (P.ifacesRec ·)) && (c.loopsOut == fn.resultTypes.toList.any (P.loopsFrom ·)) && (c.plainKeys == P.plainKeys) && c.shortTexts.isNone) = true)
    (h12 : P.stopsHeard = true) (h13 : P.mayEnter = true) (h14 : (c.lifted == P.liftsFinal) = true) (h15 : (P.make == some c.make) = true)
    (h16 : kindsOk P fn c = true)
    (h17 : ((c.veiled == (fn.params.toList ++ s.plain.varTypes P ++ fn.resultTypes.toList).any (P.veiledRec ·)) && c.veiledFits P fn.params.toList (fn.params.toList ++ s.plain.varTypes P ++ fn.resultTypes.toList)) = true) :
    joinedFacts P f fn s c = true := by
  unfold joinedFacts
  unfold kindsOk at h16
  rw [Bool.and_eq_true, Bool.and_eq_true] at h3
  rw [Bool.and_eq_true, Bool.and_eq_true, Bool.and_eq_true] at h4
  rw [Bool.and_eq_true, Bool.and_eq_true] at h9
  rw [Bool.and_eq_true] at h10 h16 h17
  rw [Bool.and_eq_true, Bool.and_eq_true, Bool.and_eq_true, Bool.and_eq_true, Bool.and_eq_true] at h11
  obtain ⟨⟨a1, a2⟩, a3⟩ := h3
  obtain ⟨⟨⟨b1, b2⟩, b3⟩, b4⟩ := h4
  obtain ⟨⟨c1, c2⟩, c3⟩ := h9
  obtain ⟨d1, d2⟩ := h10
  obtain ⟨⟨⟨⟨⟨e1, e2⟩, e3⟩, e4⟩, e5⟩, e6⟩ := h11
  obtain ⟨f1, f2⟩ := h16
  obtain ⟨g1, g2⟩ := h17
  iterate 31 (refine Bool.and_eq_true_iff.2 ⟨?_, by assumption⟩)
  assumption
end Go.Tc
