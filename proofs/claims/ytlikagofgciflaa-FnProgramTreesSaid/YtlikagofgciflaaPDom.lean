/-
  Dominoes: words, lists of dominoes, matches; the plain law of MatchWord. No program in sight. No condition.
-/
import Derived.Test.YtlikagofgciflaaPRun
import Derived.Test.YtlikagofgciflaaLaw
namespace Go.Fn
open Go Go.Tc
end Go.Fn
