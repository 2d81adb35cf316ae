/-
  Derivations of matches; the plain law of DerivationOfMatch. No program in sight. No condition.
-/
import Derived.Test.YtabpcmbohmodnaaDoorPRules
import Derived.Test.YtabpcmbohmodnaaDoorPMatch
namespace Go.Fn
open Go Go.Tc
end Go.Fn
