/-
  Derivations of matches; the plain law of DerivationOfMatch. No program in sight. No condition.
-/
import Derived.Test.YtgojoooilijiiaaPRules
import Derived.Test.YtgojoooilijiiaaPMatch
namespace Go.Fn
open Go Go.Tc
end Go.Fn
