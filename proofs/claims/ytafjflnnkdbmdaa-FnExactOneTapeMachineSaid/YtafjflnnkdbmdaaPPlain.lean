/-
  Dominoes of dominoes and of rules: the plain laws of PlainDominoes and RewritesToDominoes. No program in sight. No condition.
-/
import Derived.Test.YtafjflnnkdbmdaaPDom
namespace Go.Tc
open Go
end Go.Tc
namespace Go.Fn
open Go Go.Tc
end Go.Fn
