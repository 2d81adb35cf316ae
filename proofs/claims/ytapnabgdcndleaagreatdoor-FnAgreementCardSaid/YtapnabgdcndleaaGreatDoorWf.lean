/-
  What is known of a datum that came in. No condition.
-/
import Derived.Test.YtapnabgdcndleaaGreatDoorTy
namespace Go.Fn
open Go Go.Tc
end Go.Fn
