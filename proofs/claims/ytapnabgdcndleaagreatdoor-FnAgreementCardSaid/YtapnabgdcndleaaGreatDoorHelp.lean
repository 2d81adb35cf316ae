/-
  The laws' own helpers: copies are copies, a datum is equal to itself, what a size check leaves is small: printed by program. No condition.
-/
import Derived.Test.YtapnabgdcndleaaGreatDoorFn
import Derived.Test.YtapnabgdcndleaaGreatDoorPure
import Derived.Test.YtapnabgdcndleaaGreatDoorWf
namespace Go.Fn
open Go Go.Tc
instance:AR ai:=⟨λ_ _=>True,λ_ h=>h⟩
instance:AR O:=⟨λk t=>AR.bd k t.aB,λh k=>AR.mono h k⟩
instance:AR U:=⟨λk t=>AR.bd k t.Left/\AR.bd k t.ak,λh k=>⟨AR.mono h k.1,AR.mono h k.2⟩⟩
end Go.Fn
