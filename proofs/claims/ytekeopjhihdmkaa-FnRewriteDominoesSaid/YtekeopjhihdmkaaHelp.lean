/-
  The laws' own helpers: copies are copies, a datum is equal to itself, what a size check leaves is small: printed by program. No condition.
-/
import Derived.Test.YtekeopjhihdmkaaFn
import Derived.Test.YtekeopjhihdmkaaPure
import Derived.Test.YtekeopjhihdmkaaWf
namespace Go.Fn
open Go Go.Tc
instance : Cnt GRewrite := ⟨fun t => Cnt.cnt t.From + Cnt.cnt t.To⟩
instance : Bdd GRewrite := ⟨fun k t => Bdd.bd k t.From ∧ Bdd.bd k t.To, fun h k => ⟨Bdd.mono h k.1, Bdd.mono h k.2⟩⟩
instance : Cnt GDomino := ⟨fun t => Cnt.cnt t.Top + Cnt.cnt t.Bottom⟩
instance : Bdd GDomino := ⟨fun k t => Bdd.bd k t.Top ∧ Bdd.bd k t.Bottom, fun h k => ⟨Bdd.mono h k.1, Bdd.mono h k.2⟩⟩

end Go.Fn
