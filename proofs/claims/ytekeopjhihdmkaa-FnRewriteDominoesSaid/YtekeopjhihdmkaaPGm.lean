/-
  Structures that plain texts speak of, where the seat's program lacks them. No condition.
-/
import Derived.Test.YtekeopjhihdmkaaTy
namespace Go.Fn
structure Gmove where
  rule : Int
  at_ : Int
  word : List Int
structure Gfound where
  move_rule : Int
  move_at_ : Int
  move_word : List Int
  parent : Int
end Go.Fn
