/-
  Dominoes: words, lists of dominoes, matches; the plain law of MatchWord. No program in sight. No condition.
-/
import Derived.Test.YtneglngdbcefgaaPRun
import Derived.Test.YtneglngdbcefgaaLaw
namespace Go.Fn
open Go Go.Tc
def wordB (xs : List Int) : Bool := decide (xs.length ≤ 400) && xs.all fun x => inB x 0 9
theorem spec_same (a b : List Int) (h : a.length ≤ 1048576) : F_spec_l00Same a b = some (decide (a = b)) := by
  have := impl_equal a b h
  unfold F_slices_Equal_Sint64_int64 at this
  unfold F_spec_l00Same
  exact this
end Go.Fn
